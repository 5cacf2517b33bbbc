/- Walks of the functions that the law of Keep reaches: what each of them computes, where its pure function does not fail. -/
import Derived.Test.YtcdpmfnjajjlkaaDoorFnsKeep
import Derived.Test.YtcdpmfnjajjlkaaDoorChecked
set_option linter.unusedSimpArgs false
set_option linter.unusedVariables false
namespace Go.Abs.M
open Go Go.Abs Go.Proofs
theorem cl10 : callable Tryd.prog 10 = true := by kernel_rfl
theorem cl102 : callable Tryd.prog 102 = true := by kernel_rfl
theorem cl105 : callable Tryd.prog 105 = true := by kernel_rfl
theorem cl11 : callable Tryd.prog 11 = true := by kernel_rfl
theorem cl113 : callable Tryd.prog 113 = true := by kernel_rfl
theorem cl114 : callable Tryd.prog 114 = true := by kernel_rfl
theorem cl39 : callable Tryd.prog 39 = true := by kernel_rfl
theorem cl40 : callable Tryd.prog 40 = true := by kernel_rfl
theorem cl41 : callable Tryd.prog 41 = true := by kernel_rfl
theorem cl42 : callable Tryd.prog 42 = true := by kernel_rfl
theorem cl43 : callable Tryd.prog 43 = true := by kernel_rfl
theorem cl44 : callable Tryd.prog 44 = true := by kernel_rfl
theorem cl45 : callable Tryd.prog 45 = true := by kernel_rfl
theorem cl46 : callable Tryd.prog 46 = true := by kernel_rfl
theorem cl53 : callable Tryd.prog 53 = true := by kernel_rfl
theorem cl54 : callable Tryd.prog 54 = true := by kernel_rfl
theorem cl55 : callable Tryd.prog 55 = true := by kernel_rfl
theorem cl65 : callable Tryd.prog 65 = true := by kernel_rfl
theorem cl66 : callable Tryd.prog 66 = true := by kernel_rfl
theorem cl74 : callable Tryd.prog 74 = true := by kernel_rfl
theorem cl79 : callable Tryd.prog 79 = true := by kernel_rfl
theorem cl80 : callable Tryd.prog 80 = true := by kernel_rfl
theorem cl85 : callable Tryd.prog 85 = true := by kernel_rfl
theorem cl86 : callable Tryd.prog 86 = true := by kernel_rfl
theorem cl87 : callable Tryd.prog 87 = true := by kernel_rfl
theorem cl88 : callable Tryd.prog 88 = true := by kernel_rfl
theorem cl89 : callable Tryd.prog 89 = true := by kernel_rfl
theorem cl9 : callable Tryd.prog 9 = true := by kernel_rfl
theorem cl90 : callable Tryd.prog 90 = true := by kernel_rfl
theorem fd105_0 : fldTy Tryd.prog 105 0 = some (0, 0 + 1, false) := by kernel_rfl
theorem fd105_1 : fldTy Tryd.prog 105 1 = some (1, 0 + 1, false) := by kernel_rfl
theorem fd105_2 : fldTy Tryd.prog 105 2 = some (2, 0 + 1, false) := by kernel_rfl
theorem fd105_3 : fldTy Tryd.prog 105 3 = some (3, 0 + 1, false) := by kernel_rfl
theorem fd105_4 : fldTy Tryd.prog 105 4 = some (4, 0 + 1, false) := by kernel_rfl
theorem fd105_5 : fldTy Tryd.prog 105 5 = some (5, 0 + 1, false) := by kernel_rfl
theorem fd23_0 : fldTy Tryd.prog 23 0 = some (0, 0 + 1, false) := by kernel_rfl
theorem fd23_1 : fldTy Tryd.prog 23 1 = some (1, 0 + 1, false) := by kernel_rfl
theorem fd26_0 : fldTy Tryd.prog 26 0 = some (0, 1 + 1, true) := by kernel_rfl
theorem fd26_1 : fldTy Tryd.prog 26 1 = some (2, 0 + 1, false) := by kernel_rfl
theorem fd26_2 : fldTy Tryd.prog 26 2 = some (3, 0 + 1, false) := by kernel_rfl
theorem fd26_3 : fldTy Tryd.prog 26 3 = some (4, 0 + 1, false) := by kernel_rfl
theorem fd26_4 : fldTy Tryd.prog 26 4 = some (5, 0 + 1, false) := by kernel_rfl
theorem fd29_0 : fldTy Tryd.prog 29 0 = some (0, 0 + 1, false) := by kernel_rfl
theorem fd29_1 : fldTy Tryd.prog 29 1 = some (1, 0 + 1, false) := by kernel_rfl
theorem fd32_0 : fldTy Tryd.prog 32 0 = some (0, 1 + 1, true) := by kernel_rfl
theorem fd32_1 : fldTy Tryd.prog 32 1 = some (2, 0 + 1, false) := by kernel_rfl
theorem fd32_2 : fldTy Tryd.prog 32 2 = some (3, 0 + 1, false) := by kernel_rfl
theorem fd32_3 : fldTy Tryd.prog 32 3 = some (4, 0 + 1, false) := by kernel_rfl
theorem fd32_4 : fldTy Tryd.prog 32 4 = some (5, 0 + 1, false) := by kernel_rfl
theorem fd38_0 : fldTy Tryd.prog 38 0 = some (0, 0 + 1, false) := by kernel_rfl
theorem fd38_1 : fldTy Tryd.prog 38 1 = some (1, 0 + 1, false) := by kernel_rfl
theorem fd43_0 : fldTy Tryd.prog 43 0 = some (0, 0 + 1, false) := by kernel_rfl
theorem fd43_1 : fldTy Tryd.prog 43 1 = some (1, 0 + 1, false) := by kernel_rfl
theorem fd60_0 : fldTy Tryd.prog 60 0 = some (0, 0 + 1, false) := by kernel_rfl
theorem fd60_1 : fldTy Tryd.prog 60 1 = some (1, 0 + 1, false) := by kernel_rfl
theorem fd60_2 : fldTy Tryd.prog 60 2 = some (2, 0 + 1, false) := by kernel_rfl
theorem fd60_3 : fldTy Tryd.prog 60 3 = some (3, 0 + 1, false) := by kernel_rfl
theorem fd60_4 : fldTy Tryd.prog 60 4 = some (4, 0 + 1, false) := by kernel_rfl
theorem fd60_5 : fldTy Tryd.prog 60 5 = some (5, 0 + 1, false) := by kernel_rfl
theorem fk29 : flatK Tryd.prog 29 = some [2, 1] := by kernel_rfl
theorem ik3 : intK Tryd.prog 3 = some .i64 := by kernel_rfl
theorem ik5 : intK Tryd.prog 5 = some .u8 := by kernel_rfl
theorem iss9 : isStr Tryd.prog 9 = true := by kernel_rfl
theorem sl108 : slTy Tryd.prog 108 = some (9, 1, 16) := by kernel_rfl
theorem sl24 : slTy Tryd.prog 24 = some (105, 6, 72) := by kernel_rfl
theorem sl30 : slTy Tryd.prog 30 = some (60, 6, 72) := by kernel_rfl
theorem sl36 : slTy Tryd.prog 36 = some (26, 6, 72) := by kernel_rfl
theorem sl41 : slTy Tryd.prog 41 = some (32, 6, 72) := by kernel_rfl
theorem stc43 : strTy Tryd.prog 43 = some ([(0, 1), (1, 1)], [.int .i64 0, .slice none 0 0]) := by kernel_rfl
theorem ty105 : tyK Tryd.prog 105 = some (true, 6) := by kernel_rfl
theorem ty23 : tyK Tryd.prog 23 = some (true, 2) := by kernel_rfl
theorem ty24 : tyK Tryd.prog 24 = some (false, 1) := by kernel_rfl
theorem ty26 : tyK Tryd.prog 26 = some (true, 6) := by kernel_rfl
theorem ty29 : tyK Tryd.prog 29 = some (true, 2) := by kernel_rfl
theorem ty3 : tyK Tryd.prog 3 = some (false, 1) := by kernel_rfl
theorem ty30 : tyK Tryd.prog 30 = some (false, 1) := by kernel_rfl
theorem ty32 : tyK Tryd.prog 32 = some (true, 6) := by kernel_rfl
theorem ty36 : tyK Tryd.prog 36 = some (false, 1) := by kernel_rfl
theorem ty41 : tyK Tryd.prog 41 = some (false, 1) := by kernel_rfl
theorem ty43 : tyK Tryd.prog 43 = some (true, 2) := by kernel_rfl
theorem ty60 : tyK Tryd.prog 60 = some (true, 6) := by kernel_rfl
theorem ty9 : tyK Tryd.prog 9 = some (false, 1) := by kernel_rfl
theorem zc29 : zeroC Tryd.prog 29 = some [.string ⟨#[]⟩, .int .i64 0] := by kernel_rfl
theorem zc32 : zeroC Tryd.prog 32 = some [.string ⟨#[]⟩, .int .i64 0, .int .i64 0, .slice none 0 0, .int .i64 0, .int .i64 0] := by kernel_rfl
theorem zc43 : zeroC Tryd.prog 43 = some [.int .i64 0, .slice none 0 0] := by kernel_rfl
theorem zc60 : zeroC Tryd.prog 60 = some [.string ⟨#[]⟩, .int .i64 0, .int .i64 0, .int .i64 0, .string ⟨#[]⟩, .string ⟨#[]⟩] := by kernel_rfl
theorem zc9 : zeroC Tryd.prog 9 = some [.string ⟨#[]⟩] := by kernel_rfl
theorem mixed : Tryd.prog.follows .mixedOrders = true := by kernel_rfl
/- laws.szQuest -/

set_option maxRecDepth 4000 in
set_option maxHeartbeats 800000 in
theorem ww_szQuest (p0 : Quest) (p1 : Int) (r0 : Int) (h : w_szQuest p0 p1 = some r0) : Runs Tryd.prog 39 [.agg (questV p0), .sc (.int .i64 p1)] [] (.sc (.int .i64 r0)) [] := by
 unfold w_szQuest at h
 refine runsR [.tmp 4] Tryd.func39 rfl rfl rfl rfl ?_
 rw [Tryd.ntmps39]
 refine tri_sr ?_
 refine s_box rfl rfl rfl rfl rfl rfl rfl ?_
 refine s_mv (.inr rfl) (v := .sc (.int .i64 0)) rfl rfl rfl rfl ?_
 refine rt_nil ?_
 refine tri_sr ?_
 refine m1 ?_
 refine s_fieldAddr rfl rfl fd23_0 rfl rfl rfl rfl ?_
 refine s_load rfl rfl rfl rfl ty9 rfl (.inr rfl) (by conv => lhs; whnf) rfl rfl rfl ?_
 refine s_of (st_lenS rfl rfl iss9) rfl rfl rfl rfl ?_
 refine grd_elim h fun g1 h => ?_
 refine s_subI rfl rfl rfl rfl g1 rfl rfl rfl ?_
 refine m2 ?_
 refine rt_nil ?_
 refine tri_seq ?_
 refine tri_sr ?_
 refine m1 ?_
 refine s_of (st_lss rfl rfl rfl) rfl rfl rfl rfl ?_
 refine rt_nil ?_
 refine tri_cond rfl (fun c2 => ?_) (fun c2 => ?_)
 ·replace h := cond_t h c2
  refine tri_sr ?_
  refine s_mv (.inr rfl) (v := .sc (.int .i64 (-1))) rfl rfl rfl rfl ?_
  refine rt_nil ?_
  refine tri_ret ?_
  have e0 := (some1 h); subst e0
  exact endY [] [] (rvC (resTmp rfl) rvN) trivial trivial rfl rfl rfl rfl (.free rfl)
 ·replace h := cond_f h c2
  refine tri_skip ?_
  refine tri_sr ?_
  refine m1 ?_
  refine m2 ?_
  refine rt_nil ?_
  refine tri_ret ?_
  have e0 := (some1 h); subst e0
  exact endY [] [] (rvC (resTmp rfl) rvN) trivial trivial rfl rfl rfl rfl (.free rfl)

/- laws.szRecord -/

set_option maxRecDepth 4000 in
set_option maxHeartbeats 800000 in
theorem ww_szRecord (p0 : Rec) (p1 : Int) (r0 : Int) (h : w_szRecord p0 p1 = some r0) : Runs Tryd.prog 85 [.agg (recV p0), .sc (.int .i64 p1)] [] (.sc (.int .i64 r0)) [] := by
 unfold w_szRecord at h
 refine runsR [.tmp 4] Tryd.func85 rfl rfl rfl rfl ?_
 rw [Tryd.ntmps85]
 refine tri_sr ?_
 refine s_box rfl rfl rfl rfl rfl rfl rfl ?_
 refine s_mv (.inr rfl) (v := .sc (.int .i64 0)) rfl rfl rfl rfl ?_
 refine rt_nil ?_
 refine tri_sr ?_
 refine m1 ?_
 refine s_fieldAddr rfl rfl fd105_0 rfl rfl rfl rfl ?_
 refine s_load rfl rfl rfl rfl ty9 rfl (.inr rfl) (by conv => lhs; whnf) rfl rfl rfl ?_
 refine s_of (st_lenS rfl rfl iss9) rfl rfl rfl rfl ?_
 refine grd_elim h fun g1 h => ?_
 refine s_subI rfl rfl rfl rfl g1 rfl rfl rfl ?_
 refine m2 ?_
 refine rt_nil ?_
 refine tri_seq ?_
 refine tri_sr ?_
 refine m1 ?_
 refine s_of (st_lss rfl rfl rfl) rfl rfl rfl rfl ?_
 refine rt_nil ?_
 refine tri_cond rfl (fun c2 => ?_) (fun c2 => ?_)
 ·replace h := cond_t h c2
  refine tri_sr ?_
  refine s_mv (.inr rfl) (v := .sc (.int .i64 (-1))) rfl rfl rfl rfl ?_
  refine rt_nil ?_
  refine tri_ret ?_
  have e0 := (some1 h); subst e0
  exact endY [] [] (rvC (resTmp rfl) rvN) trivial trivial rfl rfl rfl rfl (.free rfl)
 ·replace h := cond_f h c2
  refine tri_skip ?_
  refine tri_sr ?_
  refine m1 ?_
  refine s_fieldAddr rfl rfl fd105_4 rfl rfl rfl rfl ?_
  refine s_load rfl rfl rfl rfl ty9 rfl (.inr rfl) (by conv => lhs; whnf) rfl rfl rfl ?_
  refine s_of (st_lenS rfl rfl iss9) rfl rfl rfl rfl ?_
  refine grd_elim h fun g3 h => ?_
  refine s_subI rfl rfl rfl rfl g3 rfl rfl rfl ?_
  refine m2 ?_
  refine rt_nil ?_
  refine tri_seq ?_
  refine tri_sr ?_
  refine m1 ?_
  refine s_of (st_lss rfl rfl rfl) rfl rfl rfl rfl ?_
  refine rt_nil ?_
  refine tri_cond rfl (fun c4 => ?_) (fun c4 => ?_)
  ·replace h := cond_t h c4
   refine tri_sr ?_
   refine s_mv (.inr rfl) (v := .sc (.int .i64 (-1))) rfl rfl rfl rfl ?_
   refine rt_nil ?_
   refine tri_ret ?_
   have e0 := (some1 h); subst e0
   exact endY [] [] (rvC (resTmp rfl) rvN) trivial trivial rfl rfl rfl rfl (.free rfl)
  ·replace h := cond_f h c4
   refine tri_skip ?_
   refine tri_sr ?_
   refine m1 ?_
   refine s_fieldAddr rfl rfl fd105_5 rfl rfl rfl rfl ?_
   refine s_load rfl rfl rfl rfl ty9 rfl (.inr rfl) (by conv => lhs; whnf) rfl rfl rfl ?_
   refine s_of (st_lenS rfl rfl iss9) rfl rfl rfl rfl ?_
   refine grd_elim h fun g5 h => ?_
   refine s_subI rfl rfl rfl rfl g5 rfl rfl rfl ?_
   refine m2 ?_
   refine rt_nil ?_
   refine tri_seq ?_
   refine tri_sr ?_
   refine m1 ?_
   refine s_of (st_lss rfl rfl rfl) rfl rfl rfl rfl ?_
   refine rt_nil ?_
   refine tri_cond rfl (fun c6 => ?_) (fun c6 => ?_)
   ·replace h := cond_t h c6
    refine tri_sr ?_
    refine s_mv (.inr rfl) (v := .sc (.int .i64 (-1))) rfl rfl rfl rfl ?_
    refine rt_nil ?_
    refine tri_ret ?_
    have e0 := (some1 h); subst e0
    exact endY [] [] (rvC (resTmp rfl) rvN) trivial trivial rfl rfl rfl rfl (.free rfl)
   ·replace h := cond_f h c6
    refine tri_skip ?_
    refine tri_sr ?_
    refine m1 ?_
    refine m2 ?_
    refine rt_nil ?_
    refine tri_ret ?_
    have e0 := (some1 h); subst e0
    exact endY [] [] (rvC (resTmp rfl) rvN) trivial trivial rfl rfl rfl rfl (.free rfl)

/- laws.szRecordS -/
def inv_w_szRecordS_0 (p0 : List Rec) (v0_0 : Int) (v0_1 : Nat) : St := mkT 27 [(0, .lst 6 (List.map recV p0)), (1, .sc (.int .i64 v0_0)), (5, .sc (.int .i64 (v0_1 : Int)))] []
set_option maxRecDepth 4000 in
set_option maxHeartbeats 800000 in
theorem ww_szRecordS (p0 : List Rec) (p1 : Int) (r0 : Int) (h : w_szRecordS p0 p1 = some r0) : Runs Tryd.prog 40 [.lst 6 (List.map recV p0), .sc (.int .i64 p1)] [] (.sc (.int .i64 r0)) [] := by
 unfold w_szRecordS at h
 refine runsR [.tmp 4] Tryd.func40 rfl rfl rfl rfl ?_
 rw [Tryd.ntmps40]
 refine tri_sr ?_
 refine s_mv (.inr rfl) (v := .sc (.int .i64 0)) rfl rfl rfl rfl ?_
 refine rt_nil ?_
 refine tri_sr ?_
 refine m1 ?_
 refine m1 ?_
 refine s_lenL rfl sl24 rfl rfl rfl rfl ?_
 refine grd_elim h fun g1 h => ?_
 refine s_subI rfl rfl rfl rfl g1 rfl rfl rfl ?_
 refine m2 ?_
 refine rt_nil ?_
 refine tri_seq ?_
 refine tri_sr ?_
 refine m1 ?_
 refine s_of (st_lss rfl rfl rfl) rfl rfl rfl rfl ?_
 refine rt_nil ?_
 refine tri_cond rfl (fun c2 => ?_) (fun c2 => ?_)
 ·replace h := cond_t h c2
  refine tri_sr ?_
  refine s_mv (.inr rfl) (v := .sc (.int .i64 (-1))) rfl rfl rfl rfl ?_
  refine rt_nil ?_
  refine tri_ret ?_
  have e0 := (some1 h); subst e0
  exact endY [] [] (rvC (resTmp rfl) rvN) trivial trivial rfl rfl rfl rfl (.free rfl)
 ·replace h := cond_f h c2
  refine tri_skip ?_
  refine tri_seq ?_
  refine tri_sr ?_
  refine s_mv (.inr rfl) (v := .sc (.int .i64 0)) rfl rfl rfl rfl ?_
  refine rt_nil ?_
  refine tri_block ?_
  refine tri_lstM 0 rfl (fun hl0 => ?_)
  refine tri_loop (ι := { p : (List Rec) × Int × Nat // p0.drop p.2.2 = p.1 ∧ w_szRecordS_l0 p.1 p.2.1 p.2.2 = some r0 }) (fun p => inv_w_szRecordS_0 p0 p.1.2.1 p.1.2.2) (fun p => p.1.1.length) ⟨(p0, p1 - (p0.length : Int), 0), rfl, h⟩ ?_ ?_
  ·skip
   refine entX [] [] trivial trivial rfl rfl ?_
   exact ⟨(.free rfl), (.free rfl), (.free rfl), trivial⟩
  ·rintro ⟨⟨lrs0, v0_0, v0_1⟩, hd0, h⟩
   replace hd0 : p0.drop v0_1 = lrs0 := hd0
   replace h : w_szRecordS_l0 lrs0 v0_0 v0_1 = some r0 := h
   show Tri _ _ _ (inv_w_szRecordS_0 p0 v0_0 v0_1)
   refine tri_seq ?_
   refine tri_sr ?_
   refine m1 ?_
   refine m1 ?_
   refine s_lenL rfl sl24 rfl rfl rfl rfl ?_
   refine s_of (st_lss rfl rfl rfl) rfl rfl rfl rfl ?_
   refine rt_nil ?_
   refine tri_cond rfl (fun c3 => ?_) (fun c3 => ?_)
   ·refine drop_elim hd0 c3 fun e0 rs0 he hx0 hn0 => ?_
    subst he
    rw [w_szRecordS_l0] at h
    refine tri_skip ?_
    refine tri_seq ?_
    refine tri_block ?_
    refine tri_sr ?_
    refine m1 ?_
    refine m1 ?_
    refine s_indexF (i := v0_1) rfl rfl rfl sl24 (get_ltM hx0) rfl rfl rfl ?_
    refine s_loadFR rfl rfl (rowG hx0) ty105 rfl rfl rfl ?_
    refine m1 ?_
    refine bnd1_elim h fun x4 q5 h => ?_
    refine s_callN (kb := []) (ns := []) (v := .sc (.int .i64 x4)) rfl rfl cl85 (ww_szRecord e0 v0_0 x4 q5) rfl (.cons (relAgg rfl) (.cons (.free rfl) .nil)) trivial memNil .nil memNil rfl trivial memNil rfl rfl rfl rfl rfl rfl ?_
    refine m2 ?_
    refine rt_nil ?_
    refine tri_sr ?_
    refine m1 ?_
    refine s_of (st_lss rfl rfl rfl) rfl rfl rfl rfl ?_
    refine rt_nil ?_
    refine tri_cond rfl (fun c6 => ?_) (fun c6 => ?_)
    ·replace h := cond_t h c6
     refine tri_sr ?_
     refine s_mv (.inr rfl) (v := .sc (.int .i64 (-1))) rfl rfl rfl rfl ?_
     refine rt_nil ?_
     refine tri_ret ?_
     have e0 := (some1 h); subst e0
     exact endY [] [] (rvC (resTmp rfl) rvN) trivial trivial rfl rfl rfl rfl (.free rfl)
    ·replace h := cond_f h c6
     refine tri_skip ?_
     refine tri_region ?_
     refine m1 ?_
     refine s_inc (a := v0_1) (b := 1) rfl rfl rfl rfl (by have := get_lt hx0; have := hl0; omega) rfl rfl rfl ?_
     refine m2 ?_
     refine rt_nil ?_
     refine Exists.intro ⟨(rs0, x4, (v0_1 + 1)), hn0, h⟩ (And.intro (Nat.lt_succ_self _) ?_)
     refine entX [] [] trivial trivial rfl rfl ?_
     exact ⟨(.free rfl), (.free rfl), (.free rfl), trivial⟩
   ·have he := drop_f hd0 c3; subst he
    rw [w_szRecordS_l0] at h
    refine tri_exit ?_
    refine tri_sr ?_
    refine m1 ?_
    refine m2 ?_
    refine rt_nil ?_
    refine tri_ret ?_
    have e0 := (some1 h); subst e0
    exact endY [] [] (rvC (resTmp rfl) rvN) trivial trivial rfl rfl rfl rfl (.free rfl)

/- laws.szEntry -/

set_option maxRecDepth 4000 in
set_option maxHeartbeats 800000 in
theorem ww_szEntry (p0 : MEntry) (p1 : Int) (r0 : Int) (h : w_szEntry p0 p1 = some r0) : Runs Tryd.prog 9 [.agg (mEntryV p0), .sc (.int .i64 p1)] [] (.sc (.int .i64 r0)) [] := by
 unfold w_szEntry at h
 refine runsR [.tmp 4] Tryd.func9 rfl rfl rfl rfl ?_
 rw [Tryd.ntmps9]
 refine tri_sr ?_
 refine s_box rfl rfl rfl rfl rfl rfl rfl ?_
 refine s_mv (.inr rfl) (v := .sc (.int .i64 0)) rfl rfl rfl rfl ?_
 refine rt_nil ?_
 refine tri_sr ?_
 refine s_fieldAddr rfl rfl fd26_0 rfl rfl rfl rfl ?_
 refine s_load (v := .agg (questV p0.q)) rfl rfl rfl rfl ty23 rfl (.inl rfl) rfl rfl rfl rfl ?_
 refine m1 ?_
 refine bnd1_elim h fun x1 q2 h => ?_
 refine s_callN (kb := []) (ns := []) (v := .sc (.int .i64 x1)) rfl rfl cl39 (ww_szQuest p0.q p1 x1 q2) rfl (.cons (relAgg rfl) (.cons (.free rfl) .nil)) trivial memNil .nil memNil rfl trivial memNil rfl rfl rfl rfl rfl rfl ?_
 refine m2 ?_
 refine rt_nil ?_
 refine tri_seq ?_
 refine tri_sr ?_
 refine m1 ?_
 refine s_of (st_lss rfl rfl rfl) rfl rfl rfl rfl ?_
 refine rt_nil ?_
 refine tri_cond rfl (fun c3 => ?_) (fun c3 => ?_)
 ·replace h := cond_t h c3
  refine tri_sr ?_
  refine s_mv (.inr rfl) (v := .sc (.int .i64 (-1))) rfl rfl rfl rfl ?_
  refine rt_nil ?_
  refine tri_ret ?_
  have e0 := (some1 h); subst e0
  exact endY [] [] (rvC (resTmp rfl) rvN) trivial trivial rfl rfl rfl rfl (.free rfl)
 ·replace h := cond_f h c3
  refine tri_skip ?_
  refine tri_sr ?_
  refine s_fieldAddr rfl rfl fd26_2 rfl rfl rfl rfl ?_
  refine s_load rfl rfl rfl rfl ty24 rfl (.inr rfl) (by conv => lhs; whnf) rfl rfl rfl ?_
  refine m1 ?_
  refine bnd1_elim h fun x4 q5 h => ?_
  refine s_callN (kb := []) (ns := []) (v := .sc (.int .i64 x4)) rfl rfl cl40 (ww_szRecordS p0.l x1 x4 q5) rfl (.cons (.free rfl) (.cons (.free rfl) .nil)) trivial memNil .nil memNil rfl trivial memNil rfl rfl rfl rfl rfl rfl ?_
  refine m2 ?_
  refine rt_nil ?_
  refine tri_seq ?_
  refine tri_sr ?_
  refine m1 ?_
  refine s_of (st_lss rfl rfl rfl) rfl rfl rfl rfl ?_
  refine rt_nil ?_
  refine tri_cond rfl (fun c6 => ?_) (fun c6 => ?_)
  ·replace h := cond_t h c6
   refine tri_sr ?_
   refine s_mv (.inr rfl) (v := .sc (.int .i64 (-1))) rfl rfl rfl rfl ?_
   refine rt_nil ?_
   refine tri_ret ?_
   have e0 := (some1 h); subst e0
   exact endY [] [] (rvC (resTmp rfl) rvN) trivial trivial rfl rfl rfl rfl (.free rfl)
  ·replace h := cond_f h c6
   refine tri_skip ?_
   refine tri_sr ?_
   refine m1 ?_
   refine m2 ?_
   refine rt_nil ?_
   refine tri_ret ?_
   have e0 := (some1 h); subst e0
   exact endY [] [] (rvC (resTmp rfl) rvN) trivial trivial rfl rfl rfl rfl (.free rfl)

/- laws.szEntryS -/
def inv_w_szEntryS_0 (p0 : List MEntry) (v0_0 : Int) (v0_1 : Nat) : St := mkT 27 [(0, .lst 6 (List.map mEntryV p0)), (1, .sc (.int .i64 v0_0)), (5, .sc (.int .i64 (v0_1 : Int)))] []
set_option maxRecDepth 4000 in
set_option maxHeartbeats 800000 in
theorem ww_szEntryS (p0 : List MEntry) (p1 : Int) (r0 : Int) (h : w_szEntryS p0 p1 = some r0) : Runs Tryd.prog 53 [.lst 6 (List.map mEntryV p0), .sc (.int .i64 p1)] [] (.sc (.int .i64 r0)) [] := by
 unfold w_szEntryS at h
 refine runsR [.tmp 4] Tryd.func53 rfl rfl rfl rfl ?_
 rw [Tryd.ntmps53]
 refine tri_sr ?_
 refine s_mv (.inr rfl) (v := .sc (.int .i64 0)) rfl rfl rfl rfl ?_
 refine rt_nil ?_
 refine tri_sr ?_
 refine m1 ?_
 refine m1 ?_
 refine s_lenL rfl sl36 rfl rfl rfl rfl ?_
 refine grd_elim h fun g1 h => ?_
 refine s_subI rfl rfl rfl rfl g1 rfl rfl rfl ?_
 refine m2 ?_
 refine rt_nil ?_
 refine tri_seq ?_
 refine tri_sr ?_
 refine m1 ?_
 refine s_of (st_lss rfl rfl rfl) rfl rfl rfl rfl ?_
 refine rt_nil ?_
 refine tri_cond rfl (fun c2 => ?_) (fun c2 => ?_)
 ·replace h := cond_t h c2
  refine tri_sr ?_
  refine s_mv (.inr rfl) (v := .sc (.int .i64 (-1))) rfl rfl rfl rfl ?_
  refine rt_nil ?_
  refine tri_ret ?_
  have e0 := (some1 h); subst e0
  exact endY [] [] (rvC (resTmp rfl) rvN) trivial trivial rfl rfl rfl rfl (.free rfl)
 ·replace h := cond_f h c2
  refine tri_skip ?_
  refine tri_seq ?_
  refine tri_sr ?_
  refine s_mv (.inr rfl) (v := .sc (.int .i64 0)) rfl rfl rfl rfl ?_
  refine rt_nil ?_
  refine tri_block ?_
  refine tri_lstM 0 rfl (fun hl0 => ?_)
  refine tri_loop (ι := { p : (List MEntry) × Int × Nat // p0.drop p.2.2 = p.1 ∧ w_szEntryS_l0 p.1 p.2.1 p.2.2 = some r0 }) (fun p => inv_w_szEntryS_0 p0 p.1.2.1 p.1.2.2) (fun p => p.1.1.length) ⟨(p0, p1 - (p0.length : Int), 0), rfl, h⟩ ?_ ?_
  ·skip
   refine entX [] [] trivial trivial rfl rfl ?_
   exact ⟨(.free rfl), (.free rfl), (.free rfl), trivial⟩
  ·rintro ⟨⟨lrs0, v0_0, v0_1⟩, hd0, h⟩
   replace hd0 : p0.drop v0_1 = lrs0 := hd0
   replace h : w_szEntryS_l0 lrs0 v0_0 v0_1 = some r0 := h
   show Tri _ _ _ (inv_w_szEntryS_0 p0 v0_0 v0_1)
   refine tri_seq ?_
   refine tri_sr ?_
   refine m1 ?_
   refine m1 ?_
   refine s_lenL rfl sl36 rfl rfl rfl rfl ?_
   refine s_of (st_lss rfl rfl rfl) rfl rfl rfl rfl ?_
   refine rt_nil ?_
   refine tri_cond rfl (fun c3 => ?_) (fun c3 => ?_)
   ·refine drop_elim hd0 c3 fun e0 rs0 he hx0 hn0 => ?_
    subst he
    rw [w_szEntryS_l0] at h
    refine tri_skip ?_
    refine tri_seq ?_
    refine tri_block ?_
    refine tri_sr ?_
    refine m1 ?_
    refine m1 ?_
    refine s_indexF (i := v0_1) rfl rfl rfl sl36 (get_ltM hx0) rfl rfl rfl ?_
    refine s_loadFR rfl rfl (rowG hx0) ty26 rfl rfl rfl ?_
    refine m1 ?_
    refine bnd1_elim h fun x4 q5 h => ?_
    refine s_callN (kb := []) (ns := []) (v := .sc (.int .i64 x4)) rfl rfl cl9 (ww_szEntry e0 v0_0 x4 q5) rfl (.cons (relAgg rfl) (.cons (.free rfl) .nil)) trivial memNil .nil memNil rfl trivial memNil rfl rfl rfl rfl rfl rfl ?_
    refine m2 ?_
    refine rt_nil ?_
    refine tri_sr ?_
    refine m1 ?_
    refine s_of (st_lss rfl rfl rfl) rfl rfl rfl rfl ?_
    refine rt_nil ?_
    refine tri_cond rfl (fun c6 => ?_) (fun c6 => ?_)
    ·replace h := cond_t h c6
     refine tri_sr ?_
     refine s_mv (.inr rfl) (v := .sc (.int .i64 (-1))) rfl rfl rfl rfl ?_
     refine rt_nil ?_
     refine tri_ret ?_
     have e0 := (some1 h); subst e0
     exact endY [] [] (rvC (resTmp rfl) rvN) trivial trivial rfl rfl rfl rfl (.free rfl)
    ·replace h := cond_f h c6
     refine tri_skip ?_
     refine tri_region ?_
     refine m1 ?_
     refine s_inc (a := v0_1) (b := 1) rfl rfl rfl rfl (by have := get_lt hx0; have := hl0; omega) rfl rfl rfl ?_
     refine m2 ?_
     refine rt_nil ?_
     refine Exists.intro ⟨(rs0, x4, (v0_1 + 1)), hn0, h⟩ (And.intro (Nat.lt_succ_self _) ?_)
     refine entX [] [] trivial trivial rfl rfl ?_
     exact ⟨(.free rfl), (.free rfl), (.free rfl), trivial⟩
   ·have he := drop_f hd0 c3; subst he
    rw [w_szEntryS_l0] at h
    refine tri_exit ?_
    refine tri_sr ?_
    refine m1 ?_
    refine m2 ?_
    refine rt_nil ?_
    refine tri_ret ?_
    have e0 := (some1 h); subst e0
    exact endY [] [] (rvC (resTmp rfl) rvN) trivial trivial rfl rfl rfl rfl (.free rfl)

/- laws.szCache -/

set_option maxRecDepth 4000 in
set_option maxHeartbeats 800000 in
theorem ww_szCache (p0 : MCache) (p1 : Int) (r0 : Int) (h : w_szCache p0 p1 = some r0) : Runs Tryd.prog 14 [.agg (mCacheV p0), .sc (.int .i64 p1)] [] (.sc (.int .i64 r0)) [] := by
 unfold w_szCache at h
 refine runsR [.tmp 4] Tryd.func14 rfl rfl rfl rfl ?_
 rw [Tryd.ntmps14]
 refine tri_sr ?_
 refine s_box rfl rfl rfl rfl rfl rfl rfl ?_
 refine s_mv (.inr rfl) (v := .sc (.int .i64 0)) rfl rfl rfl rfl ?_
 refine rt_nil ?_
 refine tri_sr ?_
 refine s_fieldAddr rfl rfl fd38_1 rfl rfl rfl rfl ?_
 refine s_load rfl rfl rfl rfl ty36 rfl (.inr rfl) (by conv => lhs; whnf) rfl rfl rfl ?_
 refine m1 ?_
 refine bnd1_elim h fun x1 q2 h => ?_
 refine s_callN (kb := []) (ns := []) (v := .sc (.int .i64 x1)) rfl rfl cl53 (ww_szEntryS p0.l p1 x1 q2) rfl (.cons (.free rfl) (.cons (.free rfl) .nil)) trivial memNil .nil memNil rfl trivial memNil rfl rfl rfl rfl rfl rfl ?_
 refine m2 ?_
 refine rt_nil ?_
 refine tri_seq ?_
 refine tri_sr ?_
 refine m1 ?_
 refine s_of (st_lss rfl rfl rfl) rfl rfl rfl rfl ?_
 refine rt_nil ?_
 refine tri_cond rfl (fun c3 => ?_) (fun c3 => ?_)
 ·replace h := cond_t h c3
  refine tri_sr ?_
  refine s_mv (.inr rfl) (v := .sc (.int .i64 (-1))) rfl rfl rfl rfl ?_
  refine rt_nil ?_
  refine tri_ret ?_
  have e0 := (some1 h); subst e0
  exact endY [] [] (rvC (resTmp rfl) rvN) trivial trivial rfl rfl rfl rfl (.free rfl)
 ·replace h := cond_f h c3
  refine tri_skip ?_
  refine tri_sr ?_
  refine m1 ?_
  refine m2 ?_
  refine rt_nil ?_
  refine tri_ret ?_
  have e0 := (some1 h); subst e0
  exact endY [] [] (rvC (resTmp rfl) rvN) trivial trivial rfl rfl rfl rfl (.free rfl)

/- laws.toQuest -/

set_option maxRecDepth 4000 in
set_option maxHeartbeats 800000 in
theorem ww_toQuest (p0 : Quest) (r0 : Quest) (h : w_toQuest p0 = some r0) : Runs Tryd.prog 45 [.agg (questV p0)] [] (.agg (questV r0)) [] := by
 unfold w_toQuest at h
 refine runsR [.cell 2 29] Tryd.func45 rfl rfl rfl rfl ?_
 rw [Tryd.ntmps45]
 refine tri_sr ?_
 refine s_box rfl rfl rfl rfl rfl rfl rfl ?_
 refine s_alloc rfl rfl rfl zc29 rfl rfl rfl rfl rfl ?_
 refine rt_nil ?_
 refine tri_sr ?_
 refine s_alloc rfl rfl rfl zc29 rfl rfl rfl rfl rfl ?_
 refine rt_nil ?_
 refine tri_sr ?_
 refine s_fieldAddr rfl rfl fd23_0 rfl rfl rfl rfl ?_
 refine s_load rfl rfl rfl rfl ty9 rfl (.inr rfl) (by conv => lhs; whnf) rfl rfl rfl ?_
 refine s_fieldAddr rfl rfl fd29_0 rfl rfl rfl rfl ?_
 refine s_store (rows' := [[.sc (.string p0.name), .sc (.int .i64 0)]]) rfl rfl rfl rfl ty9 rfl rfl rfl rfl rfl rfl ?_
 refine rt_nil ?_
 refine tri_sr ?_
 refine s_fieldAddr rfl rfl fd23_1 rfl rfl rfl rfl ?_
 refine s_load rfl rfl rfl rfl ty3 rfl (.inr rfl) (by conv => lhs; whnf) rfl rfl rfl ?_
 refine s_fieldAddr rfl rfl fd29_1 rfl rfl rfl rfl ?_
 refine s_store (rows' := [[.sc (.string p0.name), .sc (.int .i64 p0.ty)]]) rfl rfl rfl rfl ty3 rfl rfl rfl rfl rfl rfl ?_
 refine rt_nil ?_
 refine tri_sr ?_
 refine s_loadR rfl rfl rfl rfl ty29 rfl rfl rfl ?_
 refine s_storeB rfl rfl rfl ty29 rfl rfl rfl rfl rfl ?_
 refine rt_nil ?_
 refine tri_ret ?_
 have e0 := (some1 h); subst e0
 exact endY [] [] (rvC (resCell rfl rfl ty29) rvN) trivial trivial rfl rfl rfl rfl (cvAgg rfl)

/- laws.toRecord -/

set_option maxRecDepth 4000 in
set_option maxHeartbeats 800000 in
theorem ww_toRecord (p0 : Rec) (r0 : Rec) (h : w_toRecord p0 = some r0) : Runs Tryd.prog 90 [.agg (recV p0)] [] (.agg (recV r0)) [] := by
 unfold w_toRecord at h
 refine runsR [.cell 2 60] Tryd.func90 rfl rfl rfl rfl ?_
 rw [Tryd.ntmps90]
 refine tri_sr ?_
 refine s_box rfl rfl rfl rfl rfl rfl rfl ?_
 refine s_alloc rfl rfl rfl zc60 rfl rfl rfl rfl rfl ?_
 refine rt_nil ?_
 refine tri_sr ?_
 refine s_alloc rfl rfl rfl zc60 rfl rfl rfl rfl rfl ?_
 refine rt_nil ?_
 refine tri_sr ?_
 refine s_fieldAddr rfl rfl fd105_0 rfl rfl rfl rfl ?_
 refine s_load rfl rfl rfl rfl ty9 rfl (.inr rfl) (by conv => lhs; whnf) rfl rfl rfl ?_
 refine s_fieldAddr rfl rfl fd60_0 rfl rfl rfl rfl ?_
 refine s_store (rows' := [[.sc (.string p0.name), .sc (.int .i64 0), .sc (.int .i64 0), .sc (.int .i64 0), .sc (.string (⟨#[]⟩ : ByteArray)), .sc (.string (⟨#[]⟩ : ByteArray))]]) rfl rfl rfl rfl ty9 rfl rfl rfl rfl rfl rfl ?_
 refine rt_nil ?_
 refine tri_sr ?_
 refine s_fieldAddr rfl rfl fd105_1 rfl rfl rfl rfl ?_
 refine s_load rfl rfl rfl rfl ty3 rfl (.inr rfl) (by conv => lhs; whnf) rfl rfl rfl ?_
 refine s_fieldAddr rfl rfl fd60_1 rfl rfl rfl rfl ?_
 refine s_store (rows' := [[.sc (.string p0.name), .sc (.int .i64 p0.ty), .sc (.int .i64 0), .sc (.int .i64 0), .sc (.string (⟨#[]⟩ : ByteArray)), .sc (.string (⟨#[]⟩ : ByteArray))]]) rfl rfl rfl rfl ty3 rfl rfl rfl rfl rfl rfl ?_
 refine rt_nil ?_
 refine tri_sr ?_
 refine s_fieldAddr rfl rfl fd105_2 rfl rfl rfl rfl ?_
 refine s_load rfl rfl rfl rfl ty3 rfl (.inr rfl) (by conv => lhs; whnf) rfl rfl rfl ?_
 refine s_fieldAddr rfl rfl fd60_2 rfl rfl rfl rfl ?_
 refine s_store (rows' := [[.sc (.string p0.name), .sc (.int .i64 p0.ty), .sc (.int .i64 p0.ttl), .sc (.int .i64 0), .sc (.string (⟨#[]⟩ : ByteArray)), .sc (.string (⟨#[]⟩ : ByteArray))]]) rfl rfl rfl rfl ty3 rfl rfl rfl rfl rfl rfl ?_
 refine rt_nil ?_
 refine tri_sr ?_
 refine s_fieldAddr rfl rfl fd105_3 rfl rfl rfl rfl ?_
 refine s_load rfl rfl rfl rfl ty3 rfl (.inr rfl) (by conv => lhs; whnf) rfl rfl rfl ?_
 refine s_fieldAddr rfl rfl fd60_3 rfl rfl rfl rfl ?_
 refine s_store (rows' := [[.sc (.string p0.name), .sc (.int .i64 p0.ty), .sc (.int .i64 p0.ttl), .sc (.int .i64 p0.n), .sc (.string (⟨#[]⟩ : ByteArray)), .sc (.string (⟨#[]⟩ : ByteArray))]]) rfl rfl rfl rfl ty3 rfl rfl rfl rfl rfl rfl ?_
 refine rt_nil ?_
 refine tri_sr ?_
 refine s_fieldAddr rfl rfl fd105_4 rfl rfl rfl rfl ?_
 refine s_load rfl rfl rfl rfl ty9 rfl (.inr rfl) (by conv => lhs; whnf) rfl rfl rfl ?_
 refine s_fieldAddr rfl rfl fd60_4 rfl rfl rfl rfl ?_
 refine s_store (rows' := [[.sc (.string p0.name), .sc (.int .i64 p0.ty), .sc (.int .i64 p0.ttl), .sc (.int .i64 p0.n), .sc (.string p0.host), .sc (.string (⟨#[]⟩ : ByteArray))]]) rfl rfl rfl rfl ty9 rfl rfl rfl rfl rfl rfl ?_
 refine rt_nil ?_
 refine tri_sr ?_
 refine s_fieldAddr rfl rfl fd105_5 rfl rfl rfl rfl ?_
 refine s_load rfl rfl rfl rfl ty9 rfl (.inr rfl) (by conv => lhs; whnf) rfl rfl rfl ?_
 refine s_fieldAddr rfl rfl fd60_5 rfl rfl rfl rfl ?_
 refine s_store (rows' := [[.sc (.string p0.name), .sc (.int .i64 p0.ty), .sc (.int .i64 p0.ttl), .sc (.int .i64 p0.n), .sc (.string p0.host), .sc (.string p0.text)]]) rfl rfl rfl rfl ty9 rfl rfl rfl rfl rfl rfl ?_
 refine rt_nil ?_
 refine tri_sr ?_
 refine s_loadR rfl rfl rfl rfl ty60 rfl rfl rfl ?_
 refine s_storeB rfl rfl rfl ty60 rfl rfl rfl rfl rfl ?_
 refine rt_nil ?_
 refine tri_ret ?_
 have e0 := (some1 h); subst e0
 exact endY [] [] (rvC (resCell rfl rfl ty60) rvN) trivial trivial rfl rfl rfl rfl (cvAgg rfl)

/- laws.toRecordS -/
def inv_w_toRecordS_0 (p0 : List Rec) (v0_0 : List Rec) (v0_1 : Nat) : St := mkT 23 [(0, .lst 6 (List.map recV p0)), (3, .ref (7, 0) 0 v0_0.length), (4, .sc (.int .i64 (v0_1 : Int)))] [((7, 0), some ⟨60, 6, List.map recV v0_0, false, true⟩)]
set_option maxRecDepth 4000 in
set_option maxHeartbeats 800000 in
theorem ww_toRecordS (p0 : List Rec) (r0 : List Rec) (h : w_toRecordS p0 = some r0) : Runs Tryd.prog 46 [.lst 6 (List.map recV p0)] [] (.own 60 6 (List.map recV r0)) [] := by
 unfold w_toRecordS at h
 refine runsR [.tmp 2] Tryd.func46 rfl rfl rfl rfl ?_
 rw [Tryd.ntmps46]
 refine tri_sr ?_
 refine s_mv (.inr rfl) (v := .nils) rfl rfl rfl rfl ?_
 refine rt_nil ?_
 refine tri_sr ?_
 refine m1 ?_
 refine s_lenL rfl sl24 rfl rfl rfl rfl ?_
 refine grd_elim h fun g1 h => ?_
 refine s_makeL (f := recV) (a := Rec.mk (⟨#[]⟩ : ByteArray) 0 0 0 (⟨#[]⟩ : ByteArray) (⟨#[]⟩ : ByteArray)) rfl rfl rfl rfl rfl sl30 zc60 rfl rfl rfl rfl g1.1 g1.2 (rowZ_cv rfl (rowZ_cv rfl (rowZ_cv rfl (rowZ_cv rfl (rowZ_cv rfl (rowZ_cv rfl rowZ_nil)))))) rfl rfl ?_
 refine m2 ?_
 refine rt_nil ?_
 refine tri_seq ?_
 refine tri_sr ?_
 refine s_mv (.inr rfl) (v := .sc (.int .i64 0)) rfl rfl rfl rfl ?_
 refine rt_nil ?_
 refine tri_block ?_
 refine tri_lstM 0 rfl (fun hl0 => ?_)
 refine tri_loop (ι := { p : (List Rec) × (List Rec) × Nat // p0.drop p.2.2 = p.1 ∧ w_toRecordS_l0 p.1 p.2.1 p.2.2 = some r0 }) (fun p => inv_w_toRecordS_0 p0 p.1.2.1 p.1.2.2) (fun p => p.1.1.length) ⟨(p0, List.replicate (p0.length : Int).toNat (Rec.mk (⟨#[]⟩ : ByteArray) 0 0 0 (⟨#[]⟩ : ByteArray) (⟨#[]⟩ : ByteArray)), 0), rfl, h⟩ ?_ ?_
 ·skip
  refine entX [((7, 0), ⟨60, 6, List.map recV (List.replicate (p0.length : Int).toNat (Rec.mk (⟨#[]⟩ : ByteArray) 0 0 0 (⟨#[]⟩ : ByteArray) (⟨#[]⟩ : ByteArray))), false, true⟩, some (7, 0))] [] ⟨⟨rfl, _, rfl, rfl, rfl, rfl, id, rowsCv_eq rfl (allFree_map recV_free), rowsZ_map recV_len⟩, trivial⟩ trivial rfl rfl ?_
  exact ⟨(.free rfl), (.ref rfl), (.free rfl), trivial⟩
 ·rintro ⟨⟨lrs0, v0_0, v0_1⟩, hd0, h⟩
  replace hd0 : p0.drop v0_1 = lrs0 := hd0
  replace h : w_toRecordS_l0 lrs0 v0_0 v0_1 = some r0 := h
  show Tri _ _ _ (inv_w_toRecordS_0 p0 v0_0 v0_1)
  refine tri_seq ?_
  refine tri_sr ?_
  refine m1 ?_
  refine m1 ?_
  refine s_lenL rfl sl24 rfl rfl rfl rfl ?_
  refine s_of (st_lss rfl rfl rfl) rfl rfl rfl rfl ?_
  refine rt_nil ?_
  refine tri_cond rfl (fun c2 => ?_) (fun c2 => ?_)
  ·refine drop_elim hd0 c2 fun e0 rs0 he hx0 hn0 => ?_
   subst he
   rw [w_toRecordS_l0] at h
   refine tri_skip ?_
   refine tri_seq ?_
   refine tri_block ?_
   refine tri_region ?_
   refine m1 ?_
   refine m1 ?_
   refine m1 ?_
   refine m1 ?_
   refine s_indexF (i := v0_1) rfl rfl rfl sl24 (get_ltM hx0) rfl rfl rfl ?_
   refine s_loadFR rfl rfl (rowG hx0) ty105 rfl rfl rfl ?_
   refine bnd1_elim h fun x3 q4 h => ?_
   refine s_callN (kb := []) (ns := []) (v := .agg (recV x3)) rfl rfl cl90 (ww_toRecord e0 x3 q4) rfl (.cons (relAgg rfl) .nil) trivial memNil .nil memNil rfl trivial memNil rfl rfl rfl rfl rfl rfl ?_
   refine bnd1_elim h fun x5 q6 h => ?_
   have q6a := (idx_some q6).1; have q6b := (idx_some q6).2
   refine s_indexZ rfl rfl rfl rfl sl30 rfl q6a (get_lt q6b) rfl rfl rfl ?_
   refine s_storeL (x' := x3) rfl rfl rfl q6b ty60 rfl rfl rfl rfl rfl rfl ?_
   refine rt_nil ?_
   refine tri_region ?_
   refine m1 ?_
   refine s_inc (a := v0_1) (b := 1) rfl rfl rfl rfl (by have := get_lt hx0; have := hl0; omega) rfl rfl rfl ?_
   refine m2 ?_
   refine rt_nil ?_
   refine Exists.intro ⟨(rs0, v0_0.set ((v0_1 : Int).toNat) x3, (v0_1 + 1)), hn0, h⟩ (And.intro (Nat.lt_succ_self _) ?_)
   refine entX [((7, 0), ⟨60, 6, List.map recV (v0_0.set ((v0_1 : Int).toNat) x3), false, true⟩, some (7, 0))] [] ⟨⟨rfl, _, rfl, rfl, rfl, rfl, id, rowsCv_eq rfl (allFree_map recV_free), rowsZ_map recV_len⟩, trivial⟩ trivial rfl rfl ?_
   exact ⟨(.free rfl), (cvRefLen rfl (by simp only [List.length_set])), (.free rfl), trivial⟩
  ·have he := drop_f hd0 c2; subst he
   rw [w_toRecordS_l0] at h
   refine tri_exit ?_
   refine tri_sr ?_
   refine m1 ?_
   refine m2 ?_
   refine rt_nil ?_
   refine tri_ret ?_
   have e0 := (some1 h); subst e0
   exact endY (v' := .ref (2000, 0) 0 v0_0.length) [((2000, 0), ⟨60, 6, List.map recV v0_0, false, true⟩, some (7, 0))] [] (rvC (resTmp rfl) rvN) ⟨⟨rfl, _, rfl, rfl, rfl, rfl, id, rowsCv_eq rfl (allFree_map recV_free), rowsZ_map recV_len⟩, trivial⟩ trivial rfl rfl (by kernel_rfl) (by simp only [V.mat, V.mat1, V.mat0, matL, matT, List.length_map] <;> rfl) (.ref rfl)

/- laws.toEntry -/

set_option maxRecDepth 4000 in
set_option maxHeartbeats 800000 in
theorem ww_toEntry (p0 : MEntry) (r0 : MEntry) (h : w_toEntry p0 = some r0) : Runs Tryd.prog 11 [.agg (mEntryV p0)] [] (.agg [.sc (.string r0.q.name), .sc (.int .i64 r0.q.ty), .sc (.int .i64 r0.kind), .own 60 6 (List.map recV r0.l), .sc (.int .i64 r0.rank), .sc (.int .i64 r0.til)]) [] := by
 unfold w_toEntry at h
 refine runsR [.cell 2 32] Tryd.func11 rfl rfl rfl rfl ?_
 rw [Tryd.ntmps11]
 refine tri_sr ?_
 refine s_box rfl rfl rfl rfl rfl rfl rfl ?_
 refine s_alloc rfl rfl rfl zc32 rfl rfl rfl rfl rfl ?_
 refine rt_nil ?_
 refine tri_sr ?_
 refine s_alloc rfl rfl rfl zc32 rfl rfl rfl rfl rfl ?_
 refine rt_nil ?_
 refine tri_sr ?_
 refine s_fieldAddr rfl rfl fd26_0 rfl rfl rfl rfl ?_
 refine s_load (v := .agg (questV p0.q)) rfl rfl rfl rfl ty23 rfl (.inl rfl) rfl rfl rfl rfl ?_
 refine bnd1_elim h fun x1 q2 h => ?_
 refine s_callN (kb := []) (ns := []) (v := .agg (questV x1)) rfl rfl cl45 (ww_toQuest p0.q x1 q2) rfl (.cons (relAgg rfl) .nil) trivial memNil .nil memNil rfl trivial memNil rfl rfl rfl rfl rfl rfl ?_
 refine s_fieldAddr rfl rfl fd32_0 rfl rfl rfl rfl ?_
 refine s_store (rows' := [[.sc (.string x1.name), .sc (.int .i64 x1.ty), .sc (.int .i64 0), .nils, .sc (.int .i64 0), .sc (.int .i64 0)]]) rfl rfl rfl rfl ty29 rfl rfl rfl rfl rfl rfl ?_
 refine rt_nil ?_
 refine tri_sr ?_
 refine s_fieldAddr rfl rfl fd26_1 rfl rfl rfl rfl ?_
 refine s_load rfl rfl rfl rfl ty3 rfl (.inr rfl) (by conv => lhs; whnf) rfl rfl rfl ?_
 refine s_fieldAddr rfl rfl fd32_1 rfl rfl rfl rfl ?_
 refine s_store (rows' := [[.sc (.string x1.name), .sc (.int .i64 x1.ty), .sc (.int .i64 p0.kind), .nils, .sc (.int .i64 0), .sc (.int .i64 0)]]) rfl rfl rfl rfl ty3 rfl rfl rfl rfl rfl rfl ?_
 refine rt_nil ?_
 refine tri_sr ?_
 refine s_fieldAddr rfl rfl fd26_2 rfl rfl rfl rfl ?_
 refine s_load rfl rfl rfl rfl ty24 rfl (.inr rfl) (by conv => lhs; whnf) rfl rfl rfl ?_
 refine bnd1_elim h fun x3 q4 h => ?_
 refine s_callN (kb := []) (ns := []) (v := .ref (13, 0) 0 x3.length) rfl rfl cl46 (ww_toRecordS p0.l x3 q4) rfl (.cons (.free rfl) .nil) trivial memNil .nil memNil rfl ⟨(allSc_map recV_sc), trivial⟩ memNil rfl (by simp only [V.mat, V.mat1, V.mat0, matL, matT, List.length_map] <;> rfl) rfl rfl rfl rfl ?_
 refine s_fieldAddr rfl rfl fd32_2 rfl rfl rfl rfl ?_
 refine s_store (rows' := [[.sc (.string x1.name), .sc (.int .i64 x1.ty), .sc (.int .i64 p0.kind), .ref (13, 0) 0 x3.length, .sc (.int .i64 0), .sc (.int .i64 0)]]) rfl rfl rfl rfl ty30 rfl rfl rfl rfl rfl rfl ?_
 refine rt_nil ?_
 refine tri_sr ?_
 refine s_fieldAddr rfl rfl fd26_3 rfl rfl rfl rfl ?_
 refine s_load rfl rfl rfl rfl ty3 rfl (.inr rfl) (by conv => lhs; whnf) rfl rfl rfl ?_
 refine s_fieldAddr rfl rfl fd32_3 rfl rfl rfl rfl ?_
 refine s_store (rows' := [[.sc (.string x1.name), .sc (.int .i64 x1.ty), .sc (.int .i64 p0.kind), .ref (13, 0) 0 x3.length, .sc (.int .i64 p0.rank), .sc (.int .i64 0)]]) rfl rfl rfl rfl ty3 rfl rfl rfl rfl rfl rfl ?_
 refine rt_nil ?_
 refine tri_sr ?_
 refine s_fieldAddr rfl rfl fd26_4 rfl rfl rfl rfl ?_
 refine s_load rfl rfl rfl rfl ty3 rfl (.inr rfl) (by conv => lhs; whnf) rfl rfl rfl ?_
 refine s_fieldAddr rfl rfl fd32_4 rfl rfl rfl rfl ?_
 refine s_store (rows' := [[.sc (.string x1.name), .sc (.int .i64 x1.ty), .sc (.int .i64 p0.kind), .ref (13, 0) 0 x3.length, .sc (.int .i64 p0.rank), .sc (.int .i64 p0.til)]]) rfl rfl rfl rfl ty3 rfl rfl rfl rfl rfl rfl ?_
 refine rt_nil ?_
 refine tri_sr ?_
 refine s_loadR rfl rfl rfl rfl ty32 rfl rfl rfl ?_
 refine s_storeB rfl rfl rfl ty32 rfl rfl rfl rfl rfl ?_
 refine rt_nil ?_
 refine tri_ret ?_
 have e0 := (some1 h); subst e0
 exact endY (v' := .agg [.sc (.string x1.name), .sc (.int .i64 x1.ty), .sc (.int .i64 p0.kind), .ref (2000, 3) 0 x3.length, .sc (.int .i64 p0.rank), .sc (.int .i64 p0.til)]) [((2000, 3), ⟨60, 6, List.map recV x3, false, true⟩, some (13, 0))] [] (rvC (resCell rfl rfl ty32) rvN) ⟨⟨rfl, _, rfl, rfl, rfl, rfl, id, rowsCv_eq rfl (allFree_map recV_free), rowsZ_map recV_len⟩, trivial⟩ trivial rfl rfl (by kernel_rfl) (by simp only [V.mat, V.mat1, V.mat0, matL, matT, List.length_map] <;> rfl) (CvL.agg (.cons (.free rfl) (.cons (.free rfl) (.cons (.free rfl) (.cons (.ref rfl) (.cons (.free rfl) (.cons (.free rfl) .nil)))))))

/- laws.toEntryS -/
def inv_w_toEntryS_0 (p0 : List MEntry) (v0_0 : List MEntry) (v0_1 : Nat) : St := mkT 23 [(0, .lst 6 (List.map mEntryV p0)), (3, .ref (7, 0) 0 v0_0.length), (4, .sc (.int .i64 (v0_1 : Int)))] [((7, 0), some ⟨32, 6, List.map mEntryV v0_0, false, true⟩)]
set_option maxRecDepth 4000 in
set_option maxHeartbeats 800000 in
theorem ww_toEntryS (p0 : List MEntry) (r0 : List MEntry) (h : w_toEntryS p0 = some r0) : Runs Tryd.prog 55 [.lst 6 (List.map mEntryV p0)] [] (.own 32 6 (List.map mEntryV r0)) [] := by
 unfold w_toEntryS at h
 refine runsR [.tmp 2] Tryd.func55 rfl rfl rfl rfl ?_
 rw [Tryd.ntmps55]
 refine tri_sr ?_
 refine s_mv (.inr rfl) (v := .nils) rfl rfl rfl rfl ?_
 refine rt_nil ?_
 refine tri_sr ?_
 refine m1 ?_
 refine s_lenL rfl sl36 rfl rfl rfl rfl ?_
 refine grd_elim h fun g1 h => ?_
 refine s_makeL (f := mEntryV) (a := MEntry.mk (Quest.mk (⟨#[]⟩ : ByteArray) 0) 0 ([] : List Rec) 0 0) rfl rfl rfl rfl rfl sl41 zc32 rfl rfl rfl rfl g1.1 g1.2 (rowZ_cv rfl (rowZ_cv rfl (rowZ_cv rfl (rowZ_lst (rowZ_cv rfl (rowZ_cv rfl rowZ_nil)))))) rfl rfl ?_
 refine m2 ?_
 refine rt_nil ?_
 refine tri_seq ?_
 refine tri_sr ?_
 refine s_mv (.inr rfl) (v := .sc (.int .i64 0)) rfl rfl rfl rfl ?_
 refine rt_nil ?_
 refine tri_block ?_
 refine tri_lstM 0 rfl (fun hl0 => ?_)
 refine tri_loop (ι := { p : (List MEntry) × (List MEntry) × Nat // p0.drop p.2.2 = p.1 ∧ w_toEntryS_l0 p.1 p.2.1 p.2.2 = some r0 }) (fun p => inv_w_toEntryS_0 p0 p.1.2.1 p.1.2.2) (fun p => p.1.1.length) ⟨(p0, List.replicate (p0.length : Int).toNat (MEntry.mk (Quest.mk (⟨#[]⟩ : ByteArray) 0) 0 ([] : List Rec) 0 0), 0), rfl, h⟩ ?_ ?_
 ·skip
  refine entX [((7, 0), ⟨32, 6, List.map mEntryV (List.replicate (p0.length : Int).toNat (MEntry.mk (Quest.mk (⟨#[]⟩ : ByteArray) 0) 0 ([] : List Rec) 0 0)), false, true⟩, some (7, 0))] [] ⟨⟨rfl, _, rfl, rfl, rfl, rfl, id, rowsCv_eq rfl (allFree_map mEntryV_free), rowsZ_map mEntryV_len⟩, trivial⟩ trivial rfl rfl ?_
  exact ⟨(.free rfl), (.ref rfl), (.free rfl), trivial⟩
 ·rintro ⟨⟨lrs0, v0_0, v0_1⟩, hd0, h⟩
  replace hd0 : p0.drop v0_1 = lrs0 := hd0
  replace h : w_toEntryS_l0 lrs0 v0_0 v0_1 = some r0 := h
  show Tri _ _ _ (inv_w_toEntryS_0 p0 v0_0 v0_1)
  refine tri_seq ?_
  refine tri_sr ?_
  refine m1 ?_
  refine m1 ?_
  refine s_lenL rfl sl36 rfl rfl rfl rfl ?_
  refine s_of (st_lss rfl rfl rfl) rfl rfl rfl rfl ?_
  refine rt_nil ?_
  refine tri_cond rfl (fun c2 => ?_) (fun c2 => ?_)
  ·refine drop_elim hd0 c2 fun e0 rs0 he hx0 hn0 => ?_
   subst he
   rw [w_toEntryS_l0] at h
   refine tri_skip ?_
   refine tri_seq ?_
   refine tri_block ?_
   refine tri_region ?_
   refine m1 ?_
   refine m1 ?_
   refine m1 ?_
   refine m1 ?_
   refine s_indexF (i := v0_1) rfl rfl rfl sl36 (get_ltM hx0) rfl rfl rfl ?_
   refine s_loadFR rfl rfl (rowG hx0) ty26 rfl rfl rfl ?_
   refine bnd1_elim h fun x3 q4 h => ?_
   refine s_callNF (kb := []) (ns := []) (v := .agg [.sc (.string x3.q.name), .sc (.int .i64 x3.q.ty), .sc (.int .i64 x3.kind), .ref (20, 3) 0 x3.l.length, .sc (.int .i64 x3.rank), .sc (.int .i64 x3.til)]) (D := [(20, 3)]) rfl rfl cl11 (ww_toEntry e0 x3 q4) rfl (.cons (relAgg rfl) .nil) trivial memNil .nil memNil rfl ⟨(allSc_map recV_sc), trivial⟩ memNil rfl (by simp only [V.mat, V.mat1, V.mat0, matL, matT, List.length_map] <;> rfl) rfl ⟨⟨rfl, rfl, _, rfl, rfl⟩, trivial⟩ (relAggL (.cons (.free rfl) (.cons (.free rfl) (.cons (.free rfl) (.cons (lendL rfl (.head _) rfl recV_free recV_len) (.cons (.free rfl) (.cons (.free rfl) .nil))))))) rfl rfl rfl ?_
   refine bnd1_elim h fun x5 q6 h => ?_
   have q6a := (idx_some q6).1; have q6b := (idx_some q6).2
   refine s_indexZ rfl rfl rfl rfl sl41 rfl q6a (get_lt q6b) rfl rfl rfl ?_
   refine s_storeL (x' := x3) rfl rfl rfl q6b ty32 rfl rfl rfl rfl rfl rfl ?_
   refine rt_nil ?_
   refine tri_region ?_
   refine m1 ?_
   refine s_inc (a := v0_1) (b := 1) rfl rfl rfl rfl (by have := get_lt hx0; have := hl0; omega) rfl rfl rfl ?_
   refine m2 ?_
   refine rt_nil ?_
   refine Exists.intro ⟨(rs0, v0_0.set ((v0_1 : Int).toNat) x3, (v0_1 + 1)), hn0, h⟩ (And.intro (Nat.lt_succ_self _) ?_)
   refine entX [((7, 0), ⟨32, 6, List.map mEntryV (v0_0.set ((v0_1 : Int).toNat) x3), false, true⟩, some (7, 0))] [] ⟨⟨rfl, _, rfl, rfl, rfl, rfl, id, rowsCv_eq rfl (allFree_map mEntryV_free), rowsZ_map mEntryV_len⟩, trivial⟩ trivial rfl rfl ?_
   exact ⟨(.free rfl), (cvRefLen rfl (by simp only [List.length_set])), (.free rfl), trivial⟩
  ·have he := drop_f hd0 c2; subst he
   rw [w_toEntryS_l0] at h
   refine tri_exit ?_
   refine tri_sr ?_
   refine m1 ?_
   refine m2 ?_
   refine rt_nil ?_
   refine tri_ret ?_
   have e0 := (some1 h); subst e0
   exact endY (v' := .ref (2000, 0) 0 v0_0.length) [((2000, 0), ⟨32, 6, List.map mEntryV v0_0, false, true⟩, some (7, 0))] [] (rvC (resTmp rfl) rvN) ⟨⟨rfl, _, rfl, rfl, rfl, rfl, id, rowsCv_eq rfl (allFree_map mEntryV_free), rowsZ_map mEntryV_len⟩, trivial⟩ trivial rfl rfl (by kernel_rfl) (by simp only [V.mat, V.mat1, V.mat0, matL, matT, List.length_map] <;> rfl) (.ref rfl)
def mEntryN (m : Nm) (x : MEntry) : List V := [.sc (.string x.q.name), .sc (.int .i64 x.q.ty), .sc (.int .i64 x.kind), .ref m 0 x.l.length, .sc (.int .i64 x.rank), .sc (.int .i64 x.til)]
def mEntryG (x : MEntry) : Entry := ⟨60, 6, List.map recV x.l, false, true⟩
theorem mEntryN_z (m : Nm) (x : MEntry) : (mEntryN m x).length = 6 := rfl
theorem mEntryN_cv {hp : Heap} {src : Nm → Option Nm} {D : List Nm} {N : Nm → Option Nat} {m m' : Nm} (x : MEntry) (h : src m' = some m) : CvL hp src D N (mEntryN m x) (mEntryN m' x) := (.cons (.free rfl) (.cons (.free rfl) (.cons (.free rfl) (.cons (.ref h) (.cons (.free rfl) (.cons (.free rfl) .nil))))))
theorem mEntryG_f (x : MEntry) : AllFree (mEntryG x).rows := allFree_map recV_free
theorem mEntryG_z (x : MEntry) (r : List V) (hr : r ∈ (mEntryG x).rows) : r.length = (mEntryG x).z := rowsZ_map recV_len r hr
def mEntryP (x : MEntry) : Entry := ⟨60, 6, List.map recV x.l, false, false⟩
theorem mEntryP_f (x : MEntry) : AllFree (mEntryP x).rows := allFree_map recV_free
theorem mEntryP_z (x : MEntry) (r : List V) (hr : r ∈ (mEntryP x).rows) : r.length = (mEntryP x).z := rowsZ_map recV_len r hr

def invR_w_toEntryS_0 (p0 : List MEntry) (v0_0 : List MEntry) (v0_1 : Nat) : St := mkT 23 [(0, .lst 6 (List.map mEntryV p0)), (3, .ref (7, 0) 0 v0_0.length), (4, .sc (.int .i64 (v0_1 : Int)))] (((7, 0), some ⟨32, 6, nr 3000 mEntryN 0 v0_0, false, true⟩) :: (fam 3000 0 (List.map mEntryG v0_0) ++ []))
set_option maxRecDepth 4000 in
set_option maxHeartbeats 800000 in
theorem wRw_toEntryS (p0 : List MEntry) (r0 : List MEntry) (h : w_toEntryS p0 = some r0) : RunsG Tryd.prog 55 [.lst 6 (List.map mEntryV p0)] [] (.ref (2000, 0) 0 r0.length) ((0, ⟨32, 6, nr 2000 mEntryN 10000 r0, false, true⟩) :: famO 10000 (List.map mEntryG r0)) [] := by
 unfold w_toEntryS at h
 refine runsG [.tmp 2] Tryd.func55 rfl rfl rfl rfl ?_
 rw [Tryd.ntmps55]
 refine tri_sr ?_
 refine s_mv (.inr rfl) (v := .nils) rfl rfl rfl rfl ?_
 refine rt_nil ?_
 refine tri_sr ?_
 refine m1 ?_
 refine s_lenL rfl sl36 rfl rfl rfl rfl ?_
 refine grd_elim h fun g1 h => ?_
 refine s_makeL (f := fun (_ : Unit) => [.sc (.string (⟨#[]⟩ : ByteArray)), .sc (.int .i64 0), .sc (.int .i64 0), .nils, .sc (.int .i64 0), .sc (.int .i64 0)]) (a := ()) rfl rfl rfl rfl rfl sl41 zc32 rfl rfl rfl rfl g1.1 g1.2 (rowZ_cv rfl (rowZ_cv rfl (rowZ_cv rfl (rowZ_nils (rowZ_cv rfl (rowZ_cv rfl rowZ_nil)))))) rfl rfl ?_
 refine m2 ?_
 refine rt_nil ?_
 refine tri_seq ?_
 refine tri_sr ?_
 refine s_mv (.inr rfl) (v := .sc (.int .i64 0)) rfl rfl rfl rfl ?_
 refine rt_nil ?_
 refine tri_block ?_
 refine tri_lstM 0 rfl (fun hl0 => ?_)
 refine tri_loop (ι := { p : (List MEntry) × (List MEntry) × Nat // p0.drop p.2.2 = p.1 ∧ w_toEntryS_l0 p.1 p.2.1 p.2.2 = some r0 }) (fun p => invR_w_toEntryS_0 p0 p.1.2.1 p.1.2.2) (fun p => p.1.1.length) ⟨(p0, List.replicate (p0.length : Int).toNat (MEntry.mk (Quest.mk (⟨#[]⟩ : ByteArray) 0) 0 ([] : List Rec) 0 0), 0), rfl, h⟩ ?_ ?_
 ·skip
  refine nest_zero (x0 := MEntry.mk (Quest.mk (⟨#[]⟩ : ByteArray) 0) 0 ([] : List Rec) 0 0) rfl rfl mEntryN_z (fun h => (.cons (.free rfl) (.cons (.free rfl) (.cons (.free rfl) (.cons (.nilRef h) (.cons (.free rfl) (.cons (.free rfl) .nil))))))) rfl (fun _ => rfl) (fun _ => rfl) ?_
  exact ⟨(.free rfl), (cvRefLen rfl (by simp only [List.length_replicate])), (.free rfl), trivial⟩
 ·rintro ⟨⟨lrs0, v0_0, v0_1⟩, hd0, h⟩
  replace hd0 : p0.drop v0_1 = lrs0 := hd0
  replace h : w_toEntryS_l0 lrs0 v0_0 v0_1 = some r0 := h
  show Tri _ _ _ (invR_w_toEntryS_0 p0 v0_0 v0_1)
  refine tri_seq ?_
  refine tri_sr ?_
  refine m1 ?_
  refine m1 ?_
  refine s_lenL rfl sl36 rfl rfl rfl rfl ?_
  refine s_of (st_lss rfl rfl rfl) rfl rfl rfl rfl ?_
  refine rt_nil ?_
  refine tri_cond rfl (fun c2 => ?_) (fun c2 => ?_)
  ·refine drop_elim hd0 c2 fun e0 rs0 he hx0 hn0 => ?_
   subst he
   rw [w_toEntryS_l0] at h
   refine tri_skip ?_
   refine tri_seq ?_
   refine tri_block ?_
   refine tri_region ?_
   refine m1 ?_
   refine m1 ?_
   refine m1 ?_
   refine m1 ?_
   refine s_indexF (i := v0_1) rfl rfl rfl sl36 (get_ltM hx0) rfl rfl rfl ?_
   refine s_loadFR rfl rfl (rowG hx0) ty26 rfl rfl rfl ?_
   refine bnd1_elim h fun x3 q4 h => ?_
   refine s_callN (kb := []) (ns := []) (v := .agg [.sc (.string x3.q.name), .sc (.int .i64 x3.q.ty), .sc (.int .i64 x3.kind), .ref (20, 3) 0 x3.l.length, .sc (.int .i64 x3.rank), .sc (.int .i64 x3.til)]) rfl rfl cl11 (ww_toEntry e0 x3 q4) rfl (.cons (relAgg rfl) .nil) trivial memNil .nil memNil rfl ⟨(allSc_map recV_sc), trivial⟩ memNil (hab1 (lkNo rfl (famNo rfl rfl))) (by simp only [V.mat, V.mat1, V.mat0, matL, matT, List.length_map] <;> rfl) rfl rfl rfl rfl ?_
   refine bnd1_elim h fun x5 q6 h => ?_
   have q6a := (idx_some q6).1; have q6b := (idx_some q6).2
   refine s_indexZ rfl rfl rfl rfl sl41 rfl q6a (get_lt q6b) rfl rfl rfl ?_
   refine s_store (rows' := (nr 3000 mEntryN 0 v0_0).set (v0_1 : Int).toNat [.sc (.string x3.q.name), .sc (.int .i64 x3.q.ty), .sc (.int .i64 x3.kind), .ref (20, 3) 0 x3.l.length, .sc (.int .i64 x3.rank), .sc (.int .i64 x3.til)]) rfl rfl rfl (nr_get q6b) ty32 rfl rfl rfl rfl rfl rfl ?_
   refine rt_nil ?_
   refine tri_region ?_
   refine m1 ?_
   refine s_inc (a := v0_1) (b := 1) rfl rfl rfl rfl (by have := get_lt hx0; have := hl0; omega) rfl rfl rfl ?_
   refine m2 ?_
   refine rt_nil ?_
   refine Exists.intro ⟨(rs0, v0_0.set ((v0_1 : Int).toNat) x3, (v0_1 + 1)), hn0, h⟩ (And.intro (Nat.lt_succ_self _) ?_)
   refine nest_set (c := (20, 3)) rfl rfl rfl (fun j y hy => lkTo rfl (lkTo rfl (lkTo rfl (fam_lk (by rw [List.getElem?_map, hy]; rfl))))) mEntryN_z (fun x h => mEntryN_cv x h) mEntryG_f mEntryG_z (fun _ => rfl) rfl rfl (fun j => lkNo rfl (lkNo rfl (lkNo rfl (famNo rfl rfl)))) ?_
   exact ⟨(.free rfl), (cvRefLen rfl (by simp only [List.length_set])), (.free rfl), trivial⟩
  ·have he := drop_f hd0 c2; subst he
   rw [w_toEntryS_l0] at h
   refine tri_exit ?_
   refine tri_sr ?_
   refine m1 ?_
   refine m2 ?_
   refine rt_nil ?_
   refine tri_ret ?_
   have e0 := (some1 h); subst e0
   exact nest_endS rfl (fun j y hy => lkTo rfl (fam_lk (by rw [List.getElem?_map, hy]; rfl))) mEntryN_z (fun x h => mEntryN_cv x h) mEntryG_f mEntryG_z (fun _ => rfl) (fun j => lkNo rfl (famNo rfl rfl)) (rvC (resTmp rfl) rvN)

/- laws.toCache -/

set_option maxRecDepth 4000 in
set_option maxHeartbeats 800000 in
theorem ww_toCache (p0 : MCache) (r0 : MCache) (h : w_toCache p0 = some r0) : Runs Tryd.prog 16 [.agg (mCacheV p0)] [] (.agg [.sc (.int .i64 r0.cap), .own 32 6 (List.map mEntryV r0.l)]) [] := by
 unfold w_toCache at h
 refine runsR [.cell 2 43] Tryd.func16 rfl rfl rfl rfl ?_
 rw [Tryd.ntmps16]
 refine tri_sr ?_
 refine s_box rfl rfl rfl rfl rfl rfl rfl ?_
 refine s_alloc rfl rfl rfl zc43 rfl rfl rfl rfl rfl ?_
 refine rt_nil ?_
 refine tri_sr ?_
 refine s_alloc rfl rfl rfl zc43 rfl rfl rfl rfl rfl ?_
 refine rt_nil ?_
 refine tri_sr ?_
 refine s_fieldAddr rfl rfl fd38_0 rfl rfl rfl rfl ?_
 refine s_load rfl rfl rfl rfl ty3 rfl (.inr rfl) (by conv => lhs; whnf) rfl rfl rfl ?_
 refine s_fieldAddr rfl rfl fd43_0 rfl rfl rfl rfl ?_
 refine s_store (rows' := [[.sc (.int .i64 p0.cap), .nils]]) rfl rfl rfl rfl ty3 rfl rfl rfl rfl rfl rfl ?_
 refine rt_nil ?_
 refine tri_sr ?_
 refine s_fieldAddr rfl rfl fd38_1 rfl rfl rfl rfl ?_
 refine s_load rfl rfl rfl rfl ty36 rfl (.inr rfl) (by conv => lhs; whnf) rfl rfl rfl ?_
 refine bnd1_elim h fun x1 q2 h => ?_
 refine s_callZ (kb := []) (ns := []) (v := .ref (9, 0) 0 x1.length) rfl rfl cl55 (ww_toEntryS p0.l x1 q2) rfl (.cons (.free rfl) .nil) trivial memNil .nil memNil trivial rfl ⟨(allFree_map mEntryV_free), trivial⟩ memNil rfl (by simp only [V.mat, V.mat1, V.mat0, matL, matT, List.length_map] <;> rfl) rfl rfl rfl rfl ?_
 refine s_fieldAddr rfl rfl fd43_1 rfl rfl rfl rfl ?_
 refine s_store (rows' := [[.sc (.int .i64 p0.cap), .ref (9, 0) 0 x1.length]]) rfl rfl rfl rfl ty41 rfl rfl rfl rfl rfl rfl ?_
 refine rt_nil ?_
 refine tri_sr ?_
 refine s_loadR rfl rfl rfl rfl ty43 rfl rfl rfl ?_
 refine s_storeB rfl rfl rfl ty43 rfl rfl rfl rfl rfl ?_
 refine rt_nil ?_
 refine tri_ret ?_
 have e0 := (some1 h); subst e0
 exact endY (v' := .agg [.sc (.int .i64 p0.cap), .ref (2000, 1) 0 x1.length]) [((2000, 1), ⟨32, 6, List.map mEntryV x1, false, true⟩, some (9, 0))] [] (rvC (resCell rfl rfl ty43) rvN) ⟨⟨rfl, _, rfl, rfl, rfl, rfl, id, rowsCv_eq rfl (allFree_map mEntryV_free), rowsZ_map mEntryV_len⟩, trivial⟩ trivial rfl rfl (by kernel_rfl) (by simp only [V.mat, V.mat1, V.mat0, matL, matT, List.length_map] <;> rfl) (CvL.agg (.cons (.free rfl) (.cons (.ref rfl) .nil)))
set_option maxRecDepth 4000 in
set_option maxHeartbeats 800000 in
theorem wRw_toCache (p0 : MCache) (r0 : MCache) (h : w_toCache p0 = some r0) : RunsG Tryd.prog 16 [.agg (mCacheV p0)] [] (.agg [.sc (.int .i64 r0.cap), .ref (2000, 1) 0 r0.l.length]) ([(1, ⟨32, 6, nr 2000 mEntryN 10000 r0.l, false, true⟩)] ++ famO 10000 (List.map mEntryG r0.l)) [] := by
 unfold w_toCache at h
 refine runsG [.cell 2 43] Tryd.func16 rfl rfl rfl rfl ?_
 rw [Tryd.ntmps16]
 refine tri_sr ?_
 refine s_box rfl rfl rfl rfl rfl rfl rfl ?_
 refine s_alloc rfl rfl rfl zc43 rfl rfl rfl rfl rfl ?_
 refine rt_nil ?_
 refine tri_sr ?_
 refine s_alloc rfl rfl rfl zc43 rfl rfl rfl rfl rfl ?_
 refine rt_nil ?_
 refine tri_sr ?_
 refine s_fieldAddr rfl rfl fd38_0 rfl rfl rfl rfl ?_
 refine s_load rfl rfl rfl rfl ty3 rfl (.inr rfl) (by conv => lhs; whnf) rfl rfl rfl ?_
 refine s_fieldAddr rfl rfl fd43_0 rfl rfl rfl rfl ?_
 refine s_store (rows' := [[.sc (.int .i64 p0.cap), .nils]]) rfl rfl rfl rfl ty3 rfl rfl rfl rfl rfl rfl ?_
 refine rt_nil ?_
 refine tri_sr ?_
 refine s_fieldAddr rfl rfl fd38_1 rfl rfl rfl rfl ?_
 refine s_load rfl rfl rfl rfl ty36 rfl (.inr rfl) (by conv => lhs; whnf) rfl rfl rfl ?_
 refine bnd1_elim h fun x1 q2 h => ?_
 refine s_callRt (kb := []) (os' := [(0, ⟨32, 6, nr 9 mEntryN 10000 x1, false, true⟩)]) (y := .ref (9, 0) 0 x1.length) rfl rfl cl55 (wRw_toEntryS p0.l x1 q2) rfl (.cons (.free rfl) .nil) (.cons (outRows mEntryN_z (fun i x hx => (.cons retSc (.cons retSc (.cons retSc (.cons (.own (owns_at (by rw [List.length_map]; exact (List.getElem?_eq_some_iff.1 hx).1))) (.cons retSc (.cons retSc .nil)))))))) id .nil) (fun x => allSc_map recV_sc) mEntryG_z (.own rfl) (fun q E h => by cases List.mem_singleton.1 h; repeat (first | exact rfl | exact famNo rfl rfl | refine lkNo rfl ?_)) (fun i => by repeat (first | exact rfl | exact famNo rfl rfl | refine lkNo rfl ?_)) rfl rfl rfl ?_
 refine s_fieldAddr rfl rfl fd43_1 rfl rfl rfl rfl ?_
 refine s_store (rows' := [[.sc (.int .i64 p0.cap), .ref (9, 0) 0 x1.length]]) rfl rfl rfl rfl ty41 rfl rfl rfl rfl rfl rfl ?_
 refine rt_nil ?_
 refine tri_sr ?_
 refine s_loadR rfl rfl rfl rfl ty43 rfl rfl rfl ?_
 refine s_storeB rfl rfl rfl ty43 rfl rfl rfl rfl rfl ?_
 refine rt_nil ?_
 refine tri_ret ?_
 have e0 := (some1 h); subst e0
 exact nest_end (a := 9) (b := 10000) (l := x1) (g := mEntryG) [((2000, 1), ⟨32, 6, nr 2000 mEntryN 10000 x1, false, true⟩, some (9, 0))] [(1, ⟨32, 6, nr 2000 mEntryN 10000 x1, false, true⟩)] (rvC (resCell rfl rfl ty43) rvN) ⟨⟨rfl, _, rfl, rfl, rfl, rfl, id, rowsCv_fam (fun x h => mEntryN_cv x h), nr_rowsZ mEntryN_z⟩, trivial⟩ rfl rfl (fun _ => rfl) rfl (fun j y hy => by repeat (first | exact fam_lk (by rw [List.getElem?_map, hy]; rfl) | refine lkTo rfl ?_)) mEntryG_f mEntryG_z (fun j => by repeat (first | exact rfl | exact famNo rfl rfl | refine lkNo rfl ?_)) rfl (CvL.agg (.cons (.free rfl) (.cons (.ref rfl) .nil)))

/- spec.l7Copy -/

set_option maxRecDepth 4000 in
set_option maxHeartbeats 800000 in
theorem ws_l7Copy (p0 : List Rec) (r0 : List Rec) (h : s_l7Copy p0 = some r0) : Runs Tryd.prog 102 [.lst 6 (List.map recV p0)] [] (.own 60 6 (List.map recV r0)) [] := by
 unfold s_l7Copy at h
 refine runsR [.tmp 2] Tryd.func102 rfl rfl rfl rfl ?_
 rw [Tryd.ntmps102]
 refine tri_sr ?_
 refine s_mv (.inr rfl) (v := .nils) rfl rfl rfl rfl ?_
 refine rt_nil ?_
 refine tri_sr ?_
 refine s_buildSlice (rows' := List.map recV ([] : List Rec)) rfl rfl rfl sl30 zc60 rfl rfl rfl rfl rfl rfl rfl rfl rfl ?_
 refine m1 ?_
 refine grd_elim h fun g1 h => ?_
 refine s_appL rfl rfl rfl sl30 zc60 rfl rfl rfl rfl rfl rfl src_lst g1 rfl rfl ?_
 refine m2 ?_
 refine rt_nil ?_
 refine tri_ret ?_
 have e0 := (some1 h); subst e0
 exact endY (v' := .ref (2000, 0) 0 ((([] : List Rec) ++ p0).length)) [((2000, 0), ⟨60, 6, List.map recV (([] : List Rec) ++ p0), false, true⟩, some (5, 0))] [] (rvC (resTmp rfl) rvN) ⟨⟨rfl, _, rfl, rfl, rfl, rfl, id, rowsCv_eq rfl (allFree_map recV_free), rowsZ_map recV_len⟩, trivial⟩ trivial rfl rfl (by kernel_rfl) (by simp only [V.mat, V.mat1, V.mat0, matL, matT, List.length_map] <;> rfl) (.ref rfl)

/- spec.l15Entry -/

set_option maxRecDepth 4000 in
set_option maxHeartbeats 800000 in
theorem ws_l15Entry (p0 : MEntry) (r0 : MEntry) (h : s_l15Entry p0 = some r0) : Runs Tryd.prog 66 [.agg (mEntryV p0)] [] (.agg [.sc (.string r0.q.name), .sc (.int .i64 r0.q.ty), .sc (.int .i64 r0.kind), .own 60 6 (List.map recV r0.l), .sc (.int .i64 r0.rank), .sc (.int .i64 r0.til)]) [] := by
 unfold s_l15Entry at h
 refine runsR [.cell 2 32] Tryd.func66 rfl rfl rfl rfl ?_
 rw [Tryd.ntmps66]
 refine tri_sr ?_
 refine s_box rfl rfl rfl rfl rfl rfl rfl ?_
 refine s_alloc rfl rfl rfl zc32 rfl rfl rfl rfl rfl ?_
 refine rt_nil ?_
 refine tri_sr ?_
 refine s_fieldAddr rfl rfl fd32_2 rfl rfl rfl rfl ?_
 refine s_load rfl rfl rfl rfl ty30 rfl (.inr rfl) (by conv => lhs; whnf) rfl rfl rfl ?_
 refine bnd1_elim h fun x1 q2 h => ?_
 refine s_callN (kb := []) (ns := []) (v := .ref (5, 0) 0 x1.length) rfl rfl cl102 (ws_l7Copy p0.l x1 q2) rfl (.cons (.free rfl) .nil) trivial memNil .nil memNil rfl ⟨(allSc_map recV_sc), trivial⟩ memNil rfl (by simp only [V.mat, V.mat1, V.mat0, matL, matT, List.length_map] <;> rfl) rfl rfl rfl rfl ?_
 refine s_fieldAddr rfl rfl fd32_2 rfl rfl rfl rfl ?_
 refine s_store (rows' := [[.sc (.string p0.q.name), .sc (.int .i64 p0.q.ty), .sc (.int .i64 p0.kind), .ref (5, 0) 0 x1.length, .sc (.int .i64 p0.rank), .sc (.int .i64 p0.til)]]) rfl rfl rfl rfl ty30 rfl rfl rfl rfl rfl rfl ?_
 refine rt_nil ?_
 refine tri_sr ?_
 refine s_loadR rfl rfl rfl rfl ty32 rfl rfl rfl ?_
 refine s_storeB rfl rfl rfl ty32 rfl rfl rfl rfl rfl ?_
 refine rt_nil ?_
 refine tri_ret ?_
 have e0 := (some1 h); subst e0
 exact endY (v' := .agg [.sc (.string p0.q.name), .sc (.int .i64 p0.q.ty), .sc (.int .i64 p0.kind), .ref (2000, 3) 0 x1.length, .sc (.int .i64 p0.rank), .sc (.int .i64 p0.til)]) [((2000, 3), ⟨60, 6, List.map recV x1, false, true⟩, some (5, 0))] [] (rvC (resCell rfl rfl ty32) rvN) ⟨⟨rfl, _, rfl, rfl, rfl, rfl, id, rowsCv_eq rfl (allFree_map recV_free), rowsZ_map recV_len⟩, trivial⟩ trivial rfl rfl (by kernel_rfl) (by simp only [V.mat, V.mat1, V.mat0, matL, matT, List.length_map] <;> rfl) (CvL.agg (.cons (.free rfl) (.cons (.free rfl) (.cons (.free rfl) (.cons (.ref rfl) (.cons (.free rfl) (.cons (.free rfl) .nil)))))))

/- spec.l15Copy -/
def inv_s_l15Copy_0 (p0 : MCache) (v0_0 : List MEntry) (v0_1 : Nat) : St := mkT 30 [(1, .ptr (1, 0) 0 0), (2, .ptr (2, 0) 0 0), (3, .ptr (3, 0) 0 0), (4, .sc (.int .i64 (v0_1 : Int)))] [((1, 0), some ⟨43, 2, [[.sc (.int .i64 p0.cap), .lst 6 (List.map mEntryV p0.l)]], false, true⟩), ((2, 0), some ⟨43, 2, [[.sc (.int .i64 0), .nils]], false, true⟩), ((3, 0), some ⟨43, 2, [[.sc (.int .i64 p0.cap), .ref (2003, 2) 0 v0_0.length]], false, true⟩), ((2003, 2), some ⟨32, 6, List.map mEntryV v0_0, false, true⟩)]
set_option maxRecDepth 4000 in
set_option maxHeartbeats 800000 in
theorem ws_l15Copy (p0 : MCache) (r0 : MCache) (h : s_l15Copy p0 = some r0) : Runs Tryd.prog 79 [.agg (mCacheV p0)] [] (.agg [.sc (.int .i64 r0.cap), .own 32 6 (List.map mEntryV r0.l)]) [] := by
 unfold s_l15Copy at h
 refine runsR [.cell 2 43] Tryd.func79 rfl rfl rfl rfl ?_
 rw [Tryd.ntmps79]
 refine tri_sr ?_
 refine s_box rfl rfl rfl rfl rfl rfl rfl ?_
 refine s_alloc rfl rfl rfl zc43 rfl rfl rfl rfl rfl ?_
 refine rt_nil ?_
 refine tri_sr ?_
 refine s_fieldAddr rfl rfl fd43_0 rfl rfl rfl rfl ?_
 refine s_load rfl rfl rfl rfl ty3 rfl (.inr rfl) (by conv => lhs; whnf) rfl rfl rfl ?_
 refine s_buildSlice (rows' := List.map mEntryV ([] : List MEntry)) rfl rfl rfl sl41 zc32 rfl rfl rfl rfl rfl rfl rfl rfl rfl ?_
 refine s_build (cells' := [.sc (.int .i64 p0.cap), .ref (8, 0) 0 0]) rfl stc43 rfl rfl rfl rfl rfl rfl rfl ?_
 refine s_alloc rfl rfl rfl zc43 rfl rfl rfl rfl rfl ?_
 refine s_storeB rfl rfl rfl ty43 rfl rfl rfl rfl rfl ?_
 refine rt_nil ?_
 refine tri_seq ?_
 refine tri_sr ?_
 refine s_mv (.inr rfl) (v := .sc (.int .i64 0)) rfl rfl rfl rfl ?_
 refine rt_nil ?_
 refine tri_block ?_
 refine tri_aggM 0 1 rfl rfl (fun hl0 => ?_)
 refine tri_loop (ι := { p : (List MEntry) × (List MEntry) × Nat // p0.l.drop p.2.2 = p.1 ∧ s_l15Copy_l0 p0 p.1 p.2.1 p.2.2 = some r0 }) (fun p => inv_s_l15Copy_0 p0 p.1.2.1 p.1.2.2) (fun p => p.1.1.length) ⟨(p0.l, ([] : List MEntry), 0), rfl, h⟩ ?_ ?_
 ·skip
  refine entX [((1, 0), ⟨43, 2, [[.sc (.int .i64 p0.cap), .lst 6 (List.map mEntryV p0.l)]], false, true⟩, some (1, 0)), ((2, 0), ⟨43, 2, [[.sc (.int .i64 0), .nils]], false, true⟩, some (2, 0)), ((3, 0), ⟨43, 2, [[.sc (.int .i64 p0.cap), .ref (2003, 2) 0 ([] : List MEntry).length]], false, true⟩, some (3, 0)), ((2003, 2), ⟨32, 6, List.map mEntryV ([] : List MEntry), false, true⟩, some (8, 0))] [] ⟨⟨rfl, _, rfl, rfl, rfl, rfl, id, rowsCv_one (.cons (.free rfl) (.cons (.free rfl) .nil)), rowsZ_one rfl⟩, ⟨rfl, _, rfl, rfl, rfl, rfl, id, rowsCv_one (.cons (.free rfl) (.cons (.free rfl) .nil)), rowsZ_one rfl⟩, ⟨rfl, _, rfl, rfl, rfl, rfl, id, rowsCv_one (.cons (.free rfl) (.cons (.ref rfl) .nil)), rowsZ_one rfl⟩, ⟨rfl, _, rfl, rfl, rfl, rfl, id, rowsCv_eq rfl (allFree_map mEntryV_free), rowsZ_map mEntryV_len⟩, trivial⟩ trivial rfl rfl ?_
  exact ⟨(.ptr rfl), (.ptr rfl), (.ptr rfl), (.free rfl), trivial⟩
 ·rintro ⟨⟨lrs0, v0_0, v0_1⟩, hd0, h⟩
  replace hd0 : p0.l.drop v0_1 = lrs0 := hd0
  replace h : s_l15Copy_l0 p0 lrs0 v0_0 v0_1 = some r0 := h
  show Tri _ _ _ (inv_s_l15Copy_0 p0 v0_0 v0_1)
  refine tri_seq ?_
  refine tri_sr ?_
  refine m1 ?_
  refine s_fieldAddr rfl rfl fd43_1 rfl rfl rfl rfl ?_
  refine s_load rfl rfl rfl rfl ty41 rfl (.inr rfl) (by conv => lhs; whnf) rfl rfl rfl ?_
  refine s_lenL rfl sl41 rfl rfl rfl rfl ?_
  refine s_of (st_lss rfl rfl rfl) rfl rfl rfl rfl ?_
  refine rt_nil ?_
  refine tri_cond rfl (fun c1 => ?_) (fun c1 => ?_)
  ·refine drop_elim hd0 c1 fun e0 rs0 he hx0 hn0 => ?_
   subst he
   rw [s_l15Copy_l0] at h
   refine tri_skip ?_
   refine tri_seq ?_
   refine tri_block ?_
   refine tri_sr ?_
   refine s_fieldAddr rfl rfl fd43_1 rfl rfl rfl rfl ?_
   refine s_load rfl rfl rfl rfl ty41 rfl (.inr rfl) (by conv => lhs; whnf) rfl rfl rfl ?_
   refine m1 ?_
   refine s_indexF (i := v0_1) rfl rfl rfl sl41 (get_ltM hx0) rfl rfl rfl ?_
   refine s_loadFR rfl rfl (rowG hx0) ty32 rfl rfl rfl ?_
   refine bnd1_elim h fun x2 q3 h => ?_
   refine s_callNF (kb := []) (ns := []) (v := .agg [.sc (.string x2.q.name), .sc (.int .i64 x2.q.ty), .sc (.int .i64 x2.kind), .ref (22, 3) 0 x2.l.length, .sc (.int .i64 x2.rank), .sc (.int .i64 x2.til)]) (D := [(22, 3)]) rfl rfl cl66 (ws_l15Entry e0 x2 q3) rfl (.cons (relAgg rfl) .nil) trivial memNil .nil memNil rfl ⟨(allSc_map recV_sc), trivial⟩ memNil rfl (by simp only [V.mat, V.mat1, V.mat0, matL, matT, List.length_map] <;> rfl) rfl ⟨⟨rfl, rfl, _, rfl, rfl⟩, trivial⟩ (relAggL (.cons (.free rfl) (.cons (.free rfl) (.cons (.free rfl) (.cons (lendL rfl (.head _) rfl recV_free recV_len) (.cons (.free rfl) (.cons (.free rfl) .nil))))))) rfl rfl rfl ?_
   refine s_alloc rfl rfl rfl zc32 rfl rfl rfl rfl rfl ?_
   refine s_storeB rfl rfl rfl ty32 rfl rfl rfl rfl rfl ?_
   refine rt_nil ?_
   refine tri_region ?_
   refine s_fieldAddr rfl rfl fd43_1 rfl rfl rfl rfl ?_
   refine s_load rfl rfl rfl rfl ty41 rfl (.inr rfl) (by conv => lhs; whnf) rfl rfl rfl ?_
   refine s_loadR rfl rfl rfl rfl ty32 rfl rfl rfl ?_
   refine s_buildSlice (rows' := List.map mEntryV [x2]) rfl rfl rfl sl41 zc32 rfl rfl rfl rfl rfl rfl rfl rfl rfl ?_
   refine grd_elim h fun g4 h => ?_
   refine s_appL rfl rfl rfl sl41 zc32 rfl rfl rfl rfl rfl rfl (src_refL rfl rfl) g4 rfl rfl ?_
   refine s_fieldAddr rfl rfl fd43_1 rfl rfl rfl rfl ?_
   refine s_store (rows' := [[.sc (.int .i64 p0.cap), .ref (27, 0) 0 ((v0_0 ++ [x2]).length)]]) rfl rfl rfl rfl ty41 rfl rfl rfl rfl rfl rfl ?_
   refine rt_nil ?_
   refine tri_region ?_
   refine m1 ?_
   refine s_inc (a := v0_1) (b := 1) rfl rfl rfl rfl (by have := get_lt hx0; have := hl0; omega) rfl rfl rfl ?_
   refine m2 ?_
   refine rt_nil ?_
   refine Exists.intro ⟨(rs0, v0_0 ++ [x2], (v0_1 + 1)), hn0, h⟩ (And.intro (Nat.lt_succ_self _) ?_)
   refine entX [((1, 0), ⟨43, 2, [[.sc (.int .i64 p0.cap), .lst 6 (List.map mEntryV p0.l)]], false, true⟩, some (1, 0)), ((2, 0), ⟨43, 2, [[.sc (.int .i64 0), .nils]], false, true⟩, some (2, 0)), ((3, 0), ⟨43, 2, [[.sc (.int .i64 p0.cap), .ref (2003, 2) 0 (v0_0 ++ [x2]).length]], false, true⟩, some (3, 0)), ((2003, 2), ⟨32, 6, List.map mEntryV (v0_0 ++ [x2]), false, true⟩, some (27, 0))] [] ⟨⟨rfl, _, rfl, rfl, rfl, rfl, id, rowsCv_one (.cons (.free rfl) (.cons (.free rfl) .nil)), rowsZ_one rfl⟩, ⟨rfl, _, rfl, rfl, rfl, rfl, id, rowsCv_one (.cons (.free rfl) (.cons (.free rfl) .nil)), rowsZ_one rfl⟩, ⟨rfl, _, rfl, rfl, rfl, rfl, id, rowsCv_one (.cons (.free rfl) (.cons (.ref rfl) .nil)), rowsZ_one rfl⟩, ⟨rfl, _, rfl, rfl, rfl, rfl, id, rowsCv_eq rfl (allFree_map mEntryV_free), rowsZ_map mEntryV_len⟩, trivial⟩ trivial rfl rfl ?_
   exact ⟨(.ptr rfl), (.ptr rfl), (.ptr rfl), (.free rfl), trivial⟩
  ·have he := drop_f hd0 c1; subst he
   rw [s_l15Copy_l0] at h
   refine tri_exit ?_
   refine tri_sr ?_
   refine s_loadR rfl rfl rfl rfl ty43 rfl rfl rfl ?_
   refine s_storeB rfl rfl rfl ty43 rfl rfl rfl rfl rfl ?_
   refine rt_nil ?_
   refine tri_ret ?_
   have e0 := (some1 h); subst e0
   exact endY (v' := .agg [.sc (.int .i64 p0.cap), .ref (2000, 1) 0 v0_0.length]) [((2000, 1), ⟨32, 6, List.map mEntryV v0_0, false, true⟩, some (2003, 2))] [] (rvC (resCell rfl rfl ty43) rvN) ⟨⟨rfl, _, rfl, rfl, rfl, rfl, id, rowsCv_eq rfl (allFree_map mEntryV_free), rowsZ_map mEntryV_len⟩, trivial⟩ trivial rfl rfl (by kernel_rfl) (by simp only [V.mat, V.mat1, V.mat0, matL, matT, List.length_map] <;> rfl) (CvL.agg (.cons (.free rfl) (.cons (.ref rfl) .nil)))

/- spec.l1In -/

set_option maxRecDepth 4000 in
set_option maxHeartbeats 800000 in
theorem ws_l1In (p0 : Int) (p1 : Int) (p2 : Int) (r0 : Bool) (h : s_l1In p0 p1 p2 = some r0) : Runs Tryd.prog 41 [.sc (.int .i64 p0), .sc (.int .i64 p1), .sc (.int .i64 p2)] [] (.sc (.bool r0)) [] := by
 unfold s_l1In at h
 refine runsR [.tmp 6] Tryd.func41 rfl rfl rfl rfl ?_
 rw [Tryd.ntmps41]
 refine tri_sr ?_
 refine s_mv (.inr rfl) (v := .sc (.bool false)) rfl rfl rfl rfl ?_
 refine rt_nil ?_
 refine tri_sr ?_
 refine m1 ?_
 refine m1 ?_
 refine s_of (st_geq rfl rfl rfl) rfl rfl rfl rfl ?_
 refine m1 ?_
 refine s_split (t := 10) rfl (fun b1 => ?_) (fun b1 => ?_)
 ·replace h := cond_t h b1
  refine m1 ?_
  refine m1 ?_
  refine s_of (st_leq rfl rfl rfl) rfl rfl rfl rfl ?_
  refine s_pickT rfl rfl (by conv => lhs; whnf) rfl rfl rfl ?_
  refine m2 ?_
  refine rt_nil ?_
  refine tri_ret ?_
  have e0 := (some1 h); subst e0
  exact endY [] [] (rvC (resTmp rfl) rvN) trivial trivial rfl rfl rfl rfl (.free rfl)
 ·replace h := cond_f h b1
  refine s_skip rfl rfl rfl ?_
  refine s_skip rfl rfl rfl ?_
  refine s_skip rfl rfl rfl ?_
  refine s_pickF rfl rfl (v := .sc (.bool false)) rfl rfl rfl rfl ?_
  refine m2 ?_
  refine rt_nil ?_
  refine tri_ret ?_
  have e0 := (some1 h); subst e0
  exact endY [] [] (rvC (resTmp rfl) rvN) trivial trivial rfl rfl rfl rfl (.free rfl)

/- spec.Labels -/
def inv_s_Labels_2 (p0 : ByteArray) (v0_0 : List ByteArray) (v0_1 : Int) (v0_2 : Int) (j2_0 : Bool) : St := mkT 37 [(0, .sc (.string p0)), (3, .ref (2003, 0) 0 v0_0.length), (4, .sc (.int .i64 v0_1)), (5, .sc (.int .i64 v0_2)), (26, .sc (.bool j2_0))] [((2003, 0), some ⟨9, 1, List.map strV v0_0, false, true⟩)]
def inv_s_Labels_1 (p0 : ByteArray) (v0_0 : List ByteArray) (v0_1 : Int) (v0_2 : Int) (j1_0 : Bool) : St := mkT 37 [(0, .sc (.string p0)), (3, .ref (2003, 0) 0 v0_0.length), (4, .sc (.int .i64 v0_1)), (5, .sc (.int .i64 v0_2)), (14, .sc (.bool j1_0))] [((2003, 0), some ⟨9, 1, List.map strV v0_0, false, true⟩)]
def inv_s_Labels_0 (p0 : ByteArray) (v0_0 : List ByteArray) (v0_1 : Int) (v0_2 : Int) : St := mkT 37 [(0, .sc (.string p0)), (3, .ref (2003, 0) 0 v0_0.length), (4, .sc (.int .i64 v0_1)), (5, .sc (.int .i64 v0_2))] [((2003, 0), some ⟨9, 1, List.map strV v0_0, false, true⟩)]
set_option maxRecDepth 4000 in
set_option maxHeartbeats 800000 in
theorem ws_Labels (p0 : ByteArray) (r0 : List ByteArray) (h : s_Labels p0 = some r0) : Runs Tryd.prog 88 [.sc (.string p0)] [] (.own 9 1 (List.map strV r0)) [] := by
 unfold s_Labels at h
 refine runsR [.tmp 2] Tryd.func88 rfl rfl rfl rfl ?_
 rw [Tryd.ntmps88]
 refine tri_sr ?_
 refine s_mv (.inr rfl) (v := .nils) rfl rfl rfl rfl ?_
 refine rt_nil ?_
 refine tri_sr ?_
 refine s_buildSlice (rows' := List.map strV ([] : List ByteArray)) rfl rfl rfl sl108 zc9 rfl rfl rfl rfl rfl rfl rfl rfl rfl ?_
 refine m2 ?_
 refine rt_nil ?_
 refine tri_sr ?_
 refine s_mv (.inr rfl) (v := .sc (.int .i64 0)) rfl rfl rfl rfl ?_
 refine rt_nil ?_
 refine tri_seq ?_
 refine tri_sr ?_
 refine s_mv (.inr rfl) (v := .sc (.int .i64 0)) rfl rfl rfl rfl ?_
 refine rt_nil ?_
 refine tri_block ?_
 refine tri_loop (ι := { p : Nat × (List ByteArray) × Int × Int // s_Labels_l0 p0 p.1 p.2.1 p.2.2.1 p.2.2.2 = some r0 }) (fun p => inv_s_Labels_0 p0 p.1.2.1 p.1.2.2.1 p.1.2.2.2) (fun p => p.1.1) ⟨(fuel0, ([] : List ByteArray), 0, 0), h⟩ ?_ ?_
 ·skip
  refine entX [((2003, 0), ⟨9, 1, List.map strV ([] : List ByteArray), false, true⟩, some (6, 0))] [] ⟨⟨rfl, _, rfl, rfl, rfl, rfl, id, rowsCv_eq rfl (allFree_map strV_free), rowsZ_map strV_len⟩, trivial⟩ trivial rfl rfl ?_
  exact ⟨(.free rfl), (.ref rfl), (.free rfl), (.free rfl), trivial⟩
 ·rintro ⟨⟨f0, v0_0, v0_1, v0_2⟩, h⟩
  replace h : s_Labels_l0 p0 f0 v0_0 v0_1 v0_2 = some r0 := h
  cases f0 with
  | zero => cases h
  | succ f0 =>
  rw [s_Labels_l0] at h
  show Tri _ _ _ (inv_s_Labels_0 p0 v0_0 v0_1 v0_2)
  refine tri_seq ?_
  refine tri_cutI (ι := { p : Bool // s_Labels_j1 p0 v0_0 v0_1 v0_2 (s_Labels_l0 p0 f0) p = some r0 }) (fun p => inv_s_Labels_1 p0 v0_0 v0_1 v0_2 p.1) ?_ ?_
  ·skip
   refine tri_region ?_
   refine m1 ?_
   refine m1 ?_
   refine s_of (st_lenS rfl rfl iss9) rfl rfl rfl rfl ?_
   refine s_of (st_leq rfl rfl rfl) rfl rfl rfl rfl ?_
   refine m1 ?_
   refine s_split (t := 11) rfl (fun b1 => ?_) (fun b1 => ?_)
   ·replace h := cond_t h b1
    refine m1 ?_
    refine s_of (st_neS rfl rfl rfl) rfl rfl rfl rfl ?_
    refine s_pickT rfl rfl (by conv => lhs; whnf) rfl rfl rfl ?_
    refine rt_nil ?_
    refine Exists.intro ⟨!decide (p0 = (⟨#[]⟩ : ByteArray)), h⟩ ?_
    refine entX [((2003, 0), ⟨9, 1, List.map strV v0_0, false, true⟩, some (2003, 0))] [] ⟨⟨rfl, _, rfl, rfl, rfl, rfl, id, rowsCv_eq rfl (allFree_map strV_free), rowsZ_map strV_len⟩, trivial⟩ trivial rfl rfl ?_
    exact ⟨(.free rfl), (.ref rfl), (.free rfl), (.free rfl), (.free rfl), trivial⟩
   ·replace h := cond_f h b1
    refine s_skip rfl rfl rfl ?_
    refine s_skip rfl rfl rfl ?_
    refine s_pickF rfl rfl (v := .sc (.bool false)) rfl rfl rfl rfl ?_
    refine rt_nil ?_
    refine Exists.intro ⟨false, h⟩ ?_
    refine entX [((2003, 0), ⟨9, 1, List.map strV v0_0, false, true⟩, some (2003, 0))] [] ⟨⟨rfl, _, rfl, rfl, rfl, rfl, id, rowsCv_eq rfl (allFree_map strV_free), rowsZ_map strV_len⟩, trivial⟩ trivial rfl rfl ?_
    exact ⟨(.free rfl), (.ref rfl), (.free rfl), (.free rfl), (.free rfl), trivial⟩
  ·rintro ⟨j1_0, h⟩
   replace h : s_Labels_j1 p0 v0_0 v0_1 v0_2 (s_Labels_l0 p0 f0) j1_0 = some r0 := h
   unfold s_Labels_j1 at h
   show Tri _ _ _ (inv_s_Labels_1 p0 v0_0 v0_1 v0_2 j1_0)
   refine tri_cond rfl (fun c1 => ?_) (fun c1 => ?_)
   ·replace h := cond_t h c1
    refine tri_skip ?_
    refine tri_seq ?_
    refine tri_block ?_
    refine tri_cutI (ι := { p : Bool // s_Labels_j2 p0 v0_0 v0_1 v0_2 (s_Labels_l0 p0 f0) p = some r0 }) (fun p => inv_s_Labels_2 p0 v0_0 v0_1 v0_2 p.1) ?_ ?_
    ·skip
     refine tri_region ?_
     refine m1 ?_
     refine m1 ?_
     refine s_of (st_lenS rfl rfl iss9) rfl rfl rfl rfl ?_
     refine s_of (st_eqI rfl rfl rfl) rfl rfl rfl rfl ?_
     refine m1 ?_
     refine s_split (t := 21) rfl (fun b2 => ?_) (fun b2 => ?_)
     ·replace h := cond_t h b2
      refine s_skip rfl rfl rfl ?_
      refine s_skip rfl rfl rfl ?_
      refine s_skip rfl rfl rfl ?_
      refine s_skip rfl rfl rfl ?_
      refine s_pickT rfl rfl (v := .sc (.bool true)) rfl rfl rfl rfl ?_
      refine rt_nil ?_
      refine Exists.intro ⟨true, h⟩ ?_
      refine entX [((2003, 0), ⟨9, 1, List.map strV v0_0, false, true⟩, some (2003, 0))] [] ⟨⟨rfl, _, rfl, rfl, rfl, rfl, id, rowsCv_eq rfl (allFree_map strV_free), rowsZ_map strV_len⟩, trivial⟩ trivial rfl rfl ?_
      exact ⟨(.free rfl), (.ref rfl), (.free rfl), (.free rfl), (.free rfl), trivial⟩
     ·replace h := cond_f h b2
      refine m1 ?_
      refine m1 ?_
      refine bnd1_elim h fun x3 q4 h => ?_
      refine s_idxS rfl rfl rfl iss9 q4 rfl rfl rfl ?_
      refine s_of (st_eqI rfl rfl rfl) rfl rfl rfl rfl ?_
      refine s_pickF rfl rfl (by conv => lhs; whnf) rfl rfl rfl ?_
      refine rt_nil ?_
      refine Exists.intro ⟨decide (x3 = 46), h⟩ ?_
      refine entX [((2003, 0), ⟨9, 1, List.map strV v0_0, false, true⟩, some (2003, 0))] [] ⟨⟨rfl, _, rfl, rfl, rfl, rfl, id, rowsCv_eq rfl (allFree_map strV_free), rowsZ_map strV_len⟩, trivial⟩ trivial rfl rfl ?_
      exact ⟨(.free rfl), (.ref rfl), (.free rfl), (.free rfl), (.free rfl), trivial⟩
    ·rintro ⟨j2_0, h⟩
     replace h : s_Labels_j2 p0 v0_0 v0_1 v0_2 (s_Labels_l0 p0 f0) j2_0 = some r0 := h
     unfold s_Labels_j2 at h
     show Tri _ _ _ (inv_s_Labels_2 p0 v0_0 v0_1 v0_2 j2_0)
     refine tri_cond rfl (fun c2 => ?_) (fun c2 => ?_)
     ·replace h := cond_t h c2
      refine tri_sr ?_
      refine m1 ?_
      refine m1 ?_
      refine m1 ?_
      refine m1 ?_
      refine grd_elim h fun g3 h => ?_
      refine s_sliceS (a := v0_1) (b := v0_2) rfl rfl iss9 ⟨_, rfl⟩ ⟨_, rfl⟩ g3 rfl rfl rfl ?_
      refine s_buildSlice (rows' := List.map strV [p0.extract v0_1.toNat v0_2.toNat]) rfl rfl rfl sl108 zc9 rfl rfl rfl rfl rfl rfl rfl rfl rfl ?_
      refine grd_elim h fun g4 h => ?_
      refine s_appL rfl rfl rfl sl108 zc9 rfl rfl rfl rfl rfl rfl (src_refL rfl rfl) g4 rfl rfl ?_
      refine m2 ?_
      refine rt_nil ?_
      refine tri_region ?_
      refine m1 ?_
      refine grd_elim h fun g5 h => ?_
      refine s_addI rfl rfl rfl rfl g5 rfl rfl rfl ?_
      refine m2 ?_
      refine rt_nil ?_
      refine tri_region ?_
      refine m1 ?_
      refine grd_elim h fun g6 h => ?_
      refine s_addI rfl rfl rfl rfl g6 rfl rfl rfl ?_
      refine m2 ?_
      refine rt_nil ?_
      refine Exists.intro ⟨(f0, v0_0 ++ [p0.extract v0_1.toNat v0_2.toNat], v0_2 + 1, v0_2 + 1), h⟩ (And.intro (Nat.lt_succ_self _) ?_)
      refine entX [((2003, 0), ⟨9, 1, List.map strV (v0_0 ++ [p0.extract v0_1.toNat v0_2.toNat]), false, true⟩, some (33, 0))] [] ⟨⟨rfl, _, rfl, rfl, rfl, rfl, id, rowsCv_eq rfl (allFree_map strV_free), rowsZ_map strV_len⟩, trivial⟩ trivial rfl rfl ?_
      exact ⟨(.free rfl), (.ref rfl), (.free rfl), (.free rfl), trivial⟩
     ·replace h := cond_f h c2
      refine tri_skip ?_
      refine tri_region ?_
      refine m1 ?_
      refine grd_elim h fun g7 h => ?_
      refine s_addI rfl rfl rfl rfl g7 rfl rfl rfl ?_
      refine m2 ?_
      refine rt_nil ?_
      refine Exists.intro ⟨(f0, v0_0, v0_1, v0_2 + 1), h⟩ (And.intro (Nat.lt_succ_self _) ?_)
      refine entX [((2003, 0), ⟨9, 1, List.map strV v0_0, false, true⟩, some (2003, 0))] [] ⟨⟨rfl, _, rfl, rfl, rfl, rfl, id, rowsCv_eq rfl (allFree_map strV_free), rowsZ_map strV_len⟩, trivial⟩ trivial rfl rfl ?_
      exact ⟨(.free rfl), (.ref rfl), (.free rfl), (.free rfl), trivial⟩
   ·replace h := cond_f h c1
    refine tri_exit ?_
    refine tri_sr ?_
    refine m1 ?_
    refine m2 ?_
    refine rt_nil ?_
    refine tri_ret ?_
    have e0 := (some1 h); subst e0
    exact endY (v' := .ref (2000, 0) 0 v0_0.length) [((2000, 0), ⟨9, 1, List.map strV v0_0, false, true⟩, some (2003, 0))] [] (rvC (resTmp rfl) rvN) ⟨⟨rfl, _, rfl, rfl, rfl, rfl, id, rowsCv_eq rfl (allFree_map strV_free), rowsZ_map strV_len⟩, trivial⟩ trivial rfl rfl (by kernel_rfl) (by simp only [V.mat, V.mat1, V.mat0, matL, matT, List.length_map] <;> rfl) (.ref rfl)

/- spec.l2Byte -/

set_option maxRecDepth 4000 in
set_option maxHeartbeats 800000 in
theorem ws_l2Byte (p0 : Int) (r0 : Bool) (h : s_l2Byte p0 = some r0) : Runs Tryd.prog 114 [.sc (.int .u8 p0)] [] (.sc (.bool r0)) [] := by
 unfold s_l2Byte at h
 refine runsR [.tmp 2] Tryd.func114 rfl rfl rfl rfl ?_
 rw [Tryd.ntmps114]
 refine tri_sr ?_
 refine s_mv (.inr rfl) (v := .sc (.bool false)) rfl rfl rfl rfl ?_
 refine rt_nil ?_
 refine tri_sr ?_
 refine m1 ?_
 refine s_of (st_conv ik5 ik3 rfl rfl) rfl rfl rfl rfl ?_
 refine bnd1_elim h fun x1 q2 h => ?_
 refine s_callN (kb := []) (ns := []) (v := .sc (.bool x1)) rfl rfl cl41 (ws_l1In (IntKind.i64.wrap p0) 97 122 x1 q2) rfl (.cons (.free rfl) (.cons (.free rfl) (.cons (.free rfl) .nil))) trivial memNil .nil memNil rfl trivial memNil rfl rfl rfl rfl rfl rfl ?_
 refine m1 ?_
 refine s_split (t := 6) rfl (fun b3 => ?_) (fun b3 => ?_)
 ·replace h := cond_t h b3
  refine s_skip rfl rfl rfl ?_
  refine s_skip rfl rfl rfl ?_
  refine s_skip rfl rfl rfl ?_
  refine s_pickT rfl rfl (v := .sc (.bool true)) rfl rfl rfl rfl ?_
  refine m1 ?_
  refine s_skip rfl rfl rfl ?_
  refine s_skip rfl rfl rfl ?_
  refine s_pickT rfl rfl (v := .sc (.bool true)) rfl rfl rfl rfl ?_
  refine m1 ?_
  refine s_skip rfl rfl rfl ?_
  refine s_skip rfl rfl rfl ?_
  refine s_pickT rfl rfl (v := .sc (.bool true)) rfl rfl rfl rfl ?_
  refine m2 ?_
  refine rt_nil ?_
  refine tri_ret ?_
  have e0 := (some1 h); subst e0
  exact endY [] [] (rvC (resTmp rfl) rvN) trivial trivial rfl rfl rfl rfl (.free rfl)
 ·replace h := cond_f h b3
  refine m1 ?_
  refine s_of (st_conv ik5 ik3 rfl rfl) rfl rfl rfl rfl ?_
  refine bnd1_elim h fun x4 q5 h => ?_
  refine s_callN (kb := []) (ns := []) (v := .sc (.bool x4)) rfl rfl cl41 (ws_l1In (IntKind.i64.wrap p0) 48 57 x4 q5) rfl (.cons (.free rfl) (.cons (.free rfl) (.cons (.free rfl) .nil))) trivial memNil .nil memNil rfl trivial memNil rfl rfl rfl rfl rfl rfl ?_
  refine s_pickF rfl rfl (by conv => lhs; whnf) rfl rfl rfl ?_
  refine m1 ?_
  refine s_split (t := 11) rfl (fun b6 => ?_) (fun b6 => ?_)
  ·replace h := cond_t h b6
   refine s_skip rfl rfl rfl ?_
   refine s_skip rfl rfl rfl ?_
   refine s_pickT rfl rfl (v := .sc (.bool true)) rfl rfl rfl rfl ?_
   refine m1 ?_
   refine s_skip rfl rfl rfl ?_
   refine s_skip rfl rfl rfl ?_
   refine s_pickT rfl rfl (v := .sc (.bool true)) rfl rfl rfl rfl ?_
   refine m2 ?_
   refine rt_nil ?_
   refine tri_ret ?_
   have e0 := (some1 h); subst e0
   exact endY [] [] (rvC (resTmp rfl) rvN) trivial trivial rfl rfl rfl rfl (.free rfl)
  ·replace h := cond_f h b6
   refine m1 ?_
   refine s_of (st_eqI rfl rfl rfl) rfl rfl rfl rfl ?_
   refine s_pickF rfl rfl (by conv => lhs; whnf) rfl rfl rfl ?_
   refine m1 ?_
   refine s_split (t := 15) rfl (fun b7 => ?_) (fun b7 => ?_)
   ·replace h := cond_t h b7
    refine s_skip rfl rfl rfl ?_
    refine s_skip rfl rfl rfl ?_
    refine s_pickT rfl rfl (v := .sc (.bool true)) rfl rfl rfl rfl ?_
    refine m2 ?_
    refine rt_nil ?_
    refine tri_ret ?_
    have e0 := (some1 h); subst e0
    exact endY [] [] (rvC (resTmp rfl) rvN) trivial trivial rfl rfl rfl rfl (.free rfl)
   ·replace h := cond_f h b7
    refine m1 ?_
    refine s_of (st_eqI rfl rfl rfl) rfl rfl rfl rfl ?_
    refine s_pickF rfl rfl (by conv => lhs; whnf) rfl rfl rfl ?_
    refine m2 ?_
    refine rt_nil ?_
    refine tri_ret ?_
    have e0 := (some1 h); subst e0
    exact endY [] [] (rvC (resTmp rfl) rvN) trivial trivial rfl rfl rfl rfl (.free rfl)

/- spec.LabelOk -/
def inv_s_LabelOk_1 (p0 : ByteArray) (v1_0 : Int) : St := mkT 18 [(0, .sc (.string p0)), (3, .sc (.int .i64 v1_0))] []
def inv_s_LabelOk_0 (p0 : ByteArray) : St := mkT 18 [(0, .sc (.string p0))] []
set_option maxRecDepth 4000 in
set_option maxHeartbeats 800000 in
theorem ws_LabelOk (p0 : ByteArray) (r0 : Bool) (h : s_LabelOk p0 = some r0) : Runs Tryd.prog 89 [.sc (.string p0)] [] (.sc (.bool r0)) [] := by
 unfold s_LabelOk at h
 refine runsR [.tmp 2] Tryd.func89 rfl rfl rfl rfl ?_
 rw [Tryd.ntmps89]
 refine tri_sr ?_
 refine s_mv (.inr rfl) (v := .sc (.bool false)) rfl rfl rfl rfl ?_
 refine rt_nil ?_
 refine tri_cutI (ι := { p : Unit // s_LabelOk_j0 p0 = some r0 }) (fun p => inv_s_LabelOk_0 p0) ?_ ?_
 ·skip
  refine tri_sr ?_
  refine s_mv (.inr rfl) (v := .sc (.int .i64 0)) rfl rfl rfl rfl ?_
  refine rt_nil ?_
  refine tri_block ?_
  refine tri_loop (ι := { p : Nat × Int // s_LabelOk_l1 p0 p.1 p.2 = some r0 }) (fun p => inv_s_LabelOk_1 p0 p.1.2) (fun p => p.1.1) ⟨(fuel0, 0), h⟩ ?_ ?_
  ·skip
   refine entX [] [] trivial trivial rfl rfl ?_
   exact ⟨(.free rfl), (.free rfl), trivial⟩
  ·rintro ⟨⟨f1, v1_0⟩, h⟩
   replace h : s_LabelOk_l1 p0 f1 v1_0 = some r0 := h
   cases f1 with
   | zero => cases h
   | succ f1 =>
   rw [s_LabelOk_l1] at h
   show Tri _ _ _ (inv_s_LabelOk_1 p0 v1_0)
   refine tri_seq ?_
   refine tri_sr ?_
   refine m1 ?_
   refine m1 ?_
   refine s_of (st_lenS rfl rfl iss9) rfl rfl rfl rfl ?_
   refine s_of (st_lss rfl rfl rfl) rfl rfl rfl rfl ?_
   refine rt_nil ?_
   refine tri_cond rfl (fun c1 => ?_) (fun c1 => ?_)
   ·replace h := cond_t h c1
    refine tri_skip ?_
    refine tri_seq ?_
    refine tri_block ?_
    refine tri_sr ?_
    refine m1 ?_
    refine m1 ?_
    refine bnd1_elim h fun x2 q3 h => ?_
    refine s_idxS rfl rfl rfl iss9 q3 rfl rfl rfl ?_
    refine bnd1_elim h fun x4 q5 h => ?_
    refine s_callN (kb := []) (ns := []) (v := .sc (.bool x4)) rfl rfl cl114 (ws_l2Byte x2 x4 q5) rfl (.cons (.free rfl) .nil) trivial memNil .nil memNil rfl trivial memNil rfl rfl rfl rfl rfl rfl ?_
    refine s_of (st_not rfl rfl) rfl rfl rfl rfl ?_
    refine rt_nil ?_
    refine tri_cond rfl (fun c6 => ?_) (fun c6 => ?_)
    ·replace h := cond_t h c6
     refine tri_sr ?_
     refine s_mv (.inr rfl) (v := .sc (.bool false)) rfl rfl rfl rfl ?_
     refine rt_nil ?_
     refine tri_ret ?_
     have e0 := (some1 h); subst e0
     exact endY [] [] (rvC (resTmp rfl) rvN) trivial trivial rfl rfl rfl rfl (.free rfl)
    ·replace h := cond_f h c6
     refine tri_skip ?_
     refine tri_region ?_
     refine m1 ?_
     refine grd_elim h fun g7 h => ?_
     refine s_addI rfl rfl rfl rfl g7 rfl rfl rfl ?_
     refine m2 ?_
     refine rt_nil ?_
     refine Exists.intro ⟨(f1, v1_0 + 1), h⟩ (And.intro (Nat.lt_succ_self _) ?_)
     refine entX [] [] trivial trivial rfl rfl ?_
     exact ⟨(.free rfl), (.free rfl), trivial⟩
   ·replace h := cond_f h c1
    refine tri_exit ?_
    refine Exists.intro ⟨(), h⟩ ?_
    refine entX [] [] trivial trivial rfl rfl ?_
    exact ⟨(.free rfl), trivial⟩
 ·rintro ⟨u, h⟩
  replace h : s_LabelOk_j0 p0 = some r0 := h
  unfold s_LabelOk_j0 at h
  show Tri _ _ _ (inv_s_LabelOk_0 p0)
  refine tri_sr ?_
  refine m1 ?_
  refine s_of (st_lenS rfl rfl iss9) rfl rfl rfl rfl ?_
  refine bnd1_elim h fun x1 q2 h => ?_
  refine s_callN (kb := []) (ns := []) (v := .sc (.bool x1)) rfl rfl cl41 (ws_l1In (p0.size : Int) 1 12 x1 q2) rfl (.cons (.free rfl) (.cons (.free rfl) (.cons (.free rfl) .nil))) trivial memNil .nil memNil rfl trivial memNil rfl rfl rfl rfl rfl rfl ?_
  refine m2 ?_
  refine rt_nil ?_
  refine tri_ret ?_
  have e0 := (some1 h); subst e0
  exact endY [] [] (rvC (resTmp rfl) rvN) trivial trivial rfl rfl rfl rfl (.free rfl)

/- spec.NameOk -/
def inv_s_NameOk_1 (p0 : ByteArray) (x1 : List ByteArray) (v1_0 : Nat) : St := mkT 27 [(0, .sc (.string p0)), (3, .ref (6, 0) 0 x1.length), (4, .sc (.int .i64 (v1_0 : Int)))] [((6, 0), some ⟨9, 1, List.map strV x1, false, true⟩)]
def inv_s_NameOk_0 (p0 : ByteArray) (x1 : List ByteArray) : St := mkT 27 [(0, .sc (.string p0)), (3, .ref (6, 0) 0 x1.length)] [((6, 0), some ⟨9, 1, List.map strV x1, false, true⟩)]
set_option maxRecDepth 4000 in
set_option maxHeartbeats 800000 in
theorem ws_NameOk (p0 : ByteArray) (r0 : Bool) (h : s_NameOk p0 = some r0) : Runs Tryd.prog 44 [.sc (.string p0)] [] (.sc (.bool r0)) [] := by
 unfold s_NameOk at h
 refine runsR [.tmp 2] Tryd.func44 rfl rfl rfl rfl ?_
 rw [Tryd.ntmps44]
 refine tri_sr ?_
 refine s_mv (.inr rfl) (v := .sc (.bool false)) rfl rfl rfl rfl ?_
 refine rt_nil ?_
 refine tri_sr ?_
 refine m1 ?_
 refine bnd1_elim h fun x1 q2 h => ?_
 refine s_callN (kb := []) (ns := []) (v := .ref (6, 0) 0 x1.length) rfl rfl cl88 (ws_Labels p0 x1 q2) rfl (.cons (.free rfl) .nil) trivial memNil .nil memNil rfl ⟨(allSc_map strV_sc), trivial⟩ memNil rfl (by simp only [V.mat, V.mat1, V.mat0, matL, matT, List.length_map] <;> rfl) rfl rfl rfl rfl ?_
 refine m2 ?_
 refine rt_nil ?_
 refine tri_cutI (ι := { p : Unit // s_NameOk_j0 p0 x1 = some r0 }) (fun p => inv_s_NameOk_0 p0 x1) ?_ ?_
 ·skip
  refine tri_sr ?_
  refine s_mv (.inr rfl) (v := .sc (.int .i64 0)) rfl rfl rfl rfl ?_
  refine rt_nil ?_
  refine tri_block ?_
  refine tri_ownM (6, 0) rfl (fun hl1 => ?_)
  refine tri_loop (ι := { p : (List ByteArray) × Nat // x1.drop p.2 = p.1 ∧ s_NameOk_l1 p0 x1 p.1 p.2 = some r0 }) (fun p => inv_s_NameOk_1 p0 x1 p.1.2) (fun p => p.1.1.length) ⟨(x1, 0), rfl, h⟩ ?_ ?_
  ·skip
   refine entX [((6, 0), ⟨9, 1, List.map strV x1, false, true⟩, some (6, 0))] [] ⟨⟨rfl, _, rfl, rfl, rfl, rfl, id, rowsCv_eq rfl (allFree_map strV_free), rowsZ_map strV_len⟩, trivial⟩ trivial rfl rfl ?_
   exact ⟨(.free rfl), (.ref rfl), (.free rfl), trivial⟩
  ·rintro ⟨⟨lrs1, v1_0⟩, hd1, h⟩
   replace hd1 : x1.drop v1_0 = lrs1 := hd1
   replace h : s_NameOk_l1 p0 x1 lrs1 v1_0 = some r0 := h
   show Tri _ _ _ (inv_s_NameOk_1 p0 x1 v1_0)
   refine tri_seq ?_
   refine tri_sr ?_
   refine m1 ?_
   refine m1 ?_
   refine s_len (m := x1.length) rfl sl108 rfl rfl rfl rfl ?_
   refine s_of (st_lss rfl rfl rfl) rfl rfl rfl rfl ?_
   refine rt_nil ?_
   refine tri_cond rfl (fun c3 => ?_) (fun c3 => ?_)
   ·refine drop_elim hd1 c3 fun e1 rs1 he hx1 hn1 => ?_
    subst he
    rw [s_NameOk_l1] at h
    refine tri_skip ?_
    refine tri_seq ?_
    refine tri_block ?_
    refine tri_sr ?_
    refine m1 ?_
    refine m1 ?_
    refine s_index0 (i := v1_0) rfl rfl rfl rfl sl108 rfl (get_lt hx1) rfl rfl rfl ?_
    refine s_load rfl rfl rfl (rowG hx1) ty9 rfl (.inr rfl) (by conv => lhs; whnf) rfl rfl rfl ?_
    refine bnd1_elim h fun x4 q5 h => ?_
    refine s_callN (kb := []) (ns := []) (v := .sc (.bool x4)) rfl rfl cl89 (ws_LabelOk e1 x4 q5) rfl (.cons (.free rfl) .nil) trivial memNil .nil memNil rfl trivial memNil rfl rfl rfl rfl rfl rfl ?_
    refine s_of (st_not rfl rfl) rfl rfl rfl rfl ?_
    refine rt_nil ?_
    refine tri_cond rfl (fun c6 => ?_) (fun c6 => ?_)
    ·replace h := cond_t h c6
     refine tri_sr ?_
     refine s_mv (.inr rfl) (v := .sc (.bool false)) rfl rfl rfl rfl ?_
     refine rt_nil ?_
     refine tri_ret ?_
     have e0 := (some1 h); subst e0
     exact endY [] [] (rvC (resTmp rfl) rvN) trivial trivial rfl rfl rfl rfl (.free rfl)
    ·replace h := cond_f h c6
     refine tri_skip ?_
     refine tri_region ?_
     refine m1 ?_
     refine s_inc (a := v1_0) (b := 1) rfl rfl rfl rfl (by have := get_lt hx1; have := hl1; omega) rfl rfl rfl ?_
     refine m2 ?_
     refine rt_nil ?_
     refine Exists.intro ⟨(rs1, (v1_0 + 1)), hn1, h⟩ (And.intro (Nat.lt_succ_self _) ?_)
     refine entX [((6, 0), ⟨9, 1, List.map strV x1, false, true⟩, some (6, 0))] [] ⟨⟨rfl, _, rfl, rfl, rfl, rfl, id, rowsCv_eq rfl (allFree_map strV_free), rowsZ_map strV_len⟩, trivial⟩ trivial rfl rfl ?_
     exact ⟨(.free rfl), (.ref rfl), (.free rfl), trivial⟩
   ·have he := drop_f hd1 c3; subst he
    rw [s_NameOk_l1] at h
    refine tri_exit ?_
    refine Exists.intro ⟨(), h⟩ ?_
    refine entX [((6, 0), ⟨9, 1, List.map strV x1, false, true⟩, some (6, 0))] [] ⟨⟨rfl, _, rfl, rfl, rfl, rfl, id, rowsCv_eq rfl (allFree_map strV_free), rowsZ_map strV_len⟩, trivial⟩ trivial rfl rfl ?_
    exact ⟨(.free rfl), (.ref rfl), trivial⟩
 ·rintro ⟨u, h⟩
  replace h : s_NameOk_j0 p0 x1 = some r0 := h
  unfold s_NameOk_j0 at h
  show Tri _ _ _ (inv_s_NameOk_0 p0 x1)
  refine tri_sr ?_
  refine m1 ?_
  refine s_of (st_lenS rfl rfl iss9) rfl rfl rfl rfl ?_
  refine s_of (st_leq rfl rfl rfl) rfl rfl rfl rfl ?_
  refine m1 ?_
  refine s_split (t := 22) rfl (fun b3 => ?_) (fun b3 => ?_)
  ·replace h := cond_t h b3
   refine m1 ?_
   refine s_len (m := x1.length) rfl sl108 rfl rfl rfl rfl ?_
   refine s_of (st_leq rfl rfl rfl) rfl rfl rfl rfl ?_
   refine s_pickT rfl rfl (by conv => lhs; whnf) rfl rfl rfl ?_
   refine m2 ?_
   refine rt_nil ?_
   refine tri_ret ?_
   have e0 := (some1 h); subst e0
   exact endY [] [] (rvC (resTmp rfl) rvN) trivial trivial rfl rfl rfl rfl (.free rfl)
  ·replace h := cond_f h b3
   refine s_skip rfl rfl rfl ?_
   refine s_skip rfl rfl rfl ?_
   refine s_skip rfl rfl rfl ?_
   refine s_pickF rfl rfl (v := .sc (.bool false)) rfl rfl rfl rfl ?_
   refine m2 ?_
   refine rt_nil ?_
   refine tri_ret ?_
   have e0 := (some1 h); subst e0
   exact endY [] [] (rvC (resTmp rfl) rvN) trivial trivial rfl rfl rfl rfl (.free rfl)

/- spec.TypeOk -/

set_option maxRecDepth 4000 in
set_option maxHeartbeats 800000 in
theorem ws_TypeOk (p0 : Int) (r0 : Bool) (h : s_TypeOk p0 = some r0) : Runs Tryd.prog 86 [.sc (.int .i64 p0)] [] (.sc (.bool r0)) [] := by
 unfold s_TypeOk at h
 refine runsR [.tmp 2] Tryd.func86 rfl rfl rfl rfl ?_
 rw [Tryd.ntmps86]
 refine tri_sr ?_
 refine s_mv (.inr rfl) (v := .sc (.bool false)) rfl rfl rfl rfl ?_
 refine rt_nil ?_
 refine tri_sr ?_
 refine m1 ?_
 refine s_of (st_eqI rfl rfl rfl) rfl rfl rfl rfl ?_
 refine m1 ?_
 refine s_split (t := 5) rfl (fun b1 => ?_) (fun b1 => ?_)
 ·replace h := cond_t h b1
  refine s_skip rfl rfl rfl ?_
  refine s_skip rfl rfl rfl ?_
  refine s_pickT rfl rfl (v := .sc (.bool true)) rfl rfl rfl rfl ?_
  refine m1 ?_
  refine s_skip rfl rfl rfl ?_
  refine s_skip rfl rfl rfl ?_
  refine s_pickT rfl rfl (v := .sc (.bool true)) rfl rfl rfl rfl ?_
  refine m1 ?_
  refine s_skip rfl rfl rfl ?_
  refine s_skip rfl rfl rfl ?_
  refine s_pickT rfl rfl (v := .sc (.bool true)) rfl rfl rfl rfl ?_
  refine m1 ?_
  refine s_skip rfl rfl rfl ?_
  refine s_skip rfl rfl rfl ?_
  refine s_pickT rfl rfl (v := .sc (.bool true)) rfl rfl rfl rfl ?_
  refine m2 ?_
  refine rt_nil ?_
  refine tri_ret ?_
  have e0 := (some1 h); subst e0
  exact endY [] [] (rvC (resTmp rfl) rvN) trivial trivial rfl rfl rfl rfl (.free rfl)
 ·replace h := cond_f h b1
  refine m1 ?_
  refine s_of (st_eqI rfl rfl rfl) rfl rfl rfl rfl ?_
  refine s_pickF rfl rfl (by conv => lhs; whnf) rfl rfl rfl ?_
  refine m1 ?_
  refine s_split (t := 9) rfl (fun b2 => ?_) (fun b2 => ?_)
  ·replace h := cond_t h b2
   refine s_skip rfl rfl rfl ?_
   refine s_skip rfl rfl rfl ?_
   refine s_pickT rfl rfl (v := .sc (.bool true)) rfl rfl rfl rfl ?_
   refine m1 ?_
   refine s_skip rfl rfl rfl ?_
   refine s_skip rfl rfl rfl ?_
   refine s_pickT rfl rfl (v := .sc (.bool true)) rfl rfl rfl rfl ?_
   refine m1 ?_
   refine s_skip rfl rfl rfl ?_
   refine s_skip rfl rfl rfl ?_
   refine s_pickT rfl rfl (v := .sc (.bool true)) rfl rfl rfl rfl ?_
   refine m2 ?_
   refine rt_nil ?_
   refine tri_ret ?_
   have e0 := (some1 h); subst e0
   exact endY [] [] (rvC (resTmp rfl) rvN) trivial trivial rfl rfl rfl rfl (.free rfl)
  ·replace h := cond_f h b2
   refine m1 ?_
   refine s_of (st_eqI rfl rfl rfl) rfl rfl rfl rfl ?_
   refine s_pickF rfl rfl (by conv => lhs; whnf) rfl rfl rfl ?_
   refine m1 ?_
   refine s_split (t := 13) rfl (fun b3 => ?_) (fun b3 => ?_)
   ·replace h := cond_t h b3
    refine s_skip rfl rfl rfl ?_
    refine s_skip rfl rfl rfl ?_
    refine s_pickT rfl rfl (v := .sc (.bool true)) rfl rfl rfl rfl ?_
    refine m1 ?_
    refine s_skip rfl rfl rfl ?_
    refine s_skip rfl rfl rfl ?_
    refine s_pickT rfl rfl (v := .sc (.bool true)) rfl rfl rfl rfl ?_
    refine m2 ?_
    refine rt_nil ?_
    refine tri_ret ?_
    have e0 := (some1 h); subst e0
    exact endY [] [] (rvC (resTmp rfl) rvN) trivial trivial rfl rfl rfl rfl (.free rfl)
   ·replace h := cond_f h b3
    refine m1 ?_
    refine s_of (st_eqI rfl rfl rfl) rfl rfl rfl rfl ?_
    refine s_pickF rfl rfl (by conv => lhs; whnf) rfl rfl rfl ?_
    refine m1 ?_
    refine s_split (t := 17) rfl (fun b4 => ?_) (fun b4 => ?_)
    ·replace h := cond_t h b4
     refine s_skip rfl rfl rfl ?_
     refine s_skip rfl rfl rfl ?_
     refine s_pickT rfl rfl (v := .sc (.bool true)) rfl rfl rfl rfl ?_
     refine m2 ?_
     refine rt_nil ?_
     refine tri_ret ?_
     have e0 := (some1 h); subst e0
     exact endY [] [] (rvC (resTmp rfl) rvN) trivial trivial rfl rfl rfl rfl (.free rfl)
    ·replace h := cond_f h b4
     refine m1 ?_
     refine s_of (st_eqI rfl rfl rfl) rfl rfl rfl rfl ?_
     refine s_pickF rfl rfl (by conv => lhs; whnf) rfl rfl rfl ?_
     refine m2 ?_
     refine rt_nil ?_
     refine tri_ret ?_
     have e0 := (some1 h); subst e0
     exact endY [] [] (rvC (resTmp rfl) rvN) trivial trivial rfl rfl rfl rfl (.free rfl)

/- spec.QuestOk -/

set_option maxRecDepth 4000 in
set_option maxHeartbeats 800000 in
theorem ws_QuestOk (p0 : Quest) (r0 : Bool) (h : s_QuestOk p0 = some r0) : Runs Tryd.prog 42 [.agg (questV p0)] [] (.sc (.bool r0)) [] := by
 unfold s_QuestOk at h
 refine runsR [.tmp 2] Tryd.func42 rfl rfl rfl rfl ?_
 rw [Tryd.ntmps42]
 refine tri_sr ?_
 refine s_box rfl rfl rfl rfl rfl rfl rfl ?_
 refine s_mv (.inr rfl) (v := .sc (.bool false)) rfl rfl rfl rfl ?_
 refine rt_nil ?_
 refine tri_sr ?_
 refine s_fieldAddr rfl rfl fd29_0 rfl rfl rfl rfl ?_
 refine s_load rfl rfl rfl rfl ty9 rfl (.inr rfl) (by conv => lhs; whnf) rfl rfl rfl ?_
 refine bnd1_elim h fun x1 q2 h => ?_
 refine s_callN (kb := []) (ns := []) (v := .sc (.bool x1)) rfl rfl cl44 (ws_NameOk p0.name x1 q2) rfl (.cons (.free rfl) .nil) trivial memNil .nil memNil rfl trivial memNil rfl rfl rfl rfl rfl rfl ?_
 refine m1 ?_
 refine s_split (t := 6) rfl (fun b3 => ?_) (fun b3 => ?_)
 ·replace h := cond_t h b3
  refine s_fieldAddr rfl rfl fd29_1 rfl rfl rfl rfl ?_
  refine s_load rfl rfl rfl rfl ty3 rfl (.inr rfl) (by conv => lhs; whnf) rfl rfl rfl ?_
  refine bnd1_elim h fun x4 q5 h => ?_
  refine s_callN (kb := []) (ns := []) (v := .sc (.bool x4)) rfl rfl cl86 (ws_TypeOk p0.ty x4 q5) rfl (.cons (.free rfl) .nil) trivial memNil .nil memNil rfl trivial memNil rfl rfl rfl rfl rfl rfl ?_
  refine s_pickT rfl rfl (by conv => lhs; whnf) rfl rfl rfl ?_
  refine m2 ?_
  refine rt_nil ?_
  refine tri_ret ?_
  have e0 := (some1 h); subst e0
  exact endY [] [] (rvC (resTmp rfl) rvN) trivial trivial rfl rfl rfl rfl (.free rfl)
 ·replace h := cond_f h b3
  refine s_skip rfl rfl rfl ?_
  refine s_skip rfl rfl rfl ?_
  refine s_skip rfl rfl rfl ?_
  refine s_pickF rfl rfl (v := .sc (.bool false)) rfl rfl rfl rfl ?_
  refine m2 ?_
  refine rt_nil ?_
  refine tri_ret ?_
  have e0 := (some1 h); subst e0
  exact endY [] [] (rvC (resTmp rfl) rvN) trivial trivial rfl rfl rfl rfl (.free rfl)

/- spec.l5Text -/
def inv_s_l5Text_1 (p0 : ByteArray) (v1_0 : Int) : St := mkT 19 [(0, .sc (.string p0)), (3, .sc (.int .i64 v1_0))] []
def inv_s_l5Text_0 (p0 : ByteArray) : St := mkT 19 [(0, .sc (.string p0))] []
set_option maxRecDepth 4000 in
set_option maxHeartbeats 800000 in
theorem ws_l5Text (p0 : ByteArray) (r0 : Bool) (h : s_l5Text p0 = some r0) : Runs Tryd.prog 113 [.sc (.string p0)] [] (.sc (.bool r0)) [] := by
 unfold s_l5Text at h
 refine runsR [.tmp 2] Tryd.func113 rfl rfl rfl rfl ?_
 rw [Tryd.ntmps113]
 refine tri_sr ?_
 refine s_mv (.inr rfl) (v := .sc (.bool false)) rfl rfl rfl rfl ?_
 refine rt_nil ?_
 refine tri_cutI (ι := { p : Unit // s_l5Text_j0 p0 = some r0 }) (fun p => inv_s_l5Text_0 p0) ?_ ?_
 ·skip
  refine tri_sr ?_
  refine s_mv (.inr rfl) (v := .sc (.int .i64 0)) rfl rfl rfl rfl ?_
  refine rt_nil ?_
  refine tri_block ?_
  refine tri_loop (ι := { p : Nat × Int // s_l5Text_l1 p0 p.1 p.2 = some r0 }) (fun p => inv_s_l5Text_1 p0 p.1.2) (fun p => p.1.1) ⟨(fuel0, 0), h⟩ ?_ ?_
  ·skip
   refine entX [] [] trivial trivial rfl rfl ?_
   exact ⟨(.free rfl), (.free rfl), trivial⟩
  ·rintro ⟨⟨f1, v1_0⟩, h⟩
   replace h : s_l5Text_l1 p0 f1 v1_0 = some r0 := h
   cases f1 with
   | zero => cases h
   | succ f1 =>
   rw [s_l5Text_l1] at h
   show Tri _ _ _ (inv_s_l5Text_1 p0 v1_0)
   refine tri_seq ?_
   refine tri_sr ?_
   refine m1 ?_
   refine m1 ?_
   refine s_of (st_lenS rfl rfl iss9) rfl rfl rfl rfl ?_
   refine s_of (st_lss rfl rfl rfl) rfl rfl rfl rfl ?_
   refine rt_nil ?_
   refine tri_cond rfl (fun c1 => ?_) (fun c1 => ?_)
   ·replace h := cond_t h c1
    refine tri_skip ?_
    refine tri_seq ?_
    refine tri_block ?_
    refine tri_sr ?_
    refine m1 ?_
    refine m1 ?_
    refine bnd1_elim h fun x2 q3 h => ?_
    refine s_idxS rfl rfl rfl iss9 q3 rfl rfl rfl ?_
    refine s_of (st_conv ik5 ik3 rfl rfl) rfl rfl rfl rfl ?_
    refine bnd1_elim h fun x4 q5 h => ?_
    refine s_callN (kb := []) (ns := []) (v := .sc (.bool x4)) rfl rfl cl41 (ws_l1In (IntKind.i64.wrap x2) 33 126 x4 q5) rfl (.cons (.free rfl) (.cons (.free rfl) (.cons (.free rfl) .nil))) trivial memNil .nil memNil rfl trivial memNil rfl rfl rfl rfl rfl rfl ?_
    refine s_of (st_not rfl rfl) rfl rfl rfl rfl ?_
    refine rt_nil ?_
    refine tri_cond rfl (fun c6 => ?_) (fun c6 => ?_)
    ·replace h := cond_t h c6
     refine tri_sr ?_
     refine s_mv (.inr rfl) (v := .sc (.bool false)) rfl rfl rfl rfl ?_
     refine rt_nil ?_
     refine tri_ret ?_
     have e0 := (some1 h); subst e0
     exact endY [] [] (rvC (resTmp rfl) rvN) trivial trivial rfl rfl rfl rfl (.free rfl)
    ·replace h := cond_f h c6
     refine tri_skip ?_
     refine tri_region ?_
     refine m1 ?_
     refine grd_elim h fun g7 h => ?_
     refine s_addI rfl rfl rfl rfl g7 rfl rfl rfl ?_
     refine m2 ?_
     refine rt_nil ?_
     refine Exists.intro ⟨(f1, v1_0 + 1), h⟩ (And.intro (Nat.lt_succ_self _) ?_)
     refine entX [] [] trivial trivial rfl rfl ?_
     exact ⟨(.free rfl), (.free rfl), trivial⟩
   ·replace h := cond_f h c1
    refine tri_exit ?_
    refine Exists.intro ⟨(), h⟩ ?_
    refine entX [] [] trivial trivial rfl rfl ?_
    exact ⟨(.free rfl), trivial⟩
 ·rintro ⟨u, h⟩
  replace h : s_l5Text_j0 p0 = some r0 := h
  unfold s_l5Text_j0 at h
  show Tri _ _ _ (inv_s_l5Text_0 p0)
  refine tri_sr ?_
  refine m1 ?_
  refine s_of (st_lenS rfl rfl iss9) rfl rfl rfl rfl ?_
  refine s_of (st_leq rfl rfl rfl) rfl rfl rfl rfl ?_
  refine m2 ?_
  refine rt_nil ?_
  refine tri_ret ?_
  have e0 := (some1 h); subst e0
  exact endY [] [] (rvC (resTmp rfl) rvN) trivial trivial rfl rfl rfl rfl (.free rfl)

/- spec.RecordOk -/
def inv_s_RecordOk_1 (p0 : Rec) (j1_0 : Bool) : St := mkT 79 [(1, .ptr (1, 0) 0 0), (14, .sc (.int .i64 p0.ty)), (30, .sc (.bool j1_0))] [((1, 0), some ⟨60, 6, [[.sc (.string p0.name), .sc (.int .i64 p0.ty), .sc (.int .i64 p0.ttl), .sc (.int .i64 p0.n), .sc (.string p0.host), .sc (.string p0.text)]], false, true⟩)]
def inv_s_RecordOk_0 (p0 : Rec) (j0_0 : Bool) : St := mkT 79 [(1, .ptr (1, 0) 0 0), (12, .sc (.bool j0_0))] [((1, 0), some ⟨60, 6, [[.sc (.string p0.name), .sc (.int .i64 p0.ty), .sc (.int .i64 p0.ttl), .sc (.int .i64 p0.n), .sc (.string p0.host), .sc (.string p0.text)]], false, true⟩)]
set_option maxRecDepth 4000 in
set_option maxHeartbeats 800000 in
theorem ws_RecordOk (p0 : Rec) (r0 : Bool) (h : s_RecordOk p0 = some r0) : Runs Tryd.prog 87 [.agg (recV p0)] [] (.sc (.bool r0)) [] := by
 unfold s_RecordOk at h
 refine runsR [.tmp 2] Tryd.func87 rfl rfl rfl rfl ?_
 rw [Tryd.ntmps87]
 refine tri_sr ?_
 refine s_box rfl rfl rfl rfl rfl rfl rfl ?_
 refine s_mv (.inr rfl) (v := .sc (.bool false)) rfl rfl rfl rfl ?_
 refine rt_nil ?_
 refine tri_seq ?_
 refine tri_cutI (ι := { p : Bool // s_RecordOk_j0 p0 p = some r0 }) (fun p => inv_s_RecordOk_0 p0 p.1) ?_ ?_
 ·skip
  refine tri_region ?_
  refine s_fieldAddr rfl rfl fd60_0 rfl rfl rfl rfl ?_
  refine s_load rfl rfl rfl rfl ty9 rfl (.inr rfl) (by conv => lhs; whnf) rfl rfl rfl ?_
  refine bnd1_elim h fun x1 q2 h => ?_
  refine s_callN (kb := []) (ns := []) (v := .sc (.bool x1)) rfl rfl cl44 (ws_NameOk p0.name x1 q2) rfl (.cons (.free rfl) .nil) trivial memNil .nil memNil rfl trivial memNil rfl rfl rfl rfl rfl rfl ?_
  refine s_of (st_not rfl rfl) rfl rfl rfl rfl ?_
  refine m1 ?_
  refine s_split (t := 7) rfl (fun b3 => ?_) (fun b3 => ?_)
  ·replace h := cond_t h b3
   refine s_skip rfl rfl rfl ?_
   refine s_skip rfl rfl rfl ?_
   refine s_skip rfl rfl rfl ?_
   refine s_skip rfl rfl rfl ?_
   refine s_pickT rfl rfl (v := .sc (.bool true)) rfl rfl rfl rfl ?_
   refine rt_nil ?_
   refine Exists.intro ⟨true, h⟩ ?_
   refine entX [((1, 0), ⟨60, 6, [[.sc (.string p0.name), .sc (.int .i64 p0.ty), .sc (.int .i64 p0.ttl), .sc (.int .i64 p0.n), .sc (.string p0.host), .sc (.string p0.text)]], false, true⟩, some (1, 0))] [] ⟨⟨rfl, _, rfl, rfl, rfl, rfl, id, rowsCv_one (.cons (.free rfl) (.cons (.free rfl) (.cons (.free rfl) (.cons (.free rfl) (.cons (.free rfl) (.cons (.free rfl) .nil)))))), rowsZ_one rfl⟩, trivial⟩ trivial rfl rfl ?_
   exact ⟨(.ptr rfl), (.free rfl), trivial⟩
  ·replace h := cond_f h b3
   refine s_fieldAddr rfl rfl fd60_2 rfl rfl rfl rfl ?_
   refine s_load rfl rfl rfl rfl ty3 rfl (.inr rfl) (by conv => lhs; whnf) rfl rfl rfl ?_
   refine bnd1_elim h fun x4 q5 h => ?_
   refine s_callN (kb := []) (ns := []) (v := .sc (.bool x4)) rfl rfl cl41 (ws_l1In p0.ttl 0 100000 x4 q5) rfl (.cons (.free rfl) (.cons (.free rfl) (.cons (.free rfl) .nil))) trivial memNil .nil memNil rfl trivial memNil rfl rfl rfl rfl rfl rfl ?_
   refine s_of (st_not rfl rfl) rfl rfl rfl rfl ?_
   refine s_pickF rfl rfl (by conv => lhs; whnf) rfl rfl rfl ?_
   refine rt_nil ?_
   refine Exists.intro ⟨!x4, h⟩ ?_
   refine entX [((1, 0), ⟨60, 6, [[.sc (.string p0.name), .sc (.int .i64 p0.ty), .sc (.int .i64 p0.ttl), .sc (.int .i64 p0.n), .sc (.string p0.host), .sc (.string p0.text)]], false, true⟩, some (1, 0))] [] ⟨⟨rfl, _, rfl, rfl, rfl, rfl, id, rowsCv_one (.cons (.free rfl) (.cons (.free rfl) (.cons (.free rfl) (.cons (.free rfl) (.cons (.free rfl) (.cons (.free rfl) .nil)))))), rowsZ_one rfl⟩, trivial⟩ trivial rfl rfl ?_
   exact ⟨(.ptr rfl), (.free rfl), trivial⟩
 ·rintro ⟨j0_0, h⟩
  replace h : s_RecordOk_j0 p0 j0_0 = some r0 := h
  unfold s_RecordOk_j0 at h
  show Tri _ _ _ (inv_s_RecordOk_0 p0 j0_0)
  refine tri_cond rfl (fun c1 => ?_) (fun c1 => ?_)
  ·replace h := cond_t h c1
   refine tri_sr ?_
   refine s_mv (.inr rfl) (v := .sc (.bool false)) rfl rfl rfl rfl ?_
   refine rt_nil ?_
   refine tri_ret ?_
   have e0 := (some1 h); subst e0
   exact endY [] [] (rvC (resTmp rfl) rvN) trivial trivial rfl rfl rfl rfl (.free rfl)
  ·replace h := cond_f h c1
   refine tri_skip ?_
   refine tri_seq ?_
   refine tri_sr ?_
   refine s_fieldAddr rfl rfl fd60_1 rfl rfl rfl rfl ?_
   refine s_load rfl rfl rfl rfl ty3 rfl (.inr rfl) (by conv => lhs; whnf) rfl rfl rfl ?_
   refine rt_nil ?_
   refine tri_block ?_
   refine tri_sr ?_
   refine s_of (st_eqI rfl rfl rfl) rfl rfl rfl rfl ?_
   refine m2 ?_
   refine rt_nil ?_
   refine tri_cond rfl (fun c2 => ?_) (fun c2 => ?_)
   ·replace h := cond_t h c2
    refine tri_sr ?_
    refine s_fieldAddr rfl rfl fd60_3 rfl rfl rfl rfl ?_
    refine s_load rfl rfl rfl rfl ty3 rfl (.inr rfl) (by conv => lhs; whnf) rfl rfl rfl ?_
    refine bnd1_elim h fun x3 q4 h => ?_
    refine s_callN (kb := []) (ns := []) (v := .sc (.bool x3)) rfl rfl cl41 (ws_l1In p0.n 0 2147483647 x3 q4) rfl (.cons (.free rfl) (.cons (.free rfl) (.cons (.free rfl) .nil))) trivial memNil .nil memNil rfl trivial memNil rfl rfl rfl rfl rfl rfl ?_
    refine m1 ?_
    refine s_split (t := 20) rfl (fun b5 => ?_) (fun b5 => ?_)
    ·replace h := cond_t h b5
     refine s_fieldAddr rfl rfl fd60_4 rfl rfl rfl rfl ?_
     refine s_load rfl rfl rfl rfl ty9 rfl (.inr rfl) (by conv => lhs; whnf) rfl rfl rfl ?_
     refine s_of (st_eqS rfl rfl rfl) rfl rfl rfl rfl ?_
     refine s_pickT rfl rfl (by conv => lhs; whnf) rfl rfl rfl ?_
     refine m1 ?_
     refine s_split (t := 25) rfl (fun b6 => ?_) (fun b6 => ?_)
     ·replace h := cond_t h b6
      refine s_fieldAddr rfl rfl fd60_5 rfl rfl rfl rfl ?_
      refine s_load rfl rfl rfl rfl ty9 rfl (.inr rfl) (by conv => lhs; whnf) rfl rfl rfl ?_
      refine s_of (st_eqS rfl rfl rfl) rfl rfl rfl rfl ?_
      refine s_pickT rfl rfl (by conv => lhs; whnf) rfl rfl rfl ?_
      refine m2 ?_
      refine rt_nil ?_
      refine tri_ret ?_
      have e0 := (some1 h); subst e0
      exact endY [] [] (rvC (resTmp rfl) rvN) trivial trivial rfl rfl rfl rfl (.free rfl)
     ·replace h := cond_f h b6
      refine s_skip rfl rfl rfl ?_
      refine s_skip rfl rfl rfl ?_
      refine s_skip rfl rfl rfl ?_
      refine s_pickF rfl rfl (v := .sc (.bool false)) rfl rfl rfl rfl ?_
      refine m2 ?_
      refine rt_nil ?_
      refine tri_ret ?_
      have e0 := (some1 h); subst e0
      exact endY [] [] (rvC (resTmp rfl) rvN) trivial trivial rfl rfl rfl rfl (.free rfl)
    ·replace h := cond_f h b5
     refine s_skip rfl rfl rfl ?_
     refine s_skip rfl rfl rfl ?_
     refine s_skip rfl rfl rfl ?_
     refine s_pickF rfl rfl (v := .sc (.bool false)) rfl rfl rfl rfl ?_
     refine m1 ?_
     refine s_skip rfl rfl rfl ?_
     refine s_skip rfl rfl rfl ?_
     refine s_skip rfl rfl rfl ?_
     refine s_pickF rfl rfl (v := .sc (.bool false)) rfl rfl rfl rfl ?_
     refine m2 ?_
     refine rt_nil ?_
     refine tri_ret ?_
     have e0 := (some1 h); subst e0
     exact endY [] [] (rvC (resTmp rfl) rvN) trivial trivial rfl rfl rfl rfl (.free rfl)
   ·replace h := cond_f h c2
    refine tri_cutI (ι := { p : Bool // s_RecordOk_j1 p0 p = some r0 }) (fun p => inv_s_RecordOk_1 p0 p.1) ?_ ?_
    ·skip
     refine tri_sr ?_
     refine s_of (st_eqI rfl rfl rfl) rfl rfl rfl rfl ?_
     refine m2 ?_
     refine rt_nil ?_
     refine tri_cond rfl (fun c7 => ?_) (fun c7 => ?_)
     ·replace h := cond_t h c7
      refine tri_skip ?_
      refine Exists.intro ⟨decide (p0.ty = 2), h⟩ ?_
      refine entX [((1, 0), ⟨60, 6, [[.sc (.string p0.name), .sc (.int .i64 p0.ty), .sc (.int .i64 p0.ttl), .sc (.int .i64 p0.n), .sc (.string p0.host), .sc (.string p0.text)]], false, true⟩, some (1, 0))] [] ⟨⟨rfl, _, rfl, rfl, rfl, rfl, id, rowsCv_one (.cons (.free rfl) (.cons (.free rfl) (.cons (.free rfl) (.cons (.free rfl) (.cons (.free rfl) (.cons (.free rfl) .nil)))))), rowsZ_one rfl⟩, trivial⟩ trivial rfl rfl ?_
      exact ⟨(.ptr rfl), (.free rfl), (.free rfl), trivial⟩
     ·replace h := cond_f h c7
      refine tri_region ?_
      refine s_of (st_eqI rfl rfl rfl) rfl rfl rfl rfl ?_
      refine m2 ?_
      refine rt_nil ?_
      refine Exists.intro ⟨decide (p0.ty = 5), h⟩ ?_
      refine entX [((1, 0), ⟨60, 6, [[.sc (.string p0.name), .sc (.int .i64 p0.ty), .sc (.int .i64 p0.ttl), .sc (.int .i64 p0.n), .sc (.string p0.host), .sc (.string p0.text)]], false, true⟩, some (1, 0))] [] ⟨⟨rfl, _, rfl, rfl, rfl, rfl, id, rowsCv_one (.cons (.free rfl) (.cons (.free rfl) (.cons (.free rfl) (.cons (.free rfl) (.cons (.free rfl) (.cons (.free rfl) .nil)))))), rowsZ_one rfl⟩, trivial⟩ trivial rfl rfl ?_
      exact ⟨(.ptr rfl), (.free rfl), (.free rfl), trivial⟩
    ·rintro ⟨j1_0, h⟩
     replace h : s_RecordOk_j1 p0 j1_0 = some r0 := h
     unfold s_RecordOk_j1 at h
     show Tri _ _ _ (inv_s_RecordOk_1 p0 j1_0)
     refine tri_cond rfl (fun c7 => ?_) (fun c7 => ?_)
     ·replace h := cond_t h c7
      refine tri_sr ?_
      refine s_fieldAddr rfl rfl fd60_3 rfl rfl rfl rfl ?_
      refine s_load rfl rfl rfl rfl ty3 rfl (.inr rfl) (by conv => lhs; whnf) rfl rfl rfl ?_
      refine s_of (st_eqI rfl rfl rfl) rfl rfl rfl rfl ?_
      refine m1 ?_
      refine s_split (t := 36) rfl (fun b8 => ?_) (fun b8 => ?_)
      ·replace h := cond_t h b8
       refine s_fieldAddr rfl rfl fd60_4 rfl rfl rfl rfl ?_
       refine s_load rfl rfl rfl rfl ty9 rfl (.inr rfl) (by conv => lhs; whnf) rfl rfl rfl ?_
       refine bnd1_elim h fun x9 q10 h => ?_
       refine s_callN (kb := []) (ns := []) (v := .sc (.bool x9)) rfl rfl cl44 (ws_NameOk p0.host x9 q10) rfl (.cons (.free rfl) .nil) trivial memNil .nil memNil rfl trivial memNil rfl rfl rfl rfl rfl rfl ?_
       refine s_pickT rfl rfl (by conv => lhs; whnf) rfl rfl rfl ?_
       refine m1 ?_
       refine s_split (t := 41) rfl (fun b11 => ?_) (fun b11 => ?_)
       ·replace h := cond_t h b11
        refine s_fieldAddr rfl rfl fd60_5 rfl rfl rfl rfl ?_
        refine s_load rfl rfl rfl rfl ty9 rfl (.inr rfl) (by conv => lhs; whnf) rfl rfl rfl ?_
        refine s_of (st_eqS rfl rfl rfl) rfl rfl rfl rfl ?_
        refine s_pickT rfl rfl (by conv => lhs; whnf) rfl rfl rfl ?_
        refine m2 ?_
        refine rt_nil ?_
        refine tri_ret ?_
        have e0 := (some1 h); subst e0
        exact endY [] [] (rvC (resTmp rfl) rvN) trivial trivial rfl rfl rfl rfl (.free rfl)
       ·replace h := cond_f h b11
        refine s_skip rfl rfl rfl ?_
        refine s_skip rfl rfl rfl ?_
        refine s_skip rfl rfl rfl ?_
        refine s_pickF rfl rfl (v := .sc (.bool false)) rfl rfl rfl rfl ?_
        refine m2 ?_
        refine rt_nil ?_
        refine tri_ret ?_
        have e0 := (some1 h); subst e0
        exact endY [] [] (rvC (resTmp rfl) rvN) trivial trivial rfl rfl rfl rfl (.free rfl)
      ·replace h := cond_f h b8
       refine s_skip rfl rfl rfl ?_
       refine s_skip rfl rfl rfl ?_
       refine s_skip rfl rfl rfl ?_
       refine s_pickF rfl rfl (v := .sc (.bool false)) rfl rfl rfl rfl ?_
       refine m1 ?_
       refine s_skip rfl rfl rfl ?_
       refine s_skip rfl rfl rfl ?_
       refine s_skip rfl rfl rfl ?_
       refine s_pickF rfl rfl (v := .sc (.bool false)) rfl rfl rfl rfl ?_
       refine m2 ?_
       refine rt_nil ?_
       refine tri_ret ?_
       have e0 := (some1 h); subst e0
       exact endY [] [] (rvC (resTmp rfl) rvN) trivial trivial rfl rfl rfl rfl (.free rfl)
     ·replace h := cond_f h c7
      refine tri_sr ?_
      refine s_of (st_eqI rfl rfl rfl) rfl rfl rfl rfl ?_
      refine m2 ?_
      refine rt_nil ?_
      refine tri_cond rfl (fun c12 => ?_) (fun c12 => ?_)
      ·replace h := cond_t h c12
       refine tri_sr ?_
       refine s_fieldAddr rfl rfl fd60_3 rfl rfl rfl rfl ?_
       refine s_load rfl rfl rfl rfl ty3 rfl (.inr rfl) (by conv => lhs; whnf) rfl rfl rfl ?_
       refine bnd1_elim h fun x13 q14 h => ?_
       refine s_callN (kb := []) (ns := []) (v := .sc (.bool x13)) rfl rfl cl41 (ws_l1In p0.n 0 100000 x13 q14) rfl (.cons (.free rfl) (.cons (.free rfl) (.cons (.free rfl) .nil))) trivial memNil .nil memNil rfl trivial memNil rfl rfl rfl rfl rfl rfl ?_
       refine m1 ?_
       refine s_split (t := 51) rfl (fun b15 => ?_) (fun b15 => ?_)
       ·replace h := cond_t h b15
        refine s_fieldAddr rfl rfl fd60_4 rfl rfl rfl rfl ?_
        refine s_load rfl rfl rfl rfl ty9 rfl (.inr rfl) (by conv => lhs; whnf) rfl rfl rfl ?_
        refine bnd1_elim h fun x16 q17 h => ?_
        refine s_callN (kb := []) (ns := []) (v := .sc (.bool x16)) rfl rfl cl44 (ws_NameOk p0.host x16 q17) rfl (.cons (.free rfl) .nil) trivial memNil .nil memNil rfl trivial memNil rfl rfl rfl rfl rfl rfl ?_
        refine s_pickT rfl rfl (by conv => lhs; whnf) rfl rfl rfl ?_
        refine m1 ?_
        refine s_split (t := 56) rfl (fun b18 => ?_) (fun b18 => ?_)
        ·replace h := cond_t h b18
         refine s_fieldAddr rfl rfl fd60_5 rfl rfl rfl rfl ?_
         refine s_load rfl rfl rfl rfl ty9 rfl (.inr rfl) (by conv => lhs; whnf) rfl rfl rfl ?_
         refine s_of (st_eqS rfl rfl rfl) rfl rfl rfl rfl ?_
         refine s_pickT rfl rfl (by conv => lhs; whnf) rfl rfl rfl ?_
         refine m2 ?_
         refine rt_nil ?_
         refine tri_ret ?_
         have e0 := (some1 h); subst e0
         exact endY [] [] (rvC (resTmp rfl) rvN) trivial trivial rfl rfl rfl rfl (.free rfl)
        ·replace h := cond_f h b18
         refine s_skip rfl rfl rfl ?_
         refine s_skip rfl rfl rfl ?_
         refine s_skip rfl rfl rfl ?_
         refine s_pickF rfl rfl (v := .sc (.bool false)) rfl rfl rfl rfl ?_
         refine m2 ?_
         refine rt_nil ?_
         refine tri_ret ?_
         have e0 := (some1 h); subst e0
         exact endY [] [] (rvC (resTmp rfl) rvN) trivial trivial rfl rfl rfl rfl (.free rfl)
       ·replace h := cond_f h b15
        refine s_skip rfl rfl rfl ?_
        refine s_skip rfl rfl rfl ?_
        refine s_skip rfl rfl rfl ?_
        refine s_pickF rfl rfl (v := .sc (.bool false)) rfl rfl rfl rfl ?_
        refine m1 ?_
        refine s_skip rfl rfl rfl ?_
        refine s_skip rfl rfl rfl ?_
        refine s_skip rfl rfl rfl ?_
        refine s_pickF rfl rfl (v := .sc (.bool false)) rfl rfl rfl rfl ?_
        refine m2 ?_
        refine rt_nil ?_
        refine tri_ret ?_
        have e0 := (some1 h); subst e0
        exact endY [] [] (rvC (resTmp rfl) rvN) trivial trivial rfl rfl rfl rfl (.free rfl)
      ·replace h := cond_f h c12
       refine tri_skip ?_
       refine tri_sr ?_
       refine s_fieldAddr rfl rfl fd60_1 rfl rfl rfl rfl ?_
       refine s_load rfl rfl rfl rfl ty3 rfl (.inr rfl) (by conv => lhs; whnf) rfl rfl rfl ?_
       refine s_of (st_eqI rfl rfl rfl) rfl rfl rfl rfl ?_
       refine m1 ?_
       refine s_split (t := 64) rfl (fun b19 => ?_) (fun b19 => ?_)
       ·replace h := cond_t h b19
        refine s_fieldAddr rfl rfl fd60_3 rfl rfl rfl rfl ?_
        refine s_load rfl rfl rfl rfl ty3 rfl (.inr rfl) (by conv => lhs; whnf) rfl rfl rfl ?_
        refine s_of (st_eqI rfl rfl rfl) rfl rfl rfl rfl ?_
        refine s_pickT rfl rfl (by conv => lhs; whnf) rfl rfl rfl ?_
        refine m1 ?_
        refine s_split (t := 69) rfl (fun b20 => ?_) (fun b20 => ?_)
        ·replace h := cond_t h b20
         refine s_fieldAddr rfl rfl fd60_4 rfl rfl rfl rfl ?_
         refine s_load rfl rfl rfl rfl ty9 rfl (.inr rfl) (by conv => lhs; whnf) rfl rfl rfl ?_
         refine s_of (st_eqS rfl rfl rfl) rfl rfl rfl rfl ?_
         refine s_pickT rfl rfl (by conv => lhs; whnf) rfl rfl rfl ?_
         refine m1 ?_
         refine s_split (t := 74) rfl (fun b21 => ?_) (fun b21 => ?_)
         ·replace h := cond_t h b21
          refine s_fieldAddr rfl rfl fd60_5 rfl rfl rfl rfl ?_
          refine s_load rfl rfl rfl rfl ty9 rfl (.inr rfl) (by conv => lhs; whnf) rfl rfl rfl ?_
          refine bnd1_elim h fun x22 q23 h => ?_
          refine s_callN (kb := []) (ns := []) (v := .sc (.bool x22)) rfl rfl cl113 (ws_l5Text p0.text x22 q23) rfl (.cons (.free rfl) .nil) trivial memNil .nil memNil rfl trivial memNil rfl rfl rfl rfl rfl rfl ?_
          refine s_pickT rfl rfl (by conv => lhs; whnf) rfl rfl rfl ?_
          refine m2 ?_
          refine rt_nil ?_
          refine tri_ret ?_
          have e0 := (some1 h); subst e0
          exact endY [] [] (rvC (resTmp rfl) rvN) trivial trivial rfl rfl rfl rfl (.free rfl)
         ·replace h := cond_f h b21
          refine s_skip rfl rfl rfl ?_
          refine s_skip rfl rfl rfl ?_
          refine s_skip rfl rfl rfl ?_
          refine s_pickF rfl rfl (v := .sc (.bool false)) rfl rfl rfl rfl ?_
          refine m2 ?_
          refine rt_nil ?_
          refine tri_ret ?_
          have e0 := (some1 h); subst e0
          exact endY [] [] (rvC (resTmp rfl) rvN) trivial trivial rfl rfl rfl rfl (.free rfl)
        ·replace h := cond_f h b20
         refine s_skip rfl rfl rfl ?_
         refine s_skip rfl rfl rfl ?_
         refine s_skip rfl rfl rfl ?_
         refine s_pickF rfl rfl (v := .sc (.bool false)) rfl rfl rfl rfl ?_
         refine m1 ?_
         refine s_skip rfl rfl rfl ?_
         refine s_skip rfl rfl rfl ?_
         refine s_skip rfl rfl rfl ?_
         refine s_pickF rfl rfl (v := .sc (.bool false)) rfl rfl rfl rfl ?_
         refine m2 ?_
         refine rt_nil ?_
         refine tri_ret ?_
         have e0 := (some1 h); subst e0
         exact endY [] [] (rvC (resTmp rfl) rvN) trivial trivial rfl rfl rfl rfl (.free rfl)
       ·replace h := cond_f h b19
        refine s_skip rfl rfl rfl ?_
        refine s_skip rfl rfl rfl ?_
        refine s_skip rfl rfl rfl ?_
        refine s_pickF rfl rfl (v := .sc (.bool false)) rfl rfl rfl rfl ?_
        refine m1 ?_
        refine s_skip rfl rfl rfl ?_
        refine s_skip rfl rfl rfl ?_
        refine s_skip rfl rfl rfl ?_
        refine s_pickF rfl rfl (v := .sc (.bool false)) rfl rfl rfl rfl ?_
        refine m1 ?_
        refine s_skip rfl rfl rfl ?_
        refine s_skip rfl rfl rfl ?_
        refine s_skip rfl rfl rfl ?_
        refine s_pickF rfl rfl (v := .sc (.bool false)) rfl rfl rfl rfl ?_
        refine m2 ?_
        refine rt_nil ?_
        refine tri_ret ?_
        have e0 := (some1 h); subst e0
        exact endY [] [] (rvC (resTmp rfl) rvN) trivial trivial rfl rfl rfl rfl (.free rfl)

/- spec.l7List -/
def inv_s_l7List_1 (p0 : List Rec) (v1_0 : Nat) : St := mkT 19 [(0, .lst 6 (List.map recV p0)), (3, .sc (.int .i64 (v1_0 : Int)))] []
def inv_s_l7List_0 (p0 : List Rec) : St := mkT 19 [(0, .lst 6 (List.map recV p0))] []
set_option maxRecDepth 4000 in
set_option maxHeartbeats 800000 in
theorem ws_l7List (p0 : List Rec) (r0 : Bool) (h : s_l7List p0 = some r0) : Runs Tryd.prog 43 [.lst 6 (List.map recV p0)] [] (.sc (.bool r0)) [] := by
 unfold s_l7List at h
 refine runsR [.tmp 2] Tryd.func43 rfl rfl rfl rfl ?_
 rw [Tryd.ntmps43]
 refine tri_sr ?_
 refine s_mv (.inr rfl) (v := .sc (.bool false)) rfl rfl rfl rfl ?_
 refine rt_nil ?_
 refine tri_cutI (ι := { p : Unit // s_l7List_j0 p0 = some r0 }) (fun p => inv_s_l7List_0 p0) ?_ ?_
 ·skip
  refine tri_sr ?_
  refine s_mv (.inr rfl) (v := .sc (.int .i64 0)) rfl rfl rfl rfl ?_
  refine rt_nil ?_
  refine tri_block ?_
  refine tri_lstM 0 rfl (fun hl1 => ?_)
  refine tri_loop (ι := { p : (List Rec) × Nat // p0.drop p.2 = p.1 ∧ s_l7List_l1 p0 p.1 p.2 = some r0 }) (fun p => inv_s_l7List_1 p0 p.1.2) (fun p => p.1.1.length) ⟨(p0, 0), rfl, h⟩ ?_ ?_
  ·skip
   refine entX [] [] trivial trivial rfl rfl ?_
   exact ⟨(.free rfl), (.free rfl), trivial⟩
  ·rintro ⟨⟨lrs1, v1_0⟩, hd1, h⟩
   replace hd1 : p0.drop v1_0 = lrs1 := hd1
   replace h : s_l7List_l1 p0 lrs1 v1_0 = some r0 := h
   show Tri _ _ _ (inv_s_l7List_1 p0 v1_0)
   refine tri_seq ?_
   refine tri_sr ?_
   refine m1 ?_
   refine m1 ?_
   refine s_lenL rfl sl30 rfl rfl rfl rfl ?_
   refine s_of (st_lss rfl rfl rfl) rfl rfl rfl rfl ?_
   refine rt_nil ?_
   refine tri_cond rfl (fun c1 => ?_) (fun c1 => ?_)
   ·refine drop_elim hd1 c1 fun e1 rs1 he hx1 hn1 => ?_
    subst he
    rw [s_l7List_l1] at h
    refine tri_skip ?_
    refine tri_seq ?_
    refine tri_block ?_
    refine tri_sr ?_
    refine m1 ?_
    refine m1 ?_
    refine s_indexF (i := v1_0) rfl rfl rfl sl30 (get_ltM hx1) rfl rfl rfl ?_
    refine s_loadFR rfl rfl (rowG hx1) ty60 rfl rfl rfl ?_
    refine bnd1_elim h fun x2 q3 h => ?_
    refine s_callN (kb := []) (ns := []) (v := .sc (.bool x2)) rfl rfl cl87 (ws_RecordOk e1 x2 q3) rfl (.cons (relAgg rfl) .nil) trivial memNil .nil memNil rfl trivial memNil rfl rfl rfl rfl rfl rfl ?_
    refine s_of (st_not rfl rfl) rfl rfl rfl rfl ?_
    refine rt_nil ?_
    refine tri_cond rfl (fun c4 => ?_) (fun c4 => ?_)
    ·replace h := cond_t h c4
     refine tri_sr ?_
     refine s_mv (.inr rfl) (v := .sc (.bool false)) rfl rfl rfl rfl ?_
     refine rt_nil ?_
     refine tri_ret ?_
     have e0 := (some1 h); subst e0
     exact endY [] [] (rvC (resTmp rfl) rvN) trivial trivial rfl rfl rfl rfl (.free rfl)
    ·replace h := cond_f h c4
     refine tri_skip ?_
     refine tri_region ?_
     refine m1 ?_
     refine s_inc (a := v1_0) (b := 1) rfl rfl rfl rfl (by have := get_lt hx1; have := hl1; omega) rfl rfl rfl ?_
     refine m2 ?_
     refine rt_nil ?_
     refine Exists.intro ⟨(rs1, (v1_0 + 1)), hn1, h⟩ (And.intro (Nat.lt_succ_self _) ?_)
     refine entX [] [] trivial trivial rfl rfl ?_
     exact ⟨(.free rfl), (.free rfl), trivial⟩
   ·have he := drop_f hd1 c1; subst he
    rw [s_l7List_l1] at h
    refine tri_exit ?_
    refine Exists.intro ⟨(), h⟩ ?_
    refine entX [] [] trivial trivial rfl rfl ?_
    exact ⟨(.free rfl), trivial⟩
 ·rintro ⟨u, h⟩
  replace h : s_l7List_j0 p0 = some r0 := h
  unfold s_l7List_j0 at h
  show Tri _ _ _ (inv_s_l7List_0 p0)
  refine tri_sr ?_
  refine m1 ?_
  refine s_lenL rfl sl30 rfl rfl rfl rfl ?_
  refine s_of (st_leq rfl rfl rfl) rfl rfl rfl rfl ?_
  refine m2 ?_
  refine rt_nil ?_
  refine tri_ret ?_
  have e0 := (some1 h); subst e0
  exact endY [] [] (rvC (resTmp rfl) rvN) trivial trivial rfl rfl rfl rfl (.free rfl)

/- spec.EntryOk -/
def inv_s_EntryOk_4 (p0 : MEntry) (v3_0 : Nat) (j4_0 : Bool) : St := mkT 92 [(1, .ptr (1, 0) 0 0), (3, .sc (.int .i64 (v3_0 : Int))), (45, .sc (.bool j4_0))] [((1, 0), some ⟨32, 6, [[.sc (.string p0.q.name), .sc (.int .i64 p0.q.ty), .sc (.int .i64 p0.kind), .lst 6 (List.map recV p0.l), .sc (.int .i64 p0.rank), .sc (.int .i64 p0.til)]], false, true⟩)]
def inv_s_EntryOk_3 (p0 : MEntry) (v3_0 : Nat) : St := mkT 92 [(1, .ptr (1, 0) 0 0), (3, .sc (.int .i64 (v3_0 : Int)))] [((1, 0), some ⟨32, 6, [[.sc (.string p0.q.name), .sc (.int .i64 p0.q.ty), .sc (.int .i64 p0.kind), .lst 6 (List.map recV p0.l), .sc (.int .i64 p0.rank), .sc (.int .i64 p0.til)]], false, true⟩)]
def inv_s_EntryOk_2 (p0 : MEntry) : St := mkT 92 [(1, .ptr (1, 0) 0 0)] [((1, 0), some ⟨32, 6, [[.sc (.string p0.q.name), .sc (.int .i64 p0.q.ty), .sc (.int .i64 p0.kind), .lst 6 (List.map recV p0.l), .sc (.int .i64 p0.rank), .sc (.int .i64 p0.til)]], false, true⟩)]
def inv_s_EntryOk_1 (p0 : MEntry) : St := mkT 92 [(1, .ptr (1, 0) 0 0)] [((1, 0), some ⟨32, 6, [[.sc (.string p0.q.name), .sc (.int .i64 p0.q.ty), .sc (.int .i64 p0.kind), .lst 6 (List.map recV p0.l), .sc (.int .i64 p0.rank), .sc (.int .i64 p0.til)]], false, true⟩)]
def inv_s_EntryOk_0 (p0 : MEntry) (j0_0 : Bool) : St := mkT 92 [(1, .ptr (1, 0) 0 0), (12, .sc (.bool j0_0))] [((1, 0), some ⟨32, 6, [[.sc (.string p0.q.name), .sc (.int .i64 p0.q.ty), .sc (.int .i64 p0.kind), .lst 6 (List.map recV p0.l), .sc (.int .i64 p0.rank), .sc (.int .i64 p0.til)]], false, true⟩)]
set_option maxRecDepth 4000 in
set_option maxHeartbeats 800000 in
theorem ws_EntryOk (p0 : MEntry) (r0 : Bool) (h : s_EntryOk p0 = some r0) : Runs Tryd.prog 10 [.agg (mEntryV p0)] [] (.sc (.bool r0)) [] := by
 unfold s_EntryOk at h
 refine runsR [.tmp 2] Tryd.func10 rfl rfl rfl rfl ?_
 rw [Tryd.ntmps10]
 refine tri_sr ?_
 refine s_box rfl rfl rfl rfl rfl rfl rfl ?_
 refine s_mv (.inr rfl) (v := .sc (.bool false)) rfl rfl rfl rfl ?_
 refine rt_nil ?_
 refine tri_seq ?_
 refine tri_cutI (ι := { p : Bool // s_EntryOk_j0 p0 p = some r0 }) (fun p => inv_s_EntryOk_0 p0 p.1) ?_ ?_
 ·skip
  refine tri_region ?_
  refine s_fieldAddr rfl rfl fd32_3 rfl rfl rfl rfl ?_
  refine s_load rfl rfl rfl rfl ty3 rfl (.inr rfl) (by conv => lhs; whnf) rfl rfl rfl ?_
  refine bnd1_elim h fun x1 q2 h => ?_
  refine s_callN (kb := []) (ns := []) (v := .sc (.bool x1)) rfl rfl cl41 (ws_l1In p0.rank 1 3 x1 q2) rfl (.cons (.free rfl) (.cons (.free rfl) (.cons (.free rfl) .nil))) trivial memNil .nil memNil rfl trivial memNil rfl rfl rfl rfl rfl rfl ?_
  refine s_of (st_not rfl rfl) rfl rfl rfl rfl ?_
  refine m1 ?_
  refine s_split (t := 8) rfl (fun b3 => ?_) (fun b3 => ?_)
  ·replace h := cond_t h b3
   refine s_skip rfl rfl rfl ?_
   refine s_skip rfl rfl rfl ?_
   refine s_skip rfl rfl rfl ?_
   refine s_pickT rfl rfl (v := .sc (.bool true)) rfl rfl rfl rfl ?_
   refine rt_nil ?_
   refine Exists.intro ⟨true, h⟩ ?_
   refine entX [((1, 0), ⟨32, 6, [[.sc (.string p0.q.name), .sc (.int .i64 p0.q.ty), .sc (.int .i64 p0.kind), .lst 6 (List.map recV p0.l), .sc (.int .i64 p0.rank), .sc (.int .i64 p0.til)]], false, true⟩, some (1, 0))] [] ⟨⟨rfl, _, rfl, rfl, rfl, rfl, id, rowsCv_one (.cons (.free rfl) (.cons (.free rfl) (.cons (.free rfl) (.cons (.free rfl) (.cons (.free rfl) (.cons (.free rfl) .nil)))))), rowsZ_one rfl⟩, trivial⟩ trivial rfl rfl ?_
   exact ⟨(.ptr rfl), (.free rfl), trivial⟩
  ·replace h := cond_f h b3
   refine s_fieldAddr rfl rfl fd32_4 rfl rfl rfl rfl ?_
   refine s_load rfl rfl rfl rfl ty3 rfl (.inr rfl) (by conv => lhs; whnf) rfl rfl rfl ?_
   refine s_of (st_lss rfl rfl rfl) rfl rfl rfl rfl ?_
   refine s_pickF rfl rfl (by conv => lhs; whnf) rfl rfl rfl ?_
   refine rt_nil ?_
   refine Exists.intro ⟨decide (p0.til < 0), h⟩ ?_
   refine entX [((1, 0), ⟨32, 6, [[.sc (.string p0.q.name), .sc (.int .i64 p0.q.ty), .sc (.int .i64 p0.kind), .lst 6 (List.map recV p0.l), .sc (.int .i64 p0.rank), .sc (.int .i64 p0.til)]], false, true⟩, some (1, 0))] [] ⟨⟨rfl, _, rfl, rfl, rfl, rfl, id, rowsCv_one (.cons (.free rfl) (.cons (.free rfl) (.cons (.free rfl) (.cons (.free rfl) (.cons (.free rfl) (.cons (.free rfl) .nil)))))), rowsZ_one rfl⟩, trivial⟩ trivial rfl rfl ?_
   exact ⟨(.ptr rfl), (.free rfl), trivial⟩
 ·rintro ⟨j0_0, h⟩
  replace h : s_EntryOk_j0 p0 j0_0 = some r0 := h
  unfold s_EntryOk_j0 at h
  show Tri _ _ _ (inv_s_EntryOk_0 p0 j0_0)
  refine tri_cond rfl (fun c1 => ?_) (fun c1 => ?_)
  ·replace h := cond_t h c1
   refine tri_sr ?_
   refine s_mv (.inr rfl) (v := .sc (.bool false)) rfl rfl rfl rfl ?_
   refine rt_nil ?_
   refine tri_ret ?_
   have e0 := (some1 h); subst e0
   exact endY [] [] (rvC (resTmp rfl) rvN) trivial trivial rfl rfl rfl rfl (.free rfl)
  ·replace h := cond_f h c1
   refine tri_skip ?_
   refine tri_cutI (ι := { p : Unit // s_EntryOk_j1 p0 = some r0 }) (fun p => inv_s_EntryOk_1 p0) ?_ ?_
   ·skip
    refine tri_sr ?_
    refine s_fieldAddr rfl rfl fd32_1 rfl rfl rfl rfl ?_
    refine s_load rfl rfl rfl rfl ty3 rfl (.inr rfl) (by conv => lhs; whnf) rfl rfl rfl ?_
    refine rt_nil ?_
    refine tri_block ?_
    refine tri_sr ?_
    refine s_of (st_eqI rfl rfl rfl) rfl rfl rfl rfl ?_
    refine m2 ?_
    refine rt_nil ?_
    refine tri_cond rfl (fun c2 => ?_) (fun c2 => ?_)
    ·replace h := cond_t h c2
     refine tri_cutI (ι := { p : Unit // s_EntryOk_j2 p0 = some r0 }) (fun p => inv_s_EntryOk_2 p0) ?_ ?_
     ·skip
      refine tri_sr ?_
      refine s_mv (.inr rfl) (v := .sc (.int .i64 0)) rfl rfl rfl rfl ?_
      refine rt_nil ?_
      refine tri_block ?_
      refine tri_boxM (1, 0) 3 rfl rfl (fun hl3 => ?_)
      refine tri_loop (ι := { p : (List Rec) × Nat // p0.l.drop p.2 = p.1 ∧ s_EntryOk_l3 p0 p.1 p.2 = some r0 }) (fun p => inv_s_EntryOk_3 p0 p.1.2) (fun p => p.1.1.length) ⟨(p0.l, 0), rfl, h⟩ ?_ ?_
      ·skip
       refine entX [((1, 0), ⟨32, 6, [[.sc (.string p0.q.name), .sc (.int .i64 p0.q.ty), .sc (.int .i64 p0.kind), .lst 6 (List.map recV p0.l), .sc (.int .i64 p0.rank), .sc (.int .i64 p0.til)]], false, true⟩, some (1, 0))] [] ⟨⟨rfl, _, rfl, rfl, rfl, rfl, id, rowsCv_one (.cons (.free rfl) (.cons (.free rfl) (.cons (.free rfl) (.cons (.free rfl) (.cons (.free rfl) (.cons (.free rfl) .nil)))))), rowsZ_one rfl⟩, trivial⟩ trivial rfl rfl ?_
       exact ⟨(.ptr rfl), (.free rfl), trivial⟩
      ·rintro ⟨⟨lrs3, v3_0⟩, hd3, h⟩
       replace hd3 : p0.l.drop v3_0 = lrs3 := hd3
       replace h : s_EntryOk_l3 p0 lrs3 v3_0 = some r0 := h
       show Tri _ _ _ (inv_s_EntryOk_3 p0 v3_0)
       refine tri_seq ?_
       refine tri_sr ?_
       refine m1 ?_
       refine s_fieldAddr rfl rfl fd32_2 rfl rfl rfl rfl ?_
       refine s_load rfl rfl rfl rfl ty30 rfl (.inr rfl) (by conv => lhs; whnf) rfl rfl rfl ?_
       refine s_lenL rfl sl30 rfl rfl rfl rfl ?_
       refine s_of (st_lss rfl rfl rfl) rfl rfl rfl rfl ?_
       refine rt_nil ?_
       refine tri_cond rfl (fun c3 => ?_) (fun c3 => ?_)
       ·refine drop_elim hd3 c3 fun e3 rs3 he hx3 hn3 => ?_
        subst he
        rw [s_EntryOk_l3] at h
        refine tri_skip ?_
        refine tri_seq ?_
        refine tri_block ?_
        refine tri_cutI (ι := { p : Bool // s_EntryOk_j4 v3_0 (s_EntryOk_l3 p0 rs3) p = some r0 }) (fun p => inv_s_EntryOk_4 p0 v3_0 p.1) ?_ ?_
        ·skip
         refine tri_draw mixed ?_
         refine s_fieldAddr rfl rfl fd32_2 rfl rfl rfl rfl ?_
         refine s_load rfl rfl rfl rfl ty30 rfl (.inr rfl) (by conv => lhs; whnf) rfl rfl rfl ?_
         refine m1 ?_
         refine s_indexF (i := v3_0) rfl rfl rfl sl30 (get_ltM hx3) rfl rfl rfl ?_
         refine s_fieldAddrF rfl rfl fd60_0 rfl rfl rfl rfl ?_
         refine s_loadF rfl rfl (rowG hx3) ty9 rfl (.inr rfl) (by conv => lhs; whnf) rfl rfl rfl ?_
         refine s_fieldAddr rfl rfl fd32_0 rfl rfl rfl rfl ?_
         refine s_fieldAddr rfl rfl fd29_0 rfl rfl rfl rfl ?_
         refine s_load rfl rfl rfl rfl ty9 rfl (.inr rfl) (by conv => lhs; whnf) rfl rfl rfl ?_
         refine s_of (st_neS rfl rfl rfl) rfl rfl rfl rfl ?_
         refine m1 ?_
         refine s_split (t := 34) rfl (fun b4 => ?_) (fun b4 => ?_)
         ·replace h := cond_t h b4
          refine s_skip rfl rfl rfl ?_
          refine s_skip rfl rfl rfl ?_
          refine s_skip rfl rfl rfl ?_
          refine s_skip rfl rfl rfl ?_
          refine s_skip rfl rfl rfl ?_
          refine s_skip rfl rfl rfl ?_
          refine s_skip rfl rfl rfl ?_
          refine s_skip rfl rfl rfl ?_
          refine s_skip rfl rfl rfl ?_
          refine s_skip rfl rfl rfl ?_
          refine s_pickT rfl rfl (v := .sc (.bool true)) rfl rfl rfl rfl ?_
          refine rt_nil ⟨by kernel_rfl, ?_⟩
          refine Exists.intro ⟨true, h⟩ ?_
          refine entX [((1, 0), ⟨32, 6, [[.sc (.string p0.q.name), .sc (.int .i64 p0.q.ty), .sc (.int .i64 p0.kind), .lst 6 (List.map recV p0.l), .sc (.int .i64 p0.rank), .sc (.int .i64 p0.til)]], false, true⟩, some (1, 0))] [] ⟨⟨rfl, _, rfl, rfl, rfl, rfl, id, rowsCv_one (.cons (.free rfl) (.cons (.free rfl) (.cons (.free rfl) (.cons (.free rfl) (.cons (.free rfl) (.cons (.free rfl) .nil)))))), rowsZ_one rfl⟩, trivial⟩ trivial rfl rfl ?_
          exact ⟨(.ptr rfl), (.free rfl), (.free rfl), trivial⟩
         ·replace h := cond_f h b4
          refine s_fieldAddr rfl rfl fd32_2 rfl rfl rfl rfl ?_
          refine s_load rfl rfl rfl rfl ty30 rfl (.inr rfl) (by conv => lhs; whnf) rfl rfl rfl ?_
          refine m1 ?_
          refine s_indexF (i := v3_0) rfl rfl rfl sl30 (get_ltM hx3) rfl rfl rfl ?_
          refine s_fieldAddrF rfl rfl fd60_1 rfl rfl rfl rfl ?_
          refine s_loadF rfl rfl (rowG hx3) ty3 rfl (.inr rfl) (by conv => lhs; whnf) rfl rfl rfl ?_
          refine s_fieldAddr rfl rfl fd32_0 rfl rfl rfl rfl ?_
          refine s_fieldAddr rfl rfl fd29_1 rfl rfl rfl rfl ?_
          refine s_load rfl rfl rfl rfl ty3 rfl (.inr rfl) (by conv => lhs; whnf) rfl rfl rfl ?_
          refine s_of (st_neI rfl rfl rfl) rfl rfl rfl rfl ?_
          refine s_pickF rfl rfl (by conv => lhs; whnf) rfl rfl rfl ?_
          refine rt_nil ⟨by kernel_rfl, ?_⟩
          refine Exists.intro ⟨!decide (e3.ty = p0.q.ty), h⟩ ?_
          refine entX [((1, 0), ⟨32, 6, [[.sc (.string p0.q.name), .sc (.int .i64 p0.q.ty), .sc (.int .i64 p0.kind), .lst 6 (List.map recV p0.l), .sc (.int .i64 p0.rank), .sc (.int .i64 p0.til)]], false, true⟩, some (1, 0))] [] ⟨⟨rfl, _, rfl, rfl, rfl, rfl, id, rowsCv_one (.cons (.free rfl) (.cons (.free rfl) (.cons (.free rfl) (.cons (.free rfl) (.cons (.free rfl) (.cons (.free rfl) .nil)))))), rowsZ_one rfl⟩, trivial⟩ trivial rfl rfl ?_
          exact ⟨(.ptr rfl), (.free rfl), (.free rfl), trivial⟩
        ·rintro ⟨j4_0, h⟩
         replace h : s_EntryOk_j4 v3_0 (s_EntryOk_l3 p0 rs3) j4_0 = some r0 := h
         unfold s_EntryOk_j4 at h
         show Tri _ _ _ (inv_s_EntryOk_4 p0 v3_0 j4_0)
         refine tri_cond rfl (fun c4 => ?_) (fun c4 => ?_)
         ·replace h := cond_t h c4
          refine tri_sr ?_
          refine s_mv (.inr rfl) (v := .sc (.bool false)) rfl rfl rfl rfl ?_
          refine rt_nil ?_
          refine tri_ret ?_
          have e0 := (some1 h); subst e0
          exact endY [] [] (rvC (resTmp rfl) rvN) trivial trivial rfl rfl rfl rfl (.free rfl)
         ·replace h := cond_f h c4
          refine tri_skip ?_
          refine tri_region ?_
          refine m1 ?_
          refine s_inc (a := v3_0) (b := 1) rfl rfl rfl rfl (by have := get_lt hx3; have := hl3; omega) rfl rfl rfl ?_
          refine m2 ?_
          refine rt_nil ?_
          refine Exists.intro ⟨(rs3, (v3_0 + 1)), hn3, h⟩ (And.intro (Nat.lt_succ_self _) ?_)
          refine entX [((1, 0), ⟨32, 6, [[.sc (.string p0.q.name), .sc (.int .i64 p0.q.ty), .sc (.int .i64 p0.kind), .lst 6 (List.map recV p0.l), .sc (.int .i64 p0.rank), .sc (.int .i64 p0.til)]], false, true⟩, some (1, 0))] [] ⟨⟨rfl, _, rfl, rfl, rfl, rfl, id, rowsCv_one (.cons (.free rfl) (.cons (.free rfl) (.cons (.free rfl) (.cons (.free rfl) (.cons (.free rfl) (.cons (.free rfl) .nil)))))), rowsZ_one rfl⟩, trivial⟩ trivial rfl rfl ?_
          exact ⟨(.ptr rfl), (.free rfl), trivial⟩
       ·have he := drop_f hd3 c3; subst he
        rw [s_EntryOk_l3] at h
        refine tri_exit ?_
        refine Exists.intro ⟨(), h⟩ ?_
        refine entX [((1, 0), ⟨32, 6, [[.sc (.string p0.q.name), .sc (.int .i64 p0.q.ty), .sc (.int .i64 p0.kind), .lst 6 (List.map recV p0.l), .sc (.int .i64 p0.rank), .sc (.int .i64 p0.til)]], false, true⟩, some (1, 0))] [] ⟨⟨rfl, _, rfl, rfl, rfl, rfl, id, rowsCv_one (.cons (.free rfl) (.cons (.free rfl) (.cons (.free rfl) (.cons (.free rfl) (.cons (.free rfl) (.cons (.free rfl) .nil)))))), rowsZ_one rfl⟩, trivial⟩ trivial rfl rfl ?_
        exact ⟨(.ptr rfl), trivial⟩
     ·rintro ⟨u, h⟩
      replace h : s_EntryOk_j2 p0 = some r0 := h
      unfold s_EntryOk_j2 at h
      show Tri _ _ _ (inv_s_EntryOk_2 p0)
      refine tri_sr ?_
      refine s_fieldAddr rfl rfl fd32_0 rfl rfl rfl rfl ?_
      refine s_load (v := .agg (questV p0.q)) rfl rfl rfl rfl ty29 rfl (.inl rfl) rfl rfl rfl rfl ?_
      refine bnd1_elim h fun x3 q4 h => ?_
      refine s_callN (kb := []) (ns := []) (v := .sc (.bool x3)) rfl rfl cl42 (ws_QuestOk p0.q x3 q4) rfl (.cons (relAgg rfl) .nil) trivial memNil .nil memNil rfl trivial memNil rfl rfl rfl rfl rfl rfl ?_
      refine m1 ?_
      refine s_split (t := 49) rfl (fun b5 => ?_) (fun b5 => ?_)
      ·replace h := cond_t h b5
       refine s_fieldAddr rfl rfl fd32_2 rfl rfl rfl rfl ?_
       refine s_load rfl rfl rfl rfl ty30 rfl (.inr rfl) (by conv => lhs; whnf) rfl rfl rfl ?_
       refine s_lenL rfl sl30 rfl rfl rfl rfl ?_
       refine s_of (st_gtr rfl rfl rfl) rfl rfl rfl rfl ?_
       refine s_pickT rfl rfl (by conv => lhs; whnf) rfl rfl rfl ?_
       refine m1 ?_
       refine s_split (t := 55) rfl (fun b6 => ?_) (fun b6 => ?_)
       ·replace h := cond_t h b6
        refine s_fieldAddr rfl rfl fd32_2 rfl rfl rfl rfl ?_
        refine s_load rfl rfl rfl rfl ty30 rfl (.inr rfl) (by conv => lhs; whnf) rfl rfl rfl ?_
        refine bnd1_elim h fun x7 q8 h => ?_
        refine s_callN (kb := []) (ns := []) (v := .sc (.bool x7)) rfl rfl cl43 (ws_l7List p0.l x7 q8) rfl (.cons (.free rfl) .nil) trivial memNil .nil memNil rfl trivial memNil rfl rfl rfl rfl rfl rfl ?_
        refine s_pickT rfl rfl (by conv => lhs; whnf) rfl rfl rfl ?_
        refine m2 ?_
        refine rt_nil ?_
        refine tri_ret ?_
        have e0 := (some1 h); subst e0
        exact endY [] [] (rvC (resTmp rfl) rvN) trivial trivial rfl rfl rfl rfl (.free rfl)
       ·replace h := cond_f h b6
        refine s_skip rfl rfl rfl ?_
        refine s_skip rfl rfl rfl ?_
        refine s_skip rfl rfl rfl ?_
        refine s_pickF rfl rfl (v := .sc (.bool false)) rfl rfl rfl rfl ?_
        refine m2 ?_
        refine rt_nil ?_
        refine tri_ret ?_
        have e0 := (some1 h); subst e0
        exact endY [] [] (rvC (resTmp rfl) rvN) trivial trivial rfl rfl rfl rfl (.free rfl)
      ·replace h := cond_f h b5
       refine s_skip rfl rfl rfl ?_
       refine s_skip rfl rfl rfl ?_
       refine s_skip rfl rfl rfl ?_
       refine s_skip rfl rfl rfl ?_
       refine s_pickF rfl rfl (v := .sc (.bool false)) rfl rfl rfl rfl ?_
       refine m1 ?_
       refine s_skip rfl rfl rfl ?_
       refine s_skip rfl rfl rfl ?_
       refine s_skip rfl rfl rfl ?_
       refine s_pickF rfl rfl (v := .sc (.bool false)) rfl rfl rfl rfl ?_
       refine m2 ?_
       refine rt_nil ?_
       refine tri_ret ?_
       have e0 := (some1 h); subst e0
       exact endY [] [] (rvC (resTmp rfl) rvN) trivial trivial rfl rfl rfl rfl (.free rfl)
    ·replace h := cond_f h c2
     refine tri_sr ?_
     refine s_of (st_eqI rfl rfl rfl) rfl rfl rfl rfl ?_
     refine m2 ?_
     refine rt_nil ?_
     refine tri_cond rfl (fun c9 => ?_) (fun c9 => ?_)
     ·replace h := cond_t h c9
      refine tri_sr ?_
      refine s_fieldAddr rfl rfl fd32_0 rfl rfl rfl rfl ?_
      refine s_load (v := .agg (questV p0.q)) rfl rfl rfl rfl ty29 rfl (.inl rfl) rfl rfl rfl rfl ?_
      refine bnd1_elim h fun x10 q11 h => ?_
      refine s_callN (kb := []) (ns := []) (v := .sc (.bool x10)) rfl rfl cl42 (ws_QuestOk p0.q x10 q11) rfl (.cons (relAgg rfl) .nil) trivial memNil .nil memNil rfl trivial memNil rfl rfl rfl rfl rfl rfl ?_
      refine m1 ?_
      refine s_split (t := 65) rfl (fun b12 => ?_) (fun b12 => ?_)
      ·replace h := cond_t h b12
       refine s_fieldAddr rfl rfl fd32_2 rfl rfl rfl rfl ?_
       refine s_load rfl rfl rfl rfl ty30 rfl (.inr rfl) (by conv => lhs; whnf) rfl rfl rfl ?_
       refine s_lenL rfl sl30 rfl rfl rfl rfl ?_
       refine s_of (st_eqI rfl rfl rfl) rfl rfl rfl rfl ?_
       refine s_pickT rfl rfl (by conv => lhs; whnf) rfl rfl rfl ?_
       refine m2 ?_
       refine rt_nil ?_
       refine tri_ret ?_
       have e0 := (some1 h); subst e0
       exact endY [] [] (rvC (resTmp rfl) rvN) trivial trivial rfl rfl rfl rfl (.free rfl)
      ·replace h := cond_f h b12
       refine s_skip rfl rfl rfl ?_
       refine s_skip rfl rfl rfl ?_
       refine s_skip rfl rfl rfl ?_
       refine s_skip rfl rfl rfl ?_
       refine s_pickF rfl rfl (v := .sc (.bool false)) rfl rfl rfl rfl ?_
       refine m2 ?_
       refine rt_nil ?_
       refine tri_ret ?_
       have e0 := (some1 h); subst e0
       exact endY [] [] (rvC (resTmp rfl) rvN) trivial trivial rfl rfl rfl rfl (.free rfl)
     ·replace h := cond_f h c9
      refine tri_skip ?_
      refine Exists.intro ⟨(), h⟩ ?_
      refine entX [((1, 0), ⟨32, 6, [[.sc (.string p0.q.name), .sc (.int .i64 p0.q.ty), .sc (.int .i64 p0.kind), .lst 6 (List.map recV p0.l), .sc (.int .i64 p0.rank), .sc (.int .i64 p0.til)]], false, true⟩, some (1, 0))] [] ⟨⟨rfl, _, rfl, rfl, rfl, rfl, id, rowsCv_one (.cons (.free rfl) (.cons (.free rfl) (.cons (.free rfl) (.cons (.free rfl) (.cons (.free rfl) (.cons (.free rfl) .nil)))))), rowsZ_one rfl⟩, trivial⟩ trivial rfl rfl ?_
      exact ⟨(.ptr rfl), trivial⟩
   ·rintro ⟨u, h⟩
    replace h : s_EntryOk_j1 p0 = some r0 := h
    unfold s_EntryOk_j1 at h
    show Tri _ _ _ (inv_s_EntryOk_1 p0)
    refine tri_sr ?_
    refine s_fieldAddr rfl rfl fd32_1 rfl rfl rfl rfl ?_
    refine s_load rfl rfl rfl rfl ty3 rfl (.inr rfl) (by conv => lhs; whnf) rfl rfl rfl ?_
    refine s_of (st_eqI rfl rfl rfl) rfl rfl rfl rfl ?_
    refine m1 ?_
    refine s_split (t := 74) rfl (fun b2 => ?_) (fun b2 => ?_)
    ·replace h := cond_t h b2
     refine s_fieldAddr rfl rfl fd32_0 rfl rfl rfl rfl ?_
     refine s_fieldAddr rfl rfl fd29_0 rfl rfl rfl rfl ?_
     refine s_load rfl rfl rfl rfl ty9 rfl (.inr rfl) (by conv => lhs; whnf) rfl rfl rfl ?_
     refine bnd1_elim h fun x3 q4 h => ?_
     refine s_callN (kb := []) (ns := []) (v := .sc (.bool x3)) rfl rfl cl44 (ws_NameOk p0.q.name x3 q4) rfl (.cons (.free rfl) .nil) trivial memNil .nil memNil rfl trivial memNil rfl rfl rfl rfl rfl rfl ?_
     refine s_pickT rfl rfl (by conv => lhs; whnf) rfl rfl rfl ?_
     refine m1 ?_
     refine s_split (t := 80) rfl (fun b5 => ?_) (fun b5 => ?_)
     ·replace h := cond_t h b5
      refine s_fieldAddr rfl rfl fd32_0 rfl rfl rfl rfl ?_
      refine s_fieldAddr rfl rfl fd29_1 rfl rfl rfl rfl ?_
      refine s_load rfl rfl rfl rfl ty3 rfl (.inr rfl) (by conv => lhs; whnf) rfl rfl rfl ?_
      refine s_of (st_eqI rfl rfl rfl) rfl rfl rfl rfl ?_
      refine s_pickT rfl rfl (by conv => lhs; whnf) rfl rfl rfl ?_
      refine m1 ?_
      refine s_split (t := 86) rfl (fun b6 => ?_) (fun b6 => ?_)
      ·replace h := cond_t h b6
       refine s_fieldAddr rfl rfl fd32_2 rfl rfl rfl rfl ?_
       refine s_load rfl rfl rfl rfl ty30 rfl (.inr rfl) (by conv => lhs; whnf) rfl rfl rfl ?_
       refine s_lenL rfl sl30 rfl rfl rfl rfl ?_
       refine s_of (st_eqI rfl rfl rfl) rfl rfl rfl rfl ?_
       refine s_pickT rfl rfl (by conv => lhs; whnf) rfl rfl rfl ?_
       refine m2 ?_
       refine rt_nil ?_
       refine tri_ret ?_
       have e0 := (some1 h); subst e0
       exact endY [] [] (rvC (resTmp rfl) rvN) trivial trivial rfl rfl rfl rfl (.free rfl)
      ·replace h := cond_f h b6
       refine s_skip rfl rfl rfl ?_
       refine s_skip rfl rfl rfl ?_
       refine s_skip rfl rfl rfl ?_
       refine s_skip rfl rfl rfl ?_
       refine s_pickF rfl rfl (v := .sc (.bool false)) rfl rfl rfl rfl ?_
       refine m2 ?_
       refine rt_nil ?_
       refine tri_ret ?_
       have e0 := (some1 h); subst e0
       exact endY [] [] (rvC (resTmp rfl) rvN) trivial trivial rfl rfl rfl rfl (.free rfl)
     ·replace h := cond_f h b5
      refine s_skip rfl rfl rfl ?_
      refine s_skip rfl rfl rfl ?_
      refine s_skip rfl rfl rfl ?_
      refine s_skip rfl rfl rfl ?_
      refine s_pickF rfl rfl (v := .sc (.bool false)) rfl rfl rfl rfl ?_
      refine m1 ?_
      refine s_skip rfl rfl rfl ?_
      refine s_skip rfl rfl rfl ?_
      refine s_skip rfl rfl rfl ?_
      refine s_skip rfl rfl rfl ?_
      refine s_pickF rfl rfl (v := .sc (.bool false)) rfl rfl rfl rfl ?_
      refine m2 ?_
      refine rt_nil ?_
      refine tri_ret ?_
      have e0 := (some1 h); subst e0
      exact endY [] [] (rvC (resTmp rfl) rvN) trivial trivial rfl rfl rfl rfl (.free rfl)
    ·replace h := cond_f h b2
     refine s_skip rfl rfl rfl ?_
     refine s_skip rfl rfl rfl ?_
     refine s_skip rfl rfl rfl ?_
     refine s_skip rfl rfl rfl ?_
     refine s_pickF rfl rfl (v := .sc (.bool false)) rfl rfl rfl rfl ?_
     refine m1 ?_
     refine s_skip rfl rfl rfl ?_
     refine s_skip rfl rfl rfl ?_
     refine s_skip rfl rfl rfl ?_
     refine s_skip rfl rfl rfl ?_
     refine s_pickF rfl rfl (v := .sc (.bool false)) rfl rfl rfl rfl ?_
     refine m1 ?_
     refine s_skip rfl rfl rfl ?_
     refine s_skip rfl rfl rfl ?_
     refine s_skip rfl rfl rfl ?_
     refine s_skip rfl rfl rfl ?_
     refine s_pickF rfl rfl (v := .sc (.bool false)) rfl rfl rfl rfl ?_
     refine m2 ?_
     refine rt_nil ?_
     refine tri_ret ?_
     have e0 := (some1 h); subst e0
     exact endY [] [] (rvC (resTmp rfl) rvN) trivial trivial rfl rfl rfl rfl (.free rfl)

/- spec.l15Lives -/

set_option maxRecDepth 4000 in
set_option maxHeartbeats 800000 in
theorem ws_l15Lives (p0 : MEntry) (p1 : Int) (r0 : Bool) (h : s_l15Lives p0 p1 = some r0) : Runs Tryd.prog 65 [.agg (mEntryV p0), .sc (.int .i64 p1)] [] (.sc (.bool r0)) [] := by
 unfold s_l15Lives at h
 refine runsR [.tmp 4] Tryd.func65 rfl rfl rfl rfl ?_
 rw [Tryd.ntmps65]
 refine tri_sr ?_
 refine s_box rfl rfl rfl rfl rfl rfl rfl ?_
 refine s_mv (.inr rfl) (v := .sc (.bool false)) rfl rfl rfl rfl ?_
 refine rt_nil ?_
 refine tri_sr ?_
 refine m1 ?_
 refine s_fieldAddr rfl rfl fd32_4 rfl rfl rfl rfl ?_
 refine s_load rfl rfl rfl rfl ty3 rfl (.inr rfl) (by conv => lhs; whnf) rfl rfl rfl ?_
 refine s_of (st_lss rfl rfl rfl) rfl rfl rfl rfl ?_
 refine m2 ?_
 refine rt_nil ?_
 refine tri_ret ?_
 have e0 := (some1 h); subst e0
 exact endY [] [] (rvC (resTmp rfl) rvN) trivial trivial rfl rfl rfl rfl (.free rfl)

/- spec.l15At -/
def inv_s_l15At_0 (p0 : MCache) (p1 : Quest) (v0_0 : Nat) : St := mkT 22 [(2, .ptr (2, 0) 0 0), (3, .ptr (3, 0) 0 0), (5, .sc (.int .i64 (v0_0 : Int)))] [((2, 0), some ⟨43, 2, [[.sc (.int .i64 p0.cap), .lst 6 (List.map mEntryV p0.l)]], false, true⟩), ((3, 0), some ⟨29, 2, [[.sc (.string p1.name), .sc (.int .i64 p1.ty)]], false, true⟩)]
set_option maxRecDepth 4000 in
set_option maxHeartbeats 800000 in
theorem ws_l15At (p0 : MCache) (p1 : Quest) (r0 : Int) (h : s_l15At p0 p1 = some r0) : Runs Tryd.prog 54 [.agg (mCacheV p0), .agg (questV p1)] [] (.sc (.int .i64 r0)) [] := by
 unfold s_l15At at h
 refine runsR [.tmp 4] Tryd.func54 rfl rfl rfl rfl ?_
 rw [Tryd.ntmps54]
 refine tri_sr ?_
 refine s_box rfl rfl rfl rfl rfl rfl rfl ?_
 refine s_box rfl rfl rfl rfl rfl rfl rfl ?_
 refine s_mv (.inr rfl) (v := .sc (.int .i64 0)) rfl rfl rfl rfl ?_
 refine rt_nil ?_
 refine tri_seq ?_
 refine tri_sr ?_
 refine s_mv (.inr rfl) (v := .sc (.int .i64 0)) rfl rfl rfl rfl ?_
 refine rt_nil ?_
 refine tri_block ?_
 refine tri_aggM 0 1 rfl rfl (fun hl0 => ?_)
 refine tri_loop (ι := { p : (List MEntry) × Nat // p0.l.drop p.2 = p.1 ∧ s_l15At_l0 p1 p.1 p.2 = some r0 }) (fun p => inv_s_l15At_0 p0 p1 p.1.2) (fun p => p.1.1.length) ⟨(p0.l, 0), rfl, h⟩ ?_ ?_
 ·skip
  refine entX [((2, 0), ⟨43, 2, [[.sc (.int .i64 p0.cap), .lst 6 (List.map mEntryV p0.l)]], false, true⟩, some (2, 0)), ((3, 0), ⟨29, 2, [[.sc (.string p1.name), .sc (.int .i64 p1.ty)]], false, true⟩, some (3, 0))] [] ⟨⟨rfl, _, rfl, rfl, rfl, rfl, id, rowsCv_one (.cons (.free rfl) (.cons (.free rfl) .nil)), rowsZ_one rfl⟩, ⟨rfl, _, rfl, rfl, rfl, rfl, id, rowsCv_one (.cons (.free rfl) (.cons (.free rfl) .nil)), rowsZ_one rfl⟩, trivial⟩ trivial rfl rfl ?_
  exact ⟨(.ptr rfl), (.ptr rfl), (.free rfl), trivial⟩
 ·rintro ⟨⟨lrs0, v0_0⟩, hd0, h⟩
  replace hd0 : p0.l.drop v0_0 = lrs0 := hd0
  replace h : s_l15At_l0 p1 lrs0 v0_0 = some r0 := h
  show Tri _ _ _ (inv_s_l15At_0 p0 p1 v0_0)
  refine tri_seq ?_
  refine tri_sr ?_
  refine m1 ?_
  refine s_fieldAddr rfl rfl fd43_1 rfl rfl rfl rfl ?_
  refine s_load rfl rfl rfl rfl ty41 rfl (.inr rfl) (by conv => lhs; whnf) rfl rfl rfl ?_
  refine s_lenL rfl sl41 rfl rfl rfl rfl ?_
  refine s_of (st_lss rfl rfl rfl) rfl rfl rfl rfl ?_
  refine rt_nil ?_
  refine tri_cond rfl (fun c1 => ?_) (fun c1 => ?_)
  ·refine drop_elim hd0 c1 fun e0 rs0 he hx0 hn0 => ?_
   subst he
   rw [s_l15At_l0] at h
   refine tri_skip ?_
   refine tri_seq ?_
   refine tri_block ?_
   refine tri_seq ?_
   refine tri_draw mixed ?_
   refine s_fieldAddr rfl rfl fd43_1 rfl rfl rfl rfl ?_
   refine s_load rfl rfl rfl rfl ty41 rfl (.inr rfl) (by conv => lhs; whnf) rfl rfl rfl ?_
   refine m1 ?_
   refine s_indexF (i := v0_0) rfl rfl rfl sl41 (get_ltM hx0) rfl rfl rfl ?_
   refine s_fieldAddrF rfl rfl fd32_0 rfl rfl rfl rfl ?_
   refine s_loadF (v := .agg (questV e0.q)) rfl rfl (rowG hx0) ty29 rfl (.inl rfl) rfl rfl rfl rfl ?_
   refine s_loadR rfl rfl rfl rfl ty29 rfl rfl rfl ?_
   refine s_eqStruct (r' := (decide (e0.q.name = p1.name) && (decide (e0.q.ty = p1.ty) && true))) rfl rfl rfl fk29 rfl rfl rfl rfl rfl ?_
   refine rt_nil ⟨by kernel_rfl, ?_⟩
   refine tri_cond rfl (fun c2 => ?_) (fun c2 => ?_)
   ·replace h := cond_t h c2
    refine tri_sr ?_
    refine m1 ?_
    refine m2 ?_
    refine rt_nil ?_
    refine tri_ret ?_
    have e0 := (some1 h); subst e0
    exact endY [] [] (rvC (resTmp rfl) rvN) trivial trivial rfl rfl rfl rfl (.free rfl)
   ·replace h := cond_f h c2
    refine tri_skip ?_
    refine tri_region ?_
    refine m1 ?_
    refine s_inc (a := v0_0) (b := 1) rfl rfl rfl rfl (by have := get_lt hx0; have := hl0; omega) rfl rfl rfl ?_
    refine m2 ?_
    refine rt_nil ?_
    refine Exists.intro ⟨(rs0, (v0_0 + 1)), hn0, h⟩ (And.intro (Nat.lt_succ_self _) ?_)
    refine entX [((2, 0), ⟨43, 2, [[.sc (.int .i64 p0.cap), .lst 6 (List.map mEntryV p0.l)]], false, true⟩, some (2, 0)), ((3, 0), ⟨29, 2, [[.sc (.string p1.name), .sc (.int .i64 p1.ty)]], false, true⟩, some (3, 0))] [] ⟨⟨rfl, _, rfl, rfl, rfl, rfl, id, rowsCv_one (.cons (.free rfl) (.cons (.free rfl) .nil)), rowsZ_one rfl⟩, ⟨rfl, _, rfl, rfl, rfl, rfl, id, rowsCv_one (.cons (.free rfl) (.cons (.free rfl) .nil)), rowsZ_one rfl⟩, trivial⟩ trivial rfl rfl ?_
    exact ⟨(.ptr rfl), (.ptr rfl), (.free rfl), trivial⟩
  ·have he := drop_f hd0 c1; subst he
   rw [s_l15At_l0] at h
   refine tri_exit ?_
   refine tri_sr ?_
   refine s_mv (.inr rfl) (v := .sc (.int .i64 (-1))) rfl rfl rfl rfl ?_
   refine rt_nil ?_
   refine tri_ret ?_
   have e0 := (some1 h); subst e0
   exact endY [] [] (rvC (resTmp rfl) rvN) trivial trivial rfl rfl rfl rfl (.free rfl)

/- spec.l15Oldest -/
def inv_s_l15Oldest_0 (p0 : MCache) (v0_0 : Int) (v0_1 : Nat) : St := mkT 27 [(1, .ptr (1, 0) 0 0), (3, .sc (.int .i64 v0_0)), (4, .sc (.int .i64 (v0_1 : Int)))] [((1, 0), some ⟨43, 2, [[.sc (.int .i64 p0.cap), .lst 6 (List.map mEntryV p0.l)]], false, true⟩)]
set_option maxRecDepth 4000 in
set_option maxHeartbeats 800000 in
theorem ws_l15Oldest (p0 : MCache) (r0 : Int) (h : s_l15Oldest p0 = some r0) : Runs Tryd.prog 80 [.agg (mCacheV p0)] [] (.sc (.int .i64 r0)) [] := by
 unfold s_l15Oldest at h
 refine runsR [.tmp 2] Tryd.func80 rfl rfl rfl rfl ?_
 rw [Tryd.ntmps80]
 refine tri_sr ?_
 refine s_box rfl rfl rfl rfl rfl rfl rfl ?_
 refine s_mv (.inr rfl) (v := .sc (.int .i64 0)) rfl rfl rfl rfl ?_
 refine rt_nil ?_
 refine tri_sr ?_
 refine s_mv (.inr rfl) (v := .sc (.int .i64 0)) rfl rfl rfl rfl ?_
 refine rt_nil ?_
 refine tri_seq ?_
 refine tri_sr ?_
 refine s_mv (.inr rfl) (v := .sc (.int .i64 1)) rfl rfl rfl rfl ?_
 refine rt_nil ?_
 refine tri_block ?_
 refine tri_aggM 0 1 rfl rfl (fun hl0 => ?_)
 refine tri_loop (ι := { p : (List MEntry) × Int × Nat // p0.l.drop p.2.2 = p.1 ∧ s_l15Oldest_l0 p0 p.1 p.2.1 p.2.2 = some r0 }) (fun p => inv_s_l15Oldest_0 p0 p.1.2.1 p.1.2.2) (fun p => p.1.1.length) ⟨((p0.l.drop 1), 0, 1), rfl, h⟩ ?_ ?_
 ·skip
  refine entX [((1, 0), ⟨43, 2, [[.sc (.int .i64 p0.cap), .lst 6 (List.map mEntryV p0.l)]], false, true⟩, some (1, 0))] [] ⟨⟨rfl, _, rfl, rfl, rfl, rfl, id, rowsCv_one (.cons (.free rfl) (.cons (.free rfl) .nil)), rowsZ_one rfl⟩, trivial⟩ trivial rfl rfl ?_
  exact ⟨(.ptr rfl), (.free rfl), (.free rfl), trivial⟩
 ·rintro ⟨⟨lrs0, v0_0, v0_1⟩, hd0, h⟩
  replace hd0 : p0.l.drop v0_1 = lrs0 := hd0
  replace h : s_l15Oldest_l0 p0 lrs0 v0_0 v0_1 = some r0 := h
  show Tri _ _ _ (inv_s_l15Oldest_0 p0 v0_0 v0_1)
  refine tri_seq ?_
  refine tri_sr ?_
  refine m1 ?_
  refine s_fieldAddr rfl rfl fd43_1 rfl rfl rfl rfl ?_
  refine s_load rfl rfl rfl rfl ty41 rfl (.inr rfl) (by conv => lhs; whnf) rfl rfl rfl ?_
  refine s_lenL rfl sl41 rfl rfl rfl rfl ?_
  refine s_of (st_lss rfl rfl rfl) rfl rfl rfl rfl ?_
  refine rt_nil ?_
  refine tri_cond rfl (fun c1 => ?_) (fun c1 => ?_)
  ·refine drop_elim hd0 c1 fun e0 rs0 he hx0 hn0 => ?_
   subst he
   rw [s_l15Oldest_l0] at h
   refine tri_skip ?_
   refine tri_seq ?_
   refine tri_block ?_
   refine tri_seq ?_
   refine tri_draw mixed ?_
   refine s_fieldAddr rfl rfl fd43_1 rfl rfl rfl rfl ?_
   refine s_load rfl rfl rfl rfl ty41 rfl (.inr rfl) (by conv => lhs; whnf) rfl rfl rfl ?_
   refine m1 ?_
   refine s_indexF (i := v0_1) rfl rfl rfl sl41 (get_ltM hx0) rfl rfl rfl ?_
   refine s_fieldAddrF rfl rfl fd32_4 rfl rfl rfl rfl ?_
   refine s_loadF rfl rfl (rowG hx0) ty3 rfl (.inr rfl) (by conv => lhs; whnf) rfl rfl rfl ?_
   refine s_fieldAddr rfl rfl fd43_1 rfl rfl rfl rfl ?_
   refine s_load rfl rfl rfl rfl ty41 rfl (.inr rfl) (by conv => lhs; whnf) rfl rfl rfl ?_
   refine m1 ?_
   refine bnd1_elim h fun x2 q3 h => ?_
   have q3a := (idx_some q3).1; have q3b := (idx_some q3).2
   refine s_indexFZ rfl rfl rfl sl41 q3a (get_ltM q3b) rfl rfl rfl ?_
   refine s_fieldAddrF rfl rfl fd32_4 rfl rfl rfl rfl ?_
   refine s_loadF rfl rfl (rowG q3b) ty3 rfl (.inr rfl) (by conv => lhs; whnf) rfl rfl rfl ?_
   refine s_of (st_lss rfl rfl rfl) rfl rfl rfl rfl ?_
   refine rt_nil ⟨by kernel_rfl, ?_⟩
   refine tri_cond rfl (fun c4 => ?_) (fun c4 => ?_)
   ·replace h := cond_t h c4
    refine tri_region ?_
    refine m1 ?_
    refine m2 ?_
    refine rt_nil ?_
    refine tri_region ?_
    refine m1 ?_
    refine s_inc (a := v0_1) (b := 1) rfl rfl rfl rfl (by have := get_lt hx0; have := hl0; omega) rfl rfl rfl ?_
    refine m2 ?_
    refine rt_nil ?_
    refine Exists.intro ⟨(rs0, (v0_1 : Int), (v0_1 + 1)), hn0, h⟩ (And.intro (Nat.lt_succ_self _) ?_)
    refine entX [((1, 0), ⟨43, 2, [[.sc (.int .i64 p0.cap), .lst 6 (List.map mEntryV p0.l)]], false, true⟩, some (1, 0))] [] ⟨⟨rfl, _, rfl, rfl, rfl, rfl, id, rowsCv_one (.cons (.free rfl) (.cons (.free rfl) .nil)), rowsZ_one rfl⟩, trivial⟩ trivial rfl rfl ?_
    exact ⟨(.ptr rfl), (.free rfl), (.free rfl), trivial⟩
   ·replace h := cond_f h c4
    refine tri_skip ?_
    refine tri_region ?_
    refine m1 ?_
    refine s_inc (a := v0_1) (b := 1) rfl rfl rfl rfl (by have := get_lt hx0; have := hl0; omega) rfl rfl rfl ?_
    refine m2 ?_
    refine rt_nil ?_
    refine Exists.intro ⟨(rs0, v0_0, (v0_1 + 1)), hn0, h⟩ (And.intro (Nat.lt_succ_self _) ?_)
    refine entX [((1, 0), ⟨43, 2, [[.sc (.int .i64 p0.cap), .lst 6 (List.map mEntryV p0.l)]], false, true⟩, some (1, 0))] [] ⟨⟨rfl, _, rfl, rfl, rfl, rfl, id, rowsCv_one (.cons (.free rfl) (.cons (.free rfl) .nil)), rowsZ_one rfl⟩, trivial⟩ trivial rfl rfl ?_
    exact ⟨(.ptr rfl), (.free rfl), (.free rfl), trivial⟩
  ·have he := drop_f hd0 c1; subst he
   rw [s_l15Oldest_l0] at h
   refine tri_exit ?_
   refine tri_sr ?_
   refine m1 ?_
   refine m2 ?_
   refine rt_nil ?_
   refine tri_ret ?_
   have e0 := (some1 h); subst e0
   exact endY [] [] (rvC (resTmp rfl) rvN) trivial trivial rfl rfl rfl rfl (.free rfl)

/- spec.Keep -/
def inv_s_Keep_1 (x1 : MCache) (x4 : MEntry) (x6 : Int) (j1_0 : Bool) : St := mkT 89 [(6, .ptr (6, 0) 0 0), (7, .ptr (7, 0) 0 0), (8, .ptr (8, 0) 0 0), (9, .sc (.int .i64 x6)), (48, .sc (.bool j1_0))] [((6, 0), some ⟨43, 2, [[.sc (.int .i64 0), .nils]], false, true⟩), ((7, 0), some ⟨43, 2, [[.sc (.int .i64 x1.cap), .ref (11, 1) 0 x1.l.length]], false, true⟩), ((11, 1), some ⟨32, 6, List.map mEntryV x1.l, false, true⟩), ((8, 0), some ⟨32, 6, [[.sc (.string x4.q.name), .sc (.int .i64 x4.q.ty), .sc (.int .i64 x4.kind), .lst 6 (List.map recV x4.l), .sc (.int .i64 x4.rank), .sc (.int .i64 x4.til)]], false, true⟩)]
def inv_s_Keep_3 (x1 : MCache) (x4 : MEntry) (j3_0 : Bool) : St := mkT 89 [(6, .ptr (6, 0) 0 0), (7, .ptr (7, 0) 0 0), (8, .ptr (8, 0) 0 0), (66, .sc (.bool j3_0))] [((6, 0), some ⟨43, 2, [[.sc (.int .i64 0), .nils]], false, true⟩), ((7, 0), some ⟨43, 2, [[.sc (.int .i64 x1.cap), .ref (11, 1) 0 x1.l.length]], false, true⟩), ((11, 1), some ⟨32, 6, List.map mEntryV x1.l, false, true⟩), ((8, 0), some ⟨32, 6, [[.sc (.string x4.q.name), .sc (.int .i64 x4.q.ty), .sc (.int .i64 x4.kind), .lst 6 (List.map recV x4.l), .sc (.int .i64 x4.rank), .sc (.int .i64 x4.til)]], false, true⟩)]
def inv_s_Keep_2 (x1 : MCache) (x4 : MEntry) (j2_0 : List MEntry) : St := mkT 89 [(6, .ptr (6, 0) 0 0), (7, .ptr (7, 0) 0 0), (8, .ptr (8, 0) 0 0)] [((6, 0), some ⟨43, 2, [[.sc (.int .i64 0), .nils]], false, true⟩), ((7, 0), some ⟨43, 2, [[.sc (.int .i64 x1.cap), .ref (2007, 2) 0 j2_0.length]], false, true⟩), ((2007, 2), some ⟨32, 6, List.map mEntryV j2_0, false, true⟩), ((8, 0), some ⟨32, 6, [[.sc (.string x4.q.name), .sc (.int .i64 x4.q.ty), .sc (.int .i64 x4.kind), .lst 6 (List.map recV x4.l), .sc (.int .i64 x4.rank), .sc (.int .i64 x4.til)]], false, true⟩)]
def inv_s_Keep_0 (p0 : MCache) (p1 : Int) (p2 : MEntry) (x1 : MCache) (j0_0 : Bool) : St := mkT 89 [(1, .sc (.int .i64 p1)), (3, .ptr (3, 0) 0 0), (5, .ptr (5, 0) 0 0), (6, .ptr (6, 0) 0 0), (7, .ptr (7, 0) 0 0), (20, .sc (.bool j0_0))] [((3, 0), some ⟨43, 2, [[.sc (.int .i64 p0.cap), .lst 6 (List.map mEntryV p0.l)]], false, true⟩), ((5, 0), some ⟨32, 6, [[.sc (.string p2.q.name), .sc (.int .i64 p2.q.ty), .sc (.int .i64 p2.kind), .lst 6 (List.map recV p2.l), .sc (.int .i64 p2.rank), .sc (.int .i64 p2.til)]], false, true⟩), ((6, 0), some ⟨43, 2, [[.sc (.int .i64 0), .nils]], false, true⟩), ((7, 0), some ⟨43, 2, [[.sc (.int .i64 x1.cap), .ref (11, 1) 0 x1.l.length]], false, true⟩), ((11, 1), some ⟨32, 6, List.map mEntryV x1.l, false, true⟩)]
set_option maxRecDepth 4000 in
set_option maxHeartbeats 800000 in
theorem ws_Keep (p0 : MCache) (p1 : Int) (p2 : MEntry) (r0 : MCache) (h : s_Keep p0 p1 p2 = some r0) : Runs Tryd.prog 34 [.agg (mCacheV p0), .sc (.int .i64 p1), .agg (mEntryV p2)] [] (.agg [.sc (.int .i64 r0.cap), .own 32 6 (List.map mEntryV r0.l)]) [] := by
 unfold s_Keep at h
 refine runsR [.cell 6 43] Tryd.func34 rfl rfl rfl rfl ?_
 rw [Tryd.ntmps34]
 refine tri_sr ?_
 refine s_box rfl rfl rfl rfl rfl rfl rfl ?_
 refine s_box rfl rfl rfl rfl rfl rfl rfl ?_
 refine s_alloc rfl rfl rfl zc43 rfl rfl rfl rfl rfl ?_
 refine rt_nil ?_
 refine tri_sr ?_
 refine s_loadR rfl rfl rfl rfl ty43 rfl rfl rfl ?_
 refine bnd1_elim h fun x1 q2 h => ?_
 refine s_callZ (kb := []) (ns := []) (v := .agg [.sc (.int .i64 x1.cap), .ref (11, 1) 0 x1.l.length]) rfl rfl cl79 (ws_l15Copy p0 x1 q2) rfl (.cons (relAgg rfl) .nil) trivial memNil .nil memNil trivial rfl ⟨(allFree_map mEntryV_free), trivial⟩ memNil rfl (by simp only [V.mat, V.mat1, V.mat0, matL, matT, List.length_map] <;> rfl) rfl rfl rfl rfl ?_
 refine s_alloc rfl rfl rfl zc43 rfl rfl rfl rfl rfl ?_
 refine s_storeB rfl rfl rfl ty43 rfl rfl rfl rfl rfl ?_
 refine rt_nil ?_
 refine tri_seq ?_
 refine tri_cutI (ι := { p : Bool // s_Keep_j0 p0 p1 p2 x1 p = some r0 }) (fun p => inv_s_Keep_0 p0 p1 p2 x1 p.1) ?_ ?_
 ·skip
  refine tri_region ?_
  refine s_loadR rfl rfl rfl rfl ty32 rfl rfl rfl ?_
  refine bnd1_elim h fun x3 q4 h => ?_
  refine s_callN (kb := []) (ns := []) (v := .sc (.bool x3)) rfl rfl cl10 (ws_EntryOk p2 x3 q4) rfl (.cons (relAgg rfl) .nil) trivial memNil .nil memNil rfl trivial memNil rfl rfl rfl rfl rfl rfl ?_
  refine s_of (st_not rfl rfl) rfl rfl rfl rfl ?_
  refine m1 ?_
  refine s_split (t := 15) rfl (fun b5 => ?_) (fun b5 => ?_)
  ·replace h := cond_t h b5
   refine s_skip rfl rfl rfl ?_
   refine s_skip rfl rfl rfl ?_
   refine s_skip rfl rfl rfl ?_
   refine s_skip rfl rfl rfl ?_
   refine s_pickT rfl rfl (v := .sc (.bool true)) rfl rfl rfl rfl ?_
   refine rt_nil ?_
   refine Exists.intro ⟨true, h⟩ ?_
   refine entX [((3, 0), ⟨43, 2, [[.sc (.int .i64 p0.cap), .lst 6 (List.map mEntryV p0.l)]], false, true⟩, some (3, 0)), ((5, 0), ⟨32, 6, [[.sc (.string p2.q.name), .sc (.int .i64 p2.q.ty), .sc (.int .i64 p2.kind), .lst 6 (List.map recV p2.l), .sc (.int .i64 p2.rank), .sc (.int .i64 p2.til)]], false, true⟩, some (5, 0)), ((6, 0), ⟨43, 2, [[.sc (.int .i64 0), .nils]], false, true⟩, some (6, 0)), ((7, 0), ⟨43, 2, [[.sc (.int .i64 x1.cap), .ref (11, 1) 0 x1.l.length]], false, true⟩, some (7, 0)), ((11, 1), ⟨32, 6, List.map mEntryV x1.l, false, true⟩, some (11, 1))] [] ⟨⟨rfl, _, rfl, rfl, rfl, rfl, id, rowsCv_one (.cons (.free rfl) (.cons (.free rfl) .nil)), rowsZ_one rfl⟩, ⟨rfl, _, rfl, rfl, rfl, rfl, id, rowsCv_one (.cons (.free rfl) (.cons (.free rfl) (.cons (.free rfl) (.cons (.free rfl) (.cons (.free rfl) (.cons (.free rfl) .nil)))))), rowsZ_one rfl⟩, ⟨rfl, _, rfl, rfl, rfl, rfl, id, rowsCv_one (.cons (.free rfl) (.cons (.free rfl) .nil)), rowsZ_one rfl⟩, ⟨rfl, _, rfl, rfl, rfl, rfl, id, rowsCv_one (.cons (.free rfl) (.cons (.ref rfl) .nil)), rowsZ_one rfl⟩, ⟨rfl, _, rfl, rfl, rfl, rfl, id, rowsCv_eq rfl (allFree_map mEntryV_free), rowsZ_map mEntryV_len⟩, trivial⟩ trivial rfl rfl ?_
   exact ⟨(.free rfl), (.ptr rfl), (.ptr rfl), (.ptr rfl), (.ptr rfl), (.free rfl), trivial⟩
  ·replace h := cond_f h b5
   refine s_loadR rfl rfl rfl rfl ty32 rfl rfl rfl ?_
   refine m1 ?_
   refine bnd1_elim h fun x6 q7 h => ?_
   refine s_callN (kb := []) (ns := []) (v := .sc (.bool x6)) rfl rfl cl65 (ws_l15Lives p2 p1 x6 q7) rfl (.cons (relAgg rfl) (.cons (.free rfl) .nil)) trivial memNil .nil memNil rfl trivial memNil rfl rfl rfl rfl rfl rfl ?_
   refine s_of (st_not rfl rfl) rfl rfl rfl rfl ?_
   refine s_pickF rfl rfl (by conv => lhs; whnf) rfl rfl rfl ?_
   refine rt_nil ?_
   refine Exists.intro ⟨!x6, h⟩ ?_
   refine entX [((3, 0), ⟨43, 2, [[.sc (.int .i64 p0.cap), .lst 6 (List.map mEntryV p0.l)]], false, true⟩, some (3, 0)), ((5, 0), ⟨32, 6, [[.sc (.string p2.q.name), .sc (.int .i64 p2.q.ty), .sc (.int .i64 p2.kind), .lst 6 (List.map recV p2.l), .sc (.int .i64 p2.rank), .sc (.int .i64 p2.til)]], false, true⟩, some (5, 0)), ((6, 0), ⟨43, 2, [[.sc (.int .i64 0), .nils]], false, true⟩, some (6, 0)), ((7, 0), ⟨43, 2, [[.sc (.int .i64 x1.cap), .ref (11, 1) 0 x1.l.length]], false, true⟩, some (7, 0)), ((11, 1), ⟨32, 6, List.map mEntryV x1.l, false, true⟩, some (11, 1))] [] ⟨⟨rfl, _, rfl, rfl, rfl, rfl, id, rowsCv_one (.cons (.free rfl) (.cons (.free rfl) .nil)), rowsZ_one rfl⟩, ⟨rfl, _, rfl, rfl, rfl, rfl, id, rowsCv_one (.cons (.free rfl) (.cons (.free rfl) (.cons (.free rfl) (.cons (.free rfl) (.cons (.free rfl) (.cons (.free rfl) .nil)))))), rowsZ_one rfl⟩, ⟨rfl, _, rfl, rfl, rfl, rfl, id, rowsCv_one (.cons (.free rfl) (.cons (.free rfl) .nil)), rowsZ_one rfl⟩, ⟨rfl, _, rfl, rfl, rfl, rfl, id, rowsCv_one (.cons (.free rfl) (.cons (.ref rfl) .nil)), rowsZ_one rfl⟩, ⟨rfl, _, rfl, rfl, rfl, rfl, id, rowsCv_eq rfl (allFree_map mEntryV_free), rowsZ_map mEntryV_len⟩, trivial⟩ trivial rfl rfl ?_
   exact ⟨(.free rfl), (.ptr rfl), (.ptr rfl), (.ptr rfl), (.ptr rfl), (.free rfl), trivial⟩
 ·rintro ⟨j0_0, h⟩
  replace h : s_Keep_j0 p0 p1 p2 x1 j0_0 = some r0 := h
  unfold s_Keep_j0 at h
  show Tri _ _ _ (inv_s_Keep_0 p0 p1 p2 x1 j0_0)
  refine tri_cond rfl (fun c3 => ?_) (fun c3 => ?_)
  ·replace h := cond_t h c3
   refine tri_sr ?_
   refine s_loadR rfl rfl rfl rfl ty43 rfl rfl rfl ?_
   refine s_storeB rfl rfl rfl ty43 rfl rfl rfl rfl rfl ?_
   refine rt_nil ?_
   refine tri_ret ?_
   have e0 := (some1 h); subst e0
   exact endY (v' := .agg [.sc (.int .i64 x1.cap), .ref (2000, 1) 0 x1.l.length]) [((2000, 1), ⟨32, 6, List.map mEntryV x1.l, false, true⟩, some (11, 1))] [] (rvC (resCell rfl rfl ty43) rvN) ⟨⟨rfl, _, rfl, rfl, rfl, rfl, id, rowsCv_eq rfl (allFree_map mEntryV_free), rowsZ_map mEntryV_len⟩, trivial⟩ trivial rfl rfl (by kernel_rfl) (by simp only [V.mat, V.mat1, V.mat0, matL, matT, List.length_map] <;> rfl) (CvL.agg (.cons (.free rfl) (.cons (.ref rfl) .nil)))
  ·replace h := cond_f h c3
   refine tri_skip ?_
   refine tri_sr ?_
   refine s_loadR rfl rfl rfl rfl ty32 rfl rfl rfl ?_
   refine bnd1_elim h fun x4 q5 h => ?_
   refine s_callNF (kb := []) (ns := []) (v := .agg [.sc (.string x4.q.name), .sc (.int .i64 x4.q.ty), .sc (.int .i64 x4.kind), .ref (23, 3) 0 x4.l.length, .sc (.int .i64 x4.rank), .sc (.int .i64 x4.til)]) (D := [(23, 3)]) rfl rfl cl66 (ws_l15Entry p2 x4 q5) rfl (.cons (relAgg rfl) .nil) trivial memNil .nil memNil rfl ⟨(allSc_map recV_sc), trivial⟩ memNil rfl (by simp only [V.mat, V.mat1, V.mat0, matL, matT, List.length_map] <;> rfl) rfl ⟨⟨rfl, rfl, _, rfl, rfl⟩, trivial⟩ (relAggL (.cons (.free rfl) (.cons (.free rfl) (.cons (.free rfl) (.cons (lendL rfl (.head _) rfl recV_free recV_len) (.cons (.free rfl) (.cons (.free rfl) .nil))))))) rfl rfl rfl ?_
   refine s_alloc rfl rfl rfl zc32 rfl rfl rfl rfl rfl ?_
   refine s_storeB rfl rfl rfl ty32 rfl rfl rfl rfl rfl ?_
   refine rt_nil ?_
   refine tri_sr ?_
   refine s_loadR rfl rfl rfl rfl ty43 rfl rfl rfl ?_
   refine s_fieldAddr rfl rfl fd32_0 rfl rfl rfl rfl ?_
   refine s_load (v := .agg (questV p2.q)) rfl rfl rfl rfl ty29 rfl (.inl rfl) rfl rfl rfl rfl ?_
   refine bnd1_elim h fun x6 q7 h => ?_
   refine s_callN (kb := []) (ns := []) (v := .sc (.int .i64 x6)) rfl rfl cl54 (ws_l15At p0 p2.q x6 q7) rfl (.cons (relAgg rfl) (.cons (relAgg rfl) .nil)) trivial memNil .nil memNil rfl trivial memNil rfl rfl rfl rfl rfl rfl ?_
   refine m2 ?_
   refine rt_nil ?_
   refine tri_seq ?_
   refine tri_sr ?_
   refine m1 ?_
   refine s_of (st_geq rfl rfl rfl) rfl rfl rfl rfl ?_
   refine rt_nil ?_
   refine tri_cond rfl (fun c8 => ?_) (fun c8 => ?_)
   ·replace h := cond_t h c8
    refine tri_seq ?_
    refine tri_cutI (ι := { p : Bool // s_Keep_j1 x1 x4 x6 p = some r0 }) (fun p => inv_s_Keep_1 x1 x4 x6 p.1) ?_ ?_
    ·skip
     refine tri_draw mixed ?_
     refine s_fieldAddr rfl rfl fd32_3 rfl rfl rfl rfl ?_
     refine s_load rfl rfl rfl rfl ty3 rfl (.inr rfl) (by conv => lhs; whnf) rfl rfl rfl ?_
     refine s_fieldAddr rfl rfl fd43_1 rfl rfl rfl rfl ?_
     refine s_load rfl rfl rfl rfl ty41 rfl (.inr rfl) (by conv => lhs; whnf) rfl rfl rfl ?_
     refine m1 ?_
     refine bnd1_elim h fun x9 q10 h => ?_
     have q10a := (idx_some q10).1; have q10b := (idx_some q10).2
     refine s_indexFZ rfl rfl rfl sl41 q10a (get_ltM q10b) rfl rfl rfl ?_
     refine s_fieldAddrF rfl rfl fd32_3 rfl rfl rfl rfl ?_
     refine s_loadF rfl rfl (rowG q10b) ty3 rfl (.inr rfl) (by conv => lhs; whnf) rfl rfl rfl ?_
     refine s_of (st_geq rfl rfl rfl) rfl rfl rfl rfl ?_
     refine m1 ?_
     refine s_split (t := 39) rfl (fun b11 => ?_) (fun b11 => ?_)
     ·replace h := cond_t h b11
      refine s_skip rfl rfl rfl ?_
      refine s_skip rfl rfl rfl ?_
      refine s_skip rfl rfl rfl ?_
      refine s_skip rfl rfl rfl ?_
      refine s_skip rfl rfl rfl ?_
      refine s_skip rfl rfl rfl ?_
      refine s_skip rfl rfl rfl ?_
      refine s_skip rfl rfl rfl ?_
      refine s_pickT rfl rfl (v := .sc (.bool true)) rfl rfl rfl rfl ?_
      refine rt_nil ⟨by kernel_rfl, ?_⟩
      refine Exists.intro ⟨true, h⟩ ?_
      refine entX [((6, 0), ⟨43, 2, [[.sc (.int .i64 0), .nils]], false, true⟩, some (6, 0)), ((7, 0), ⟨43, 2, [[.sc (.int .i64 x1.cap), .ref (11, 1) 0 x1.l.length]], false, true⟩, some (7, 0)), ((11, 1), ⟨32, 6, List.map mEntryV x1.l, false, true⟩, some (11, 1)), ((8, 0), ⟨32, 6, [[.sc (.string x4.q.name), .sc (.int .i64 x4.q.ty), .sc (.int .i64 x4.kind), .lst 6 (List.map recV x4.l), .sc (.int .i64 x4.rank), .sc (.int .i64 x4.til)]], false, true⟩, some (8, 0))] [] ⟨⟨rfl, _, rfl, rfl, rfl, rfl, id, rowsCv_one (.cons (.free rfl) (.cons (.free rfl) .nil)), rowsZ_one rfl⟩, ⟨rfl, _, rfl, rfl, rfl, rfl, id, rowsCv_one (.cons (.free rfl) (.cons (.ref rfl) .nil)), rowsZ_one rfl⟩, ⟨rfl, _, rfl, rfl, rfl, rfl, id, rowsCv_eq rfl (allFree_map mEntryV_free), rowsZ_map mEntryV_len⟩, ⟨rfl, _, rfl, rfl, rfl, rfl, id, rowsCv_one (.cons (.free rfl) (.cons (.free rfl) (.cons (.free rfl) (.cons (.free rfl) (.cons (.free rfl) (.cons (.free rfl) .nil)))))), rowsZ_one rfl⟩, trivial⟩ trivial rfl rfl ?_
      exact ⟨(.ptr rfl), (.ptr rfl), (.ptr rfl), (.free rfl), (.free rfl), trivial⟩
     ·replace h := cond_f h b11
      refine s_fieldAddr rfl rfl fd43_1 rfl rfl rfl rfl ?_
      refine s_load rfl rfl rfl rfl ty41 rfl (.inr rfl) (by conv => lhs; whnf) rfl rfl rfl ?_
      refine m1 ?_
      refine s_indexFZ rfl rfl rfl sl41 q10a (get_ltM q10b) rfl rfl rfl ?_
      refine s_loadFR rfl rfl (rowG q10b) ty32 rfl rfl rfl ?_
      refine m1 ?_
      refine bnd1_elim h fun x12 q13 h => ?_
      refine s_callN (kb := []) (ns := []) (v := .sc (.bool x12)) rfl rfl cl65 (ws_l15Lives x9 p1 x12 q13) rfl (.cons (relAgg rfl) (.cons (.free rfl) .nil)) trivial memNil .nil memNil rfl trivial memNil rfl rfl rfl rfl rfl rfl ?_
      refine s_of (st_not rfl rfl) rfl rfl rfl rfl ?_
      refine s_pickF rfl rfl (by conv => lhs; whnf) rfl rfl rfl ?_
      refine rt_nil ⟨by kernel_rfl, ?_⟩
      refine Exists.intro ⟨!x12, h⟩ ?_
      refine entX [((6, 0), ⟨43, 2, [[.sc (.int .i64 0), .nils]], false, true⟩, some (6, 0)), ((7, 0), ⟨43, 2, [[.sc (.int .i64 x1.cap), .ref (11, 1) 0 x1.l.length]], false, true⟩, some (7, 0)), ((11, 1), ⟨32, 6, List.map mEntryV x1.l, false, true⟩, some (11, 1)), ((8, 0), ⟨32, 6, [[.sc (.string x4.q.name), .sc (.int .i64 x4.q.ty), .sc (.int .i64 x4.kind), .lst 6 (List.map recV x4.l), .sc (.int .i64 x4.rank), .sc (.int .i64 x4.til)]], false, true⟩, some (8, 0))] [] ⟨⟨rfl, _, rfl, rfl, rfl, rfl, id, rowsCv_one (.cons (.free rfl) (.cons (.free rfl) .nil)), rowsZ_one rfl⟩, ⟨rfl, _, rfl, rfl, rfl, rfl, id, rowsCv_one (.cons (.free rfl) (.cons (.ref rfl) .nil)), rowsZ_one rfl⟩, ⟨rfl, _, rfl, rfl, rfl, rfl, id, rowsCv_eq rfl (allFree_map mEntryV_free), rowsZ_map mEntryV_len⟩, ⟨rfl, _, rfl, rfl, rfl, rfl, id, rowsCv_one (.cons (.free rfl) (.cons (.free rfl) (.cons (.free rfl) (.cons (.free rfl) (.cons (.free rfl) (.cons (.free rfl) .nil)))))), rowsZ_one rfl⟩, trivial⟩ trivial rfl rfl ?_
      exact ⟨(.ptr rfl), (.ptr rfl), (.ptr rfl), (.free rfl), (.free rfl), trivial⟩
    ·rintro ⟨j1_0, h⟩
     replace h : s_Keep_j1 x1 x4 x6 j1_0 = some r0 := h
     unfold s_Keep_j1 at h
     show Tri _ _ _ (inv_s_Keep_1 x1 x4 x6 j1_0)
     refine tri_cond rfl (fun c9 => ?_) (fun c9 => ?_)
     ·replace h := cond_t h c9
      refine tri_region ?_
      refine s_fieldAddr rfl rfl fd43_1 rfl rfl rfl rfl ?_
      refine s_load rfl rfl rfl rfl ty41 rfl (.inr rfl) (by conv => lhs; whnf) rfl rfl rfl ?_
      refine m1 ?_
      refine s_loadR rfl rfl rfl rfl ty32 rfl rfl rfl ?_
      refine bnd1_elim h fun x10 q11 h => ?_
      have q11a := (idx_some q11).1; have q11b := (idx_some q11).2
      refine s_indexZ rfl rfl rfl rfl sl41 rfl q11a (get_lt q11b) rfl rfl rfl ?_
      refine s_storeL (x' := x4) rfl rfl rfl q11b ty32 rfl rfl rfl rfl rfl rfl ?_
      refine rt_nil ?_
      refine tri_sr ?_
      refine s_loadR rfl rfl rfl rfl ty43 rfl rfl rfl ?_
      refine s_storeB rfl rfl rfl ty43 rfl rfl rfl rfl rfl ?_
      refine rt_nil ?_
      refine tri_ret ?_
      have e0 := (some1 h); subst e0
      exact endY (v' := .agg [.sc (.int .i64 x1.cap), .ref (2000, 1) 0 ((x1.l.set x6.toNat x4).length)]) [((2000, 1), ⟨32, 6, List.map mEntryV (x1.l.set x6.toNat x4), false, true⟩, some (11, 1))] [] (rvC (resCell rfl rfl ty43) rvN) ⟨⟨rfl, _, rfl, rfl, rfl, rfl, id, rowsCv_eq rfl (allFree_map mEntryV_free), rowsZ_map mEntryV_len⟩, trivial⟩ trivial rfl rfl (by kernel_rfl) (by simp only [V.mat, V.mat1, V.mat0, matL, matT, List.length_map] <;> rfl) (CvL.agg (.cons (.free rfl) (.cons (cvRefLen rfl (by simp only [List.length_set])) .nil)))
     ·replace h := cond_f h c9
      refine tri_skip ?_
      refine tri_sr ?_
      refine s_loadR rfl rfl rfl rfl ty43 rfl rfl rfl ?_
      refine s_storeB rfl rfl rfl ty43 rfl rfl rfl rfl rfl ?_
      refine rt_nil ?_
      refine tri_ret ?_
      have e0 := (some1 h); subst e0
      exact endY (v' := .agg [.sc (.int .i64 x1.cap), .ref (2000, 1) 0 x1.l.length]) [((2000, 1), ⟨32, 6, List.map mEntryV x1.l, false, true⟩, some (11, 1))] [] (rvC (resCell rfl rfl ty43) rvN) ⟨⟨rfl, _, rfl, rfl, rfl, rfl, id, rowsCv_eq rfl (allFree_map mEntryV_free), rowsZ_map mEntryV_len⟩, trivial⟩ trivial rfl rfl (by kernel_rfl) (by simp only [V.mat, V.mat1, V.mat0, matL, matT, List.length_map] <;> rfl) (CvL.agg (.cons (.free rfl) (.cons (.ref rfl) .nil)))
   ·replace h := cond_f h c8
    refine tri_skip ?_
    refine tri_cutI (ι := { p : (List MEntry) // s_Keep_j2 x1 x4 p = some r0 }) (fun p => inv_s_Keep_2 x1 x4 p.1) ?_ ?_
    ·skip
     refine tri_cutI (ι := { p : Bool // s_Keep_j3 x1 x4 p = some r0 }) (fun p => inv_s_Keep_3 x1 x4 p.1) ?_ ?_
     ·skip
      refine tri_region ?_
      refine s_fieldAddr rfl rfl fd43_1 rfl rfl rfl rfl ?_
      refine s_load rfl rfl rfl rfl ty41 rfl (.inr rfl) (by conv => lhs; whnf) rfl rfl rfl ?_
      refine s_len (m := x1.l.length) rfl sl41 rfl rfl rfl rfl ?_
      refine s_of (st_gtr rfl rfl rfl) rfl rfl rfl rfl ?_
      refine m1 ?_
      refine s_split (t := 59) rfl (fun b14 => ?_) (fun b14 => ?_)
      ·replace h := cond_t h b14
       refine s_fieldAddr rfl rfl fd43_1 rfl rfl rfl rfl ?_
       refine s_load rfl rfl rfl rfl ty41 rfl (.inr rfl) (by conv => lhs; whnf) rfl rfl rfl ?_
       refine s_len (m := x1.l.length) rfl sl41 rfl rfl rfl rfl ?_
       refine s_fieldAddr rfl rfl fd43_0 rfl rfl rfl rfl ?_
       refine s_load rfl rfl rfl rfl ty3 rfl (.inr rfl) (by conv => lhs; whnf) rfl rfl rfl ?_
       refine s_of (st_geq rfl rfl rfl) rfl rfl rfl rfl ?_
       refine s_pickT rfl rfl (by conv => lhs; whnf) rfl rfl rfl ?_
       refine rt_nil ?_
       refine Exists.intro ⟨decide (p0.cap ≤ (x1.l.length : Int)), h⟩ ?_
       refine entX [((6, 0), ⟨43, 2, [[.sc (.int .i64 0), .nils]], false, true⟩, some (6, 0)), ((7, 0), ⟨43, 2, [[.sc (.int .i64 x1.cap), .ref (11, 1) 0 x1.l.length]], false, true⟩, some (7, 0)), ((11, 1), ⟨32, 6, List.map mEntryV x1.l, false, true⟩, some (11, 1)), ((8, 0), ⟨32, 6, [[.sc (.string x4.q.name), .sc (.int .i64 x4.q.ty), .sc (.int .i64 x4.kind), .lst 6 (List.map recV x4.l), .sc (.int .i64 x4.rank), .sc (.int .i64 x4.til)]], false, true⟩, some (8, 0))] [] ⟨⟨rfl, _, rfl, rfl, rfl, rfl, id, rowsCv_one (.cons (.free rfl) (.cons (.free rfl) .nil)), rowsZ_one rfl⟩, ⟨rfl, _, rfl, rfl, rfl, rfl, id, rowsCv_one (.cons (.free rfl) (.cons (.ref rfl) .nil)), rowsZ_one rfl⟩, ⟨rfl, _, rfl, rfl, rfl, rfl, id, rowsCv_eq rfl (allFree_map mEntryV_free), rowsZ_map mEntryV_len⟩, ⟨rfl, _, rfl, rfl, rfl, rfl, id, rowsCv_one (.cons (.free rfl) (.cons (.free rfl) (.cons (.free rfl) (.cons (.free rfl) (.cons (.free rfl) (.cons (.free rfl) .nil)))))), rowsZ_one rfl⟩, trivial⟩ trivial rfl rfl ?_
       exact ⟨(.ptr rfl), (.ptr rfl), (.ptr rfl), (.free rfl), trivial⟩
      ·replace h := cond_f h b14
       refine s_skip rfl rfl rfl ?_
       refine s_skip rfl rfl rfl ?_
       refine s_skip rfl rfl rfl ?_
       refine s_skip rfl rfl rfl ?_
       refine s_skip rfl rfl rfl ?_
       refine s_skip rfl rfl rfl ?_
       refine s_pickF rfl rfl (v := .sc (.bool false)) rfl rfl rfl rfl ?_
       refine rt_nil ?_
       refine Exists.intro ⟨false, h⟩ ?_
       refine entX [((6, 0), ⟨43, 2, [[.sc (.int .i64 0), .nils]], false, true⟩, some (6, 0)), ((7, 0), ⟨43, 2, [[.sc (.int .i64 x1.cap), .ref (11, 1) 0 x1.l.length]], false, true⟩, some (7, 0)), ((11, 1), ⟨32, 6, List.map mEntryV x1.l, false, true⟩, some (11, 1)), ((8, 0), ⟨32, 6, [[.sc (.string x4.q.name), .sc (.int .i64 x4.q.ty), .sc (.int .i64 x4.kind), .lst 6 (List.map recV x4.l), .sc (.int .i64 x4.rank), .sc (.int .i64 x4.til)]], false, true⟩, some (8, 0))] [] ⟨⟨rfl, _, rfl, rfl, rfl, rfl, id, rowsCv_one (.cons (.free rfl) (.cons (.free rfl) .nil)), rowsZ_one rfl⟩, ⟨rfl, _, rfl, rfl, rfl, rfl, id, rowsCv_one (.cons (.free rfl) (.cons (.ref rfl) .nil)), rowsZ_one rfl⟩, ⟨rfl, _, rfl, rfl, rfl, rfl, id, rowsCv_eq rfl (allFree_map mEntryV_free), rowsZ_map mEntryV_len⟩, ⟨rfl, _, rfl, rfl, rfl, rfl, id, rowsCv_one (.cons (.free rfl) (.cons (.free rfl) (.cons (.free rfl) (.cons (.free rfl) (.cons (.free rfl) (.cons (.free rfl) .nil)))))), rowsZ_one rfl⟩, trivial⟩ trivial rfl rfl ?_
       exact ⟨(.ptr rfl), (.ptr rfl), (.ptr rfl), (.free rfl), trivial⟩
     ·rintro ⟨j3_0, h⟩
      replace h : s_Keep_j3 x1 x4 j3_0 = some r0 := h
      unfold s_Keep_j3 at h
      show Tri _ _ _ (inv_s_Keep_3 x1 x4 j3_0)
      refine tri_cond rfl (fun c14 => ?_) (fun c14 => ?_)
      ·replace h := cond_t h c14
       refine tri_sr ?_
       refine s_loadR rfl rfl rfl rfl ty43 rfl rfl rfl ?_
       refine bnd1_elim h fun x15 q16 h => ?_
       refine s_callN (kb := [(11, 1)]) (ns := []) (v := .sc (.int .i64 x15)) rfl rfl cl80 (ws_l15Oldest x1 x15 q16) rfl (.cons (relAggL (.cons (.free rfl) (.cons (lendL rfl (.head _) rfl mEntryV_free mEntryV_len) .nil))) .nil) trivial memNil .nil (fun _ _ => List.not_mem_nil) rfl trivial memNil rfl rfl rfl rfl rfl rfl ?_
       refine m2 ?_
       refine rt_nil ?_
       refine tri_draw mixed ?_
       refine s_buildSlice (rows' := List.map mEntryV ([] : List MEntry)) rfl rfl rfl sl41 zc32 rfl rfl rfl rfl rfl rfl rfl rfl rfl ?_
       refine s_fieldAddr rfl rfl fd43_1 rfl rfl rfl rfl ?_
       refine s_load rfl rfl rfl rfl ty41 rfl (.inr rfl) (by conv => lhs; whnf) rfl rfl rfl ?_
       refine m1 ?_
       refine grd_elim h fun g17 h => ?_
       refine s_sliceZ (a := ((0 : Nat) : Int)) (b := x15) rfl rfl rfl sl41 rfl rfl ⟨_, rfl⟩ g17 rfl rfl rfl ?_
       refine grd_elim h fun g18 h => ?_
       refine s_appL rfl rfl rfl sl41 zc32 rfl rfl rfl rfl rfl rfl (src_refV rfl (by first | omega | (simp only [List.length_set]; omega))) g18 rfl rfl ?_
       refine s_fieldAddr rfl rfl fd43_1 rfl rfl rfl rfl ?_
       refine s_load rfl rfl rfl rfl ty41 rfl (.inr rfl) (by conv => lhs; whnf) rfl rfl rfl ?_
       refine m1 ?_
       refine grd_elim h fun g19 h => ?_
       refine s_addI rfl rfl rfl rfl g19 rfl rfl rfl ?_
       refine grd_elim h fun g20 h => ?_
       refine s_sliceZ (a := x15 + 1) (b := (x1.l.length : Int)) rfl rfl rfl sl41 rfl ⟨_, rfl⟩ rfl g20 rfl rfl rfl ?_
       refine grd_elim h fun g21 h => ?_
       refine s_appL rfl rfl rfl sl41 zc32 rfl rfl rfl rfl rfl rfl (src_refV rfl (by first | omega | (simp only [List.length_set]; omega))) g21 rfl rfl ?_
       refine s_fieldAddr rfl rfl fd43_1 rfl rfl rfl rfl ?_
       refine s_store (rows' := [[.sc (.int .i64 x1.cap), .ref (80, 0) 0 (((([] : List MEntry) ++ ((x1.l.drop (0 + ((0 : Nat) : Int).toNat)).take (x15.toNat - ((0 : Nat) : Int).toNat))) ++ ((x1.l.drop (0 + (x15 + 1).toNat)).take ((x1.l.length : Int).toNat - (x15 + 1).toNat))).length)]]) rfl rfl rfl rfl ty41 rfl rfl rfl rfl rfl rfl ?_
       refine rt_nil ⟨by kernel_rfl, ?_⟩
       refine Exists.intro ⟨(([] : List MEntry) ++ ((x1.l.drop (0 + ((0 : Nat) : Int).toNat)).take (x15.toNat - ((0 : Nat) : Int).toNat))) ++ ((x1.l.drop (0 + (x15 + 1).toNat)).take ((x1.l.length : Int).toNat - (x15 + 1).toNat)), h⟩ ?_
       refine entX [((6, 0), ⟨43, 2, [[.sc (.int .i64 0), .nils]], false, true⟩, some (6, 0)), ((7, 0), ⟨43, 2, [[.sc (.int .i64 x1.cap), .ref (2007, 2) 0 ((([] : List MEntry) ++ ((x1.l.drop (0 + ((0 : Nat) : Int).toNat)).take (x15.toNat - ((0 : Nat) : Int).toNat))) ++ ((x1.l.drop (0 + (x15 + 1).toNat)).take ((x1.l.length : Int).toNat - (x15 + 1).toNat))).length]], false, true⟩, some (7, 0)), ((2007, 2), ⟨32, 6, List.map mEntryV ((([] : List MEntry) ++ ((x1.l.drop (0 + ((0 : Nat) : Int).toNat)).take (x15.toNat - ((0 : Nat) : Int).toNat))) ++ ((x1.l.drop (0 + (x15 + 1).toNat)).take ((x1.l.length : Int).toNat - (x15 + 1).toNat))), false, true⟩, some (80, 0)), ((8, 0), ⟨32, 6, [[.sc (.string x4.q.name), .sc (.int .i64 x4.q.ty), .sc (.int .i64 x4.kind), .lst 6 (List.map recV x4.l), .sc (.int .i64 x4.rank), .sc (.int .i64 x4.til)]], false, true⟩, some (8, 0))] [] ⟨⟨rfl, _, rfl, rfl, rfl, rfl, id, rowsCv_one (.cons (.free rfl) (.cons (.free rfl) .nil)), rowsZ_one rfl⟩, ⟨rfl, _, rfl, rfl, rfl, rfl, id, rowsCv_one (.cons (.free rfl) (.cons (.ref rfl) .nil)), rowsZ_one rfl⟩, ⟨rfl, _, rfl, rfl, rfl, rfl, id, rowsCv_eq rfl (allFree_map mEntryV_free), rowsZ_map mEntryV_len⟩, ⟨rfl, _, rfl, rfl, rfl, rfl, id, rowsCv_one (.cons (.free rfl) (.cons (.free rfl) (.cons (.free rfl) (.cons (.free rfl) (.cons (.free rfl) (.cons (.free rfl) .nil)))))), rowsZ_one rfl⟩, trivial⟩ trivial rfl rfl ?_
       exact ⟨(.ptr rfl), (.ptr rfl), (.ptr rfl), trivial⟩
      ·replace h := cond_f h c14
       refine tri_skip ?_
       refine Exists.intro ⟨x1.l, h⟩ ?_
       refine entX [((6, 0), ⟨43, 2, [[.sc (.int .i64 0), .nils]], false, true⟩, some (6, 0)), ((7, 0), ⟨43, 2, [[.sc (.int .i64 x1.cap), .ref (2007, 2) 0 x1.l.length]], false, true⟩, some (7, 0)), ((2007, 2), ⟨32, 6, List.map mEntryV x1.l, false, true⟩, some (11, 1)), ((8, 0), ⟨32, 6, [[.sc (.string x4.q.name), .sc (.int .i64 x4.q.ty), .sc (.int .i64 x4.kind), .lst 6 (List.map recV x4.l), .sc (.int .i64 x4.rank), .sc (.int .i64 x4.til)]], false, true⟩, some (8, 0))] [] ⟨⟨rfl, _, rfl, rfl, rfl, rfl, id, rowsCv_one (.cons (.free rfl) (.cons (.free rfl) .nil)), rowsZ_one rfl⟩, ⟨rfl, _, rfl, rfl, rfl, rfl, id, rowsCv_one (.cons (.free rfl) (.cons (.ref rfl) .nil)), rowsZ_one rfl⟩, ⟨rfl, _, rfl, rfl, rfl, rfl, id, rowsCv_eq rfl (allFree_map mEntryV_free), rowsZ_map mEntryV_len⟩, ⟨rfl, _, rfl, rfl, rfl, rfl, id, rowsCv_one (.cons (.free rfl) (.cons (.free rfl) (.cons (.free rfl) (.cons (.free rfl) (.cons (.free rfl) (.cons (.free rfl) .nil)))))), rowsZ_one rfl⟩, trivial⟩ trivial rfl rfl ?_
       exact ⟨(.ptr rfl), (.ptr rfl), (.ptr rfl), trivial⟩
    ·rintro ⟨j2_0, h⟩
     replace h : s_Keep_j2 x1 x4 j2_0 = some r0 := h
     unfold s_Keep_j2 at h
     show Tri _ _ _ (inv_s_Keep_2 x1 x4 j2_0)
     refine tri_sr ?_
     refine s_fieldAddr rfl rfl fd43_1 rfl rfl rfl rfl ?_
     refine s_load rfl rfl rfl rfl ty41 rfl (.inr rfl) (by conv => lhs; whnf) rfl rfl rfl ?_
     refine s_loadR rfl rfl rfl rfl ty32 rfl rfl rfl ?_
     refine s_buildSlice (rows' := List.map mEntryV [x4]) rfl rfl rfl sl41 zc32 rfl rfl rfl rfl rfl rfl rfl rfl rfl ?_
     refine grd_elim h fun g14 h => ?_
     refine s_appL rfl rfl rfl sl41 zc32 rfl rfl rfl rfl rfl rfl (src_refL rfl rfl) g14 rfl rfl ?_
     refine s_fieldAddr rfl rfl fd43_1 rfl rfl rfl rfl ?_
     refine s_store (rows' := [[.sc (.int .i64 x1.cap), .ref (86, 0) 0 ((j2_0 ++ [x4]).length)]]) rfl rfl rfl rfl ty41 rfl rfl rfl rfl rfl rfl ?_
     refine rt_nil ?_
     refine tri_sr ?_
     refine s_loadR rfl rfl rfl rfl ty43 rfl rfl rfl ?_
     refine s_storeB rfl rfl rfl ty43 rfl rfl rfl rfl rfl ?_
     refine rt_nil ?_
     refine tri_ret ?_
     have e0 := (some1 h); subst e0
     exact endY (v' := .agg [.sc (.int .i64 x1.cap), .ref (2000, 1) 0 ((j2_0 ++ [x4]).length)]) [((2000, 1), ⟨32, 6, List.map mEntryV (j2_0 ++ [x4]), false, true⟩, some (86, 0))] [] (rvC (resCell rfl rfl ty43) rvN) ⟨⟨rfl, _, rfl, rfl, rfl, rfl, id, rowsCv_eq rfl (allFree_map mEntryV_free), rowsZ_map mEntryV_len⟩, trivial⟩ trivial rfl rfl (by kernel_rfl) (by simp only [V.mat, V.mat1, V.mat0, matL, matT, List.length_map] <;> rfl) (CvL.agg (.cons (.free rfl) (.cons (by show Cv _ _ _ _ (.ref (86, 0) 0 ((j2_0 ++ [x4]).length)) (.ref (2000, 1) 0 ((j2_0 ++ [x4]).length)); exact .ref rfl) .nil)))

/- impl.Record] -/

set_option maxRecDepth 4000 in
set_option maxHeartbeats 800000 in
theorem wslices_Clone_Record (p0 : List Rec) (r0 : List Rec) (h : slices_Clone_Record p0 = some r0) : Runs Tryd.prog 105 [.lst 6 (List.map recV p0)] [] (.own 60 6 (List.map recV r0)) [] := by
 unfold slices_Clone_Record at h
 refine runsR [.tmp 2] Tryd.func105 rfl rfl rfl rfl ?_
 rw [Tryd.ntmps105]
 refine tri_sr ?_
 refine s_mv (.inr rfl) (v := .nils) rfl rfl rfl rfl ?_
 refine rt_nil ?_
 refine tri_seq ?_
 refine tri_seq ?_
 refine tri_isNil rfl (by conv => lhs; whnf) rfl rfl rfl rfl rfl slenL sl30 rfl rfl rfl (fun b1v b1 => ?_)
 refine tri_cond rfl (fun c2 => ?_) (fun c2 => ?_)
 ·obtain rfl : p0 = [] := List.eq_nil_of_length_eq_zero (b1 c2)
  refine tri_sr ?_
  refine s_mv (.inr rfl) (v := .nils) rfl rfl rfl rfl ?_
  refine rt_nil ?_
  refine tri_ret ?_
  replace h : some ([] : List Rec) = some r0 := by simpa [grd] using h
  have e0 := (some1 h); subst e0
  exact endY (v' := .ref (2000, 0) 0 (([] : List Rec).length)) [((2000, 0), ⟨60, 6, List.map recV ([] : List Rec), false, true⟩, none)] [] (rvC (resTmp rfl) rvN) ⟨rfl, trivial⟩ trivial rfl rfl (by kernel_rfl) (by simp only [V.mat, V.mat1, V.mat0, matL, matT, List.length_map] <;> rfl) (.nilRef rfl)
 ·skip
  refine tri_skip ?_
  refine tri_sr ?_
  refine s_buildSlice (rows' := List.map recV ([] : List Rec)) rfl rfl rfl sl30 zc60 rfl rfl rfl rfl rfl rfl rfl rfl rfl ?_
  refine m1 ?_
  refine grd_elim h fun g3 h => ?_
  refine s_appL rfl rfl rfl sl30 zc60 rfl rfl rfl rfl rfl rfl src_lst g3 rfl rfl ?_
  refine m2 ?_
  refine rt_nil ?_
  refine tri_ret ?_
  have e0 := (some1 h); subst e0
  exact endY (v' := .ref (2000, 0) 0 ((([] : List Rec) ++ p0).length)) [((2000, 0), ⟨60, 6, List.map recV (([] : List Rec) ++ p0), false, true⟩, some (7, 0))] [] (rvC (resTmp rfl) rvN) ⟨⟨rfl, _, rfl, rfl, rfl, rfl, id, rowsCv_eq rfl (allFree_map recV_free), rowsZ_map recV_len⟩, trivial⟩ trivial rfl rfl (by kernel_rfl) (by simp only [V.mat, V.mat1, V.mat0, matL, matT, List.length_map] <;> rfl) (.ref rfl)

/- impl.copyEntry -/

set_option maxRecDepth 4000 in
set_option maxHeartbeats 800000 in
theorem wi_copyEntry (p0 : MEntry) (r0 : MEntry) (h : i_copyEntry p0 = some r0) : Runs Tryd.prog 74 [.agg (mEntryV p0)] [] (.agg [.sc (.string r0.q.name), .sc (.int .i64 r0.q.ty), .sc (.int .i64 r0.kind), .own 60 6 (List.map recV r0.l), .sc (.int .i64 r0.rank), .sc (.int .i64 r0.til)]) [] := by
 unfold i_copyEntry at h
 refine runsR [.cell 2 32] Tryd.func74 rfl rfl rfl rfl ?_
 rw [Tryd.ntmps74]
 refine tri_sr ?_
 refine s_box rfl rfl rfl rfl rfl rfl rfl ?_
 refine s_alloc rfl rfl rfl zc32 rfl rfl rfl rfl rfl ?_
 refine rt_nil ?_
 refine tri_sr ?_
 refine s_fieldAddr rfl rfl fd32_2 rfl rfl rfl rfl ?_
 refine s_load rfl rfl rfl rfl ty30 rfl (.inr rfl) (by conv => lhs; whnf) rfl rfl rfl ?_
 refine bnd1_elim h fun x1 q2 h => ?_
 refine s_callN (kb := []) (ns := []) (v := .ref (5, 0) 0 x1.length) rfl rfl cl105 (wslices_Clone_Record p0.l x1 q2) rfl (.cons (.free rfl) .nil) trivial memNil .nil memNil rfl ⟨(allSc_map recV_sc), trivial⟩ memNil rfl (by simp only [V.mat, V.mat1, V.mat0, matL, matT, List.length_map] <;> rfl) rfl rfl rfl rfl ?_
 refine s_fieldAddr rfl rfl fd32_2 rfl rfl rfl rfl ?_
 refine s_store (rows' := [[.sc (.string p0.q.name), .sc (.int .i64 p0.q.ty), .sc (.int .i64 p0.kind), .ref (5, 0) 0 x1.length, .sc (.int .i64 p0.rank), .sc (.int .i64 p0.til)]]) rfl rfl rfl rfl ty30 rfl rfl rfl rfl rfl rfl ?_
 refine rt_nil ?_
 refine tri_sr ?_
 refine s_loadR rfl rfl rfl rfl ty32 rfl rfl rfl ?_
 refine s_storeB rfl rfl rfl ty32 rfl rfl rfl rfl rfl ?_
 refine rt_nil ?_
 refine tri_ret ?_
 have e0 := (some1 h); subst e0
 exact endY (v' := .agg [.sc (.string p0.q.name), .sc (.int .i64 p0.q.ty), .sc (.int .i64 p0.kind), .ref (2000, 3) 0 x1.length, .sc (.int .i64 p0.rank), .sc (.int .i64 p0.til)]) [((2000, 3), ⟨60, 6, List.map recV x1, false, true⟩, some (5, 0))] [] (rvC (resCell rfl rfl ty32) rvN) ⟨⟨rfl, _, rfl, rfl, rfl, rfl, id, rowsCv_eq rfl (allFree_map recV_free), rowsZ_map recV_len⟩, trivial⟩ trivial rfl rfl (by kernel_rfl) (by simp only [V.mat, V.mat1, V.mat0, matL, matT, List.length_map] <;> rfl) (CvL.agg (.cons (.free rfl) (.cons (.free rfl) (.cons (.free rfl) (.cons (.ref rfl) (.cons (.free rfl) (.cons (.free rfl) .nil)))))))

/- impl.copyCache -/
def inv_i_copyCache_0 (p0 : MCache) (v0_0 : List MEntry) (v0_1 : Nat) : St := mkT 25 [(2, .ptr (2, 0) 0 0), (3, .ptr (3, 0) 0 0), (10, .lst 6 (List.map mEntryV p0.l)), (11, .sc (.int .i64 (p0.l.length : Int))), (12, .sc (.int .i64 (v0_1 : Int)))] [((2, 0), some ⟨43, 2, [[.sc (.int .i64 0), .nils]], false, true⟩), ((3, 0), some ⟨43, 2, [[.sc (.int .i64 p0.cap), .ref (2003, 2) 0 v0_0.length]], false, true⟩), ((2003, 2), some ⟨32, 6, List.map mEntryV v0_0, false, true⟩)]
set_option maxRecDepth 4000 in
set_option maxHeartbeats 800000 in
theorem wi_copyCache (p0 : MCache) (r0 : MCache) (h : i_copyCache p0 = some r0) : Runs Tryd.prog 62 [.agg (mCacheV p0)] [] (.agg [.sc (.int .i64 r0.cap), .own 32 6 (List.map mEntryV r0.l)]) [] := by
 unfold i_copyCache at h
 refine runsR [.cell 2 43] Tryd.func62 rfl rfl rfl rfl ?_
 rw [Tryd.ntmps62]
 refine tri_sr ?_
 refine s_box rfl rfl rfl rfl rfl rfl rfl ?_
 refine s_alloc rfl rfl rfl zc43 rfl rfl rfl rfl rfl ?_
 refine rt_nil ?_
 refine tri_sr ?_
 refine s_fieldAddr rfl rfl fd43_0 rfl rfl rfl rfl ?_
 refine s_load rfl rfl rfl rfl ty3 rfl (.inr rfl) (by conv => lhs; whnf) rfl rfl rfl ?_
 refine s_build (cells' := [.sc (.int .i64 p0.cap), .nils]) rfl stc43 rfl rfl rfl rfl rfl rfl rfl ?_
 refine s_alloc rfl rfl rfl zc43 rfl rfl rfl rfl rfl ?_
 refine s_storeB rfl rfl rfl ty43 rfl rfl rfl rfl rfl ?_
 refine rt_nil ?_
 refine tri_seq ?_
 refine tri_sr ?_
 refine s_fieldAddr rfl rfl fd43_1 rfl rfl rfl rfl ?_
 refine s_load rfl rfl rfl rfl ty41 rfl (.inr rfl) (by conv => lhs; whnf) rfl rfl rfl ?_
 refine s_lenL rfl sl41 rfl rfl rfl rfl ?_
 refine s_mv (.inl rfl) (v := .sc (.int .i64 0)) rfl rfl rfl rfl ?_
 refine rt_nil ?_
 refine tri_block ?_
 refine tri_aggM 0 1 rfl rfl (fun hl0 => ?_)
 refine tri_loop (ι := { p : (List MEntry) × (List MEntry) × Nat // p0.l.drop p.2.2 = p.1 ∧ i_copyCache_l0 p0 p.1 p.2.1 p.2.2 = some r0 }) (fun p => inv_i_copyCache_0 p0 p.1.2.1 p.1.2.2) (fun p => p.1.1.length) ⟨(p0.l, ([] : List MEntry), 0), rfl, h⟩ ?_ ?_
 ·skip
  refine entX [((2, 0), ⟨43, 2, [[.sc (.int .i64 0), .nils]], false, true⟩, some (2, 0)), ((3, 0), ⟨43, 2, [[.sc (.int .i64 p0.cap), .ref (2003, 2) 0 ([] : List MEntry).length]], false, true⟩, some (3, 0)), ((2003, 2), ⟨32, 6, List.map mEntryV ([] : List MEntry), false, true⟩, none)] [] ⟨⟨rfl, _, rfl, rfl, rfl, rfl, id, rowsCv_one (.cons (.free rfl) (.cons (.free rfl) .nil)), rowsZ_one rfl⟩, ⟨rfl, _, rfl, rfl, rfl, rfl, id, rowsCv_one (.cons (.free rfl) (.cons (.nilRef rfl) .nil)), rowsZ_one rfl⟩, rfl, trivial⟩ trivial rfl rfl ?_
  exact ⟨(.ptr rfl), (.ptr rfl), (.free rfl), (.free rfl), (.free rfl), trivial⟩
 ·rintro ⟨⟨lrs0, v0_0, v0_1⟩, hd0, h⟩
  replace hd0 : p0.l.drop v0_1 = lrs0 := hd0
  replace h : i_copyCache_l0 p0 lrs0 v0_0 v0_1 = some r0 := h
  show Tri _ _ _ (inv_i_copyCache_0 p0 v0_0 v0_1)
  refine tri_sr ?_
  refine s_of (st_lss rfl rfl rfl) rfl rfl rfl rfl ?_
  refine rt_nil ?_
  refine tri_seq ?_
  refine tri_cond rfl (fun c1 => ?_) (fun c1 => ?_)
  ·refine drop_elim hd0 c1 fun e0 rs0 he hx0 hn0 => ?_
   subst he
   rw [i_copyCache_l0] at h
   refine tri_skip ?_
   refine tri_seq ?_
   refine tri_block ?_
   refine tri_sr ?_
   refine s_indexF (i := v0_1) rfl rfl rfl sl41 (get_ltM hx0) rfl rfl rfl ?_
   refine s_loadFR rfl rfl (rowG hx0) ty32 rfl rfl rfl ?_
   refine s_alloc rfl rfl rfl zc32 rfl rfl rfl rfl rfl ?_
   refine s_storeB rfl rfl rfl ty32 rfl rfl rfl rfl rfl ?_
   refine rt_nil ?_
   refine tri_draw mixed ?_
   refine s_fieldAddr rfl rfl fd43_1 rfl rfl rfl rfl ?_
   refine s_load rfl rfl rfl rfl ty41 rfl (.inr rfl) (by conv => lhs; whnf) rfl rfl rfl ?_
   refine s_loadR rfl rfl rfl rfl ty32 rfl rfl rfl ?_
   refine bnd1_elim h fun x2 q3 h => ?_
   refine s_callNF (kb := []) (ns := []) (v := .agg [.sc (.string x2.q.name), .sc (.int .i64 x2.q.ty), .sc (.int .i64 x2.kind), .ref (19, 3) 0 x2.l.length, .sc (.int .i64 x2.rank), .sc (.int .i64 x2.til)]) (D := [(19, 3)]) rfl rfl cl74 (wi_copyEntry e0 x2 q3) rfl (.cons (relAgg rfl) .nil) trivial memNil .nil memNil rfl ⟨(allSc_map recV_sc), trivial⟩ memNil rfl (by simp only [V.mat, V.mat1, V.mat0, matL, matT, List.length_map] <;> rfl) rfl ⟨⟨rfl, rfl, _, rfl, rfl⟩, trivial⟩ (relAggL (.cons (.free rfl) (.cons (.free rfl) (.cons (.free rfl) (.cons (lendL rfl (.head _) rfl recV_free recV_len) (.cons (.free rfl) (.cons (.free rfl) .nil))))))) rfl rfl rfl ?_
   refine s_buildSlice (rows' := List.map mEntryV [x2]) rfl rfl rfl sl41 zc32 rfl rfl rfl rfl rfl rfl rfl rfl rfl ?_
   refine grd_elim h fun g4 h => ?_
   refine s_appL rfl rfl rfl sl41 zc32 rfl rfl rfl rfl rfl rfl (src_refL rfl rfl) g4 rfl rfl ?_
   refine s_fieldAddr rfl rfl fd43_1 rfl rfl rfl rfl ?_
   refine s_store (rows' := [[.sc (.int .i64 p0.cap), .ref (21, 0) 0 ((v0_0 ++ [x2]).length)]]) rfl rfl rfl rfl ty41 rfl rfl rfl rfl rfl rfl ?_
   refine rt_nil ⟨by kernel_rfl, ?_⟩
   refine tri_region ?_
   refine s_inc (a := v0_1) (b := 1) rfl rfl rfl rfl (by have := get_lt hx0; have := hl0; omega) rfl rfl rfl ?_
   refine m1 ?_
   refine rt_nil ?_
   refine Exists.intro ⟨(rs0, v0_0 ++ [x2], (v0_1 + 1)), hn0, h⟩ (And.intro (Nat.lt_succ_self _) ?_)
   refine entX [((2, 0), ⟨43, 2, [[.sc (.int .i64 0), .nils]], false, true⟩, some (2, 0)), ((3, 0), ⟨43, 2, [[.sc (.int .i64 p0.cap), .ref (2003, 2) 0 (v0_0 ++ [x2]).length]], false, true⟩, some (3, 0)), ((2003, 2), ⟨32, 6, List.map mEntryV (v0_0 ++ [x2]), false, true⟩, some (21, 0))] [] ⟨⟨rfl, _, rfl, rfl, rfl, rfl, id, rowsCv_one (.cons (.free rfl) (.cons (.free rfl) .nil)), rowsZ_one rfl⟩, ⟨rfl, _, rfl, rfl, rfl, rfl, id, rowsCv_one (.cons (.free rfl) (.cons (.ref rfl) .nil)), rowsZ_one rfl⟩, ⟨rfl, _, rfl, rfl, rfl, rfl, id, rowsCv_eq rfl (allFree_map mEntryV_free), rowsZ_map mEntryV_len⟩, trivial⟩ trivial rfl rfl ?_
   exact ⟨(.ptr rfl), (.ptr rfl), (.free rfl), (.free rfl), (.free rfl), trivial⟩
  ·have he := drop_f hd0 c1; subst he
   rw [i_copyCache_l0] at h
   refine tri_exit ?_
   refine tri_sr ?_
   refine s_loadR rfl rfl rfl rfl ty43 rfl rfl rfl ?_
   refine s_storeB rfl rfl rfl ty43 rfl rfl rfl rfl rfl ?_
   refine rt_nil ?_
   refine tri_ret ?_
   have e0 := (some1 h); subst e0
   exact endY (v' := .agg [.sc (.int .i64 p0.cap), .ref (2000, 1) 0 v0_0.length]) [((2000, 1), ⟨32, 6, List.map mEntryV v0_0, false, true⟩, some (2003, 2))] [] (rvC (resCell rfl rfl ty43) rvN) ⟨⟨rfl, _, rfl, rfl, rfl, rfl, id, rowsCv_eq rfl (allFree_map mEntryV_free), rowsZ_map mEntryV_len⟩, trivial⟩ trivial rfl rfl (by kernel_rfl) (by simp only [V.mat, V.mat1, V.mat0, matL, matT, List.length_map] <;> rfl) (CvL.agg (.cons (.free rfl) (.cons (.ref rfl) .nil)))
def invR_i_copyCache_0 (p0 : MCache) (v0_0 : List MEntry) (v0_1 : Nat) : St := mkT 25 [(2, .ptr (2, 0) 0 0), (3, .ptr (3, 0) 0 0), (10, .lst 6 (List.map mEntryV p0.l)), (11, .sc (.int .i64 (p0.l.length : Int))), (12, .sc (.int .i64 (v0_1 : Int)))] ([((2, 0), some ⟨43, 2, [[.sc (.int .i64 0), .nils]], false, true⟩), ((3, 0), some ⟨43, 2, [[.sc (.int .i64 p0.cap), .ref (2003, 2) 0 v0_0.length]], false, true⟩), ((2003, 2), some ⟨32, 6, nr 3000 mEntryN 0 v0_0, false, true⟩)] ++ (fam 3000 0 (List.map mEntryG v0_0) ++ []))
set_option maxRecDepth 4000 in
set_option maxHeartbeats 800000 in
theorem wRi_copyCache (p0 : MCache) (r0 : MCache) (h : i_copyCache p0 = some r0) : RunsG Tryd.prog 62 [.agg (mCacheV p0)] [] (.agg [.sc (.int .i64 r0.cap), .ref (2000, 1) 0 r0.l.length]) ([(1, ⟨32, 6, nr 2000 mEntryN 10000 r0.l, false, true⟩)] ++ famO 10000 (List.map mEntryG r0.l)) [] := by
 unfold i_copyCache at h
 refine runsG [.cell 2 43] Tryd.func62 rfl rfl rfl rfl ?_
 rw [Tryd.ntmps62]
 refine tri_sr ?_
 refine s_box rfl rfl rfl rfl rfl rfl rfl ?_
 refine s_alloc rfl rfl rfl zc43 rfl rfl rfl rfl rfl ?_
 refine rt_nil ?_
 refine tri_sr ?_
 refine s_fieldAddr rfl rfl fd43_0 rfl rfl rfl rfl ?_
 refine s_load rfl rfl rfl rfl ty3 rfl (.inr rfl) (by conv => lhs; whnf) rfl rfl rfl ?_
 refine s_build (cells' := [.sc (.int .i64 p0.cap), .nils]) rfl stc43 rfl rfl rfl rfl rfl rfl rfl ?_
 refine s_alloc rfl rfl rfl zc43 rfl rfl rfl rfl rfl ?_
 refine s_storeB rfl rfl rfl ty43 rfl rfl rfl rfl rfl ?_
 refine rt_nil ?_
 refine tri_seq ?_
 refine tri_sr ?_
 refine s_fieldAddr rfl rfl fd43_1 rfl rfl rfl rfl ?_
 refine s_load rfl rfl rfl rfl ty41 rfl (.inr rfl) (by conv => lhs; whnf) rfl rfl rfl ?_
 refine s_lenL rfl sl41 rfl rfl rfl rfl ?_
 refine s_mv (.inl rfl) (v := .sc (.int .i64 0)) rfl rfl rfl rfl ?_
 refine rt_nil ?_
 refine tri_block ?_
 refine tri_aggM 0 1 rfl rfl (fun hl0 => ?_)
 refine tri_loop (ι := { p : (List MEntry) × (List MEntry) × Nat // p0.l.drop p.2.2 = p.1 ∧ i_copyCache_l0 p0 p.1 p.2.1 p.2.2 = some r0 }) (fun p => invR_i_copyCache_0 p0 p.1.2.1 p.1.2.2) (fun p => p.1.1.length) ⟨(p0.l, ([] : List MEntry), 0), rfl, h⟩ ?_ ?_
 ·skip
  refine entQ (a := 3000) (b := 0) (l := []) (g := mEntryG) (items := [((2, 0), ⟨43, 2, [[.sc (.int .i64 0), .nils]], false, true⟩, some (2, 0)), ((3, 0), ⟨43, 2, [[.sc (.int .i64 p0.cap), .ref (2003, 2) 0 ([] : List MEntry).length]], false, true⟩, some (3, 0)), ((2003, 2), ⟨32, 6, nr 3000 mEntryN 0 ([] : List MEntry), false, true⟩, none)]) (D := []) [] rfl ⟨⟨rfl, _, rfl, rfl, rfl, rfl, id, rowsCv_one (.cons (.free rfl) (.cons (.free rfl) .nil)), rowsZ_one rfl⟩, ⟨rfl, _, rfl, rfl, rfl, rfl, id, rowsCv_one (.cons (.free rfl) (.cons (.nilRef rfl) .nil)), rowsZ_one rfl⟩, rfl, trivial⟩ trivial rfl (fun p hp => by cases hp) .nil mEntryG_f mEntryG_z rfl (fun j => (by repeat (first | exact rfl | exact famNo rfl rfl | refine lkNo rfl ?_))) ?_
  exact ⟨(.ptr rfl), (.ptr rfl), (.free rfl), (.free rfl), (.free rfl), trivial⟩
 ·rintro ⟨⟨lrs0, v0_0, v0_1⟩, hd0, h⟩
  replace hd0 : p0.l.drop v0_1 = lrs0 := hd0
  replace h : i_copyCache_l0 p0 lrs0 v0_0 v0_1 = some r0 := h
  show Tri _ _ _ (invR_i_copyCache_0 p0 v0_0 v0_1)
  refine tri_sr ?_
  refine s_of (st_lss rfl rfl rfl) rfl rfl rfl rfl ?_
  refine rt_nil ?_
  refine tri_seq ?_
  refine tri_cond rfl (fun c1 => ?_) (fun c1 => ?_)
  ·refine drop_elim hd0 c1 fun e0 rs0 he hx0 hn0 => ?_
   subst he
   rw [i_copyCache_l0] at h
   refine tri_skip ?_
   refine tri_seq ?_
   refine tri_block ?_
   refine tri_sr ?_
   refine s_indexF (i := v0_1) rfl rfl rfl sl41 (get_ltM hx0) rfl rfl rfl ?_
   refine s_loadFR rfl rfl (rowG hx0) ty32 rfl rfl rfl ?_
   refine s_alloc rfl rfl (by repeat (first | exact rfl | exact famNo rfl rfl | refine lkNo rfl ?_)) zc32 rfl rfl rfl rfl rfl ?_
   refine s_storeB rfl rfl rfl ty32 rfl rfl rfl rfl rfl ?_
   refine rt_nil ?_
   refine tri_draw mixed ?_
   refine s_fieldAddr rfl rfl fd43_1 rfl rfl rfl rfl ?_
   refine s_load rfl rfl rfl rfl ty41 rfl (.inr rfl) (by conv => lhs; whnf) rfl rfl rfl ?_
   refine s_loadR rfl rfl rfl rfl ty32 rfl rfl rfl ?_
   refine bnd1_elim h fun x2 q3 h => ?_
   refine s_callN (kb := []) (ns := []) (v := .agg [.sc (.string x2.q.name), .sc (.int .i64 x2.q.ty), .sc (.int .i64 x2.kind), .ref (19, 3) 0 x2.l.length, .sc (.int .i64 x2.rank), .sc (.int .i64 x2.til)]) rfl rfl cl74 (wi_copyEntry e0 x2 q3) rfl (.cons (relAgg rfl) .nil) trivial memNil .nil memNil rfl ⟨(allSc_map recV_sc), trivial⟩ memNil (habC (by repeat (first | exact rfl | exact famNo rfl rfl | refine lkNo rfl ?_)) habN) (by simp only [V.mat, V.mat1, V.mat0, matL, matT, List.length_map] <;> rfl) rfl rfl rfl rfl ?_
   refine s_buildSlice (rows' := [mEntryN (19, 3) x2]) rfl rfl (by repeat (first | exact rfl | exact famNo rfl rfl | refine lkNo rfl ?_)) sl41 zc32 rfl rfl rfl rfl rfl rfl rfl rfl rfl ?_
   refine grd_elim h fun g4 h => ?_
   refine s_append (len := (v0_0 ++ [x2]).length) rfl rfl (by repeat (first | exact rfl | exact famNo rfl rfl | refine lkNo rfl ?_)) sl41 zc32 rfl rfl rfl rfl rfl (by rw [nr_len]) (src_ref rfl rfl rfl) (by simp) g4 rfl rfl ?_
   refine s_fieldAddr rfl rfl fd43_1 rfl rfl rfl rfl ?_
   refine s_store (rows' := [[.sc (.int .i64 p0.cap), .ref (21, 0) 0 ((v0_0 ++ [x2]).length)]]) rfl rfl rfl rfl ty41 rfl rfl rfl rfl rfl rfl ?_
   refine rt_nil ⟨by kernel_rfl, ?_⟩
   refine tri_region ?_
   refine s_inc (a := v0_1) (b := 1) rfl rfl rfl rfl (by have := get_lt hx0; have := hl0; omega) rfl rfl rfl ?_
   refine m1 ?_
   refine rt_nil ?_
   refine Exists.intro ⟨(rs0, v0_0 ++ [x2], (v0_1 + 1)), hn0, h⟩ (And.intro (Nat.lt_succ_self _) ?_)
   refine entQ (a := 3000) (b := 0) (l := (v0_0 ++ [x2])) (g := mEntryG) (items := [((2, 0), ⟨43, 2, [[.sc (.int .i64 0), .nils]], false, true⟩, some (2, 0)), ((3, 0), ⟨43, 2, [[.sc (.int .i64 p0.cap), .ref (2003, 2) 0 (v0_0 ++ [x2]).length]], false, true⟩, some (3, 0)), ((2003, 2), ⟨32, 6, nr 3000 mEntryN 0 (v0_0 ++ [x2]), false, true⟩, some (21, 0))]) (D := []) (nmP 3000 0 v0_0 ++ [((19, 3), x2)]) (by rw [List.map_append, nmP_snd]; rfl) ⟨⟨rfl, _, rfl, rfl, rfl, rfl, id, rowsCv_one (.cons (.free rfl) (.cons (.free rfl) .nil)), rowsZ_one rfl⟩, ⟨rfl, _, rfl, rfl, rfl, rfl, id, rowsCv_one (.cons (.free rfl) (.cons (.ref rfl) .nil)), rowsZ_one rfl⟩, ⟨rfl, _, rfl, rfl, rfl, rfl, id, rowsCv_q (by rw [List.map_append, nmP_snd]; rfl) (by rw [List.map_append, ← nmP_rows]; rfl) (fun x h => mEntryN_cv x h), nr_rowsZ mEntryN_z⟩, trivial⟩ trivial rfl (nmOk_app (fun p hp => nmOk_fam (fun j y hy => (by repeat (first | exact fam_lk (by rw [List.getElem?_map, hy]; rfl) | refine lkTo rfl ?_))) rfl rfl (nmP_mem hp)) (nmOk_one rfl rfl rfl)) (nd_app (by rw [nmP_fst]; exact famN_nodup _ _ _) (fun p hp => nm_ne rfl (nmP_mem hp))) mEntryG_f mEntryG_z rfl (fun j => (by repeat (first | exact rfl | exact famNo rfl rfl | refine lkNo rfl ?_))) ?_
   exact ⟨(.ptr rfl), (.ptr rfl), (.free rfl), (.free rfl), (.free rfl), trivial⟩
  ·have he := drop_f hd0 c1; subst he
   rw [i_copyCache_l0] at h
   refine tri_exit ?_
   refine tri_sr ?_
   refine s_loadR rfl rfl rfl rfl ty43 rfl rfl rfl ?_
   refine s_storeB rfl rfl rfl ty43 rfl rfl rfl rfl rfl ?_
   refine rt_nil ?_
   refine tri_ret ?_
   have e0 := (some1 h); subst e0
   exact nest_endQ (g := mEntryG) (l := v0_0) [((2000, 1), ⟨32, 6, nr 2000 mEntryN 10000 v0_0, false, true⟩, some (2003, 2))] [(1, ⟨32, 6, nr 2000 mEntryN 10000 v0_0, false, true⟩)] (nmP 3000 0 v0_0) nmP_snd (rvC (resCell rfl rfl ty43) rvN) ⟨⟨rfl, _, rfl, rfl, rfl, rfl, id, rowsCv_q nmP_snd nmP_rows (fun x h => mEntryN_cv x h), nr_rowsZ mEntryN_z⟩, trivial⟩ rfl (fun p hp => nmOk_fam (fun j y hy => (by repeat (first | exact fam_lk (by rw [List.getElem?_map, hy]; rfl) | refine lkTo rfl ?_))) rfl rfl (nmP_mem hp)) (by rw [nmP_fst]; exact famN_nodup _ _ _) (fun _ => rfl) rfl mEntryG_f mEntryG_z (fun j => (by repeat (first | exact rfl | exact famNo rfl rfl | refine lkNo rfl ?_))) rfl (CvL.agg (.cons (.free rfl) (.cons (.ref rfl) .nil)))

/- stringslite.IndexByte -/

set_option maxRecDepth 4000 in
set_option maxHeartbeats 800000 in
theorem winternal_stringslite_IndexByte (p0 : ByteArray) (p1 : Int) (r0 : Int) (h : internal_stringslite_IndexByte p0 p1 = some r0) : Runs Tryd.prog 133 [.sc (.string p0), .sc (.int .u8 p1)] [] (.sc (.int .i64 r0)) [] := by
 unfold internal_stringslite_IndexByte at h
 refine runsR [.tmp 4] Tryd.func133 rfl rfl rfl rfl ?_
 rw [Tryd.ntmps133]
 refine tri_sr ?_
 refine s_mv (.inr rfl) (v := .sc (.int .i64 0)) rfl rfl rfl rfl ?_
 refine rt_nil ?_
 refine tri_sr ?_
 refine m1 ?_
 refine m1 ?_
 refine s_idxByteString rfl rfl rfl Tryd.func137 (by kernel_rfl) (by kernel_rfl) (by kernel_rfl) (by kernel_rfl) rfl rfl rfl ?_
 refine m2 ?_
 refine rt_nil ?_
 refine tri_ret ?_
 have e0 := (some1 h); subst e0
 exact endY [] [] (rvC (resTmp rfl) rvN) trivial trivial rfl rfl rfl rfl (.free rfl)

end Go.Abs.M
