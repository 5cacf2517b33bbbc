/- Walks of the functions that the law of Fits reaches: what each of them computes, where its pure function does not fail. -/
import Derived.Test.YtainnoaellcpdaaGreatDoorFnsFits
import Derived.Test.YtainnoaellcpdaaGreatDoorChecked
import Derived.Test.YtainnoaellcpdaaGreatDoorShelf
set_option linter.unusedSimpArgs false
set_option linter.unusedVariables false
namespace Go.Abs.M
open Go Go.Abs Go.Proofs
theorem byt22 : isBytes Tryz.prog 22 = some 5 := by kernel_rfl
theorem cl102 : callable Tryz.prog 102 = true := by kernel_rfl
theorem cl103 : callable Tryz.prog 103 = true := by kernel_rfl
theorem cl119 : callable Tryz.prog 119 = true := by kernel_rfl
theorem cl120 : callable Tryz.prog 120 = true := by kernel_rfl
theorem cl121 : callable Tryz.prog 121 = true := by kernel_rfl
theorem cl130 : callable Tryz.prog 130 = true := by kernel_rfl
theorem cl138 : callable Tryz.prog 138 = true := by kernel_rfl
theorem cl139 : callable Tryz.prog 139 = true := by kernel_rfl
theorem cl142 : callable Tryz.prog 142 = true := by kernel_rfl
theorem cl43 : callable Tryz.prog 43 = true := by kernel_rfl
theorem cl47 : callable Tryz.prog 47 = true := by kernel_rfl
theorem cl56 : callable Tryz.prog 56 = true := by kernel_rfl
theorem cl58 : callable Tryz.prog 58 = true := by kernel_rfl
theorem cl62 : callable Tryz.prog 62 = true := by kernel_rfl
theorem cl63 : callable Tryz.prog 63 = true := by kernel_rfl
theorem cl64 : callable Tryz.prog 64 = true := by kernel_rfl
theorem cl65 : callable Tryz.prog 65 = true := by kernel_rfl
theorem cl82 : callable Tryz.prog 82 = true := by kernel_rfl
theorem cl83 : callable Tryz.prog 83 = true := by kernel_rfl
theorem cl84 : callable Tryz.prog 84 = true := by kernel_rfl
theorem cl85 : callable Tryz.prog 85 = true := by kernel_rfl
theorem cl86 : callable Tryz.prog 86 = true := by kernel_rfl
theorem cl87 : callable Tryz.prog 87 = true := by kernel_rfl
theorem cl88 : callable Tryz.prog 88 = true := by kernel_rfl
theorem cl96 : callable Tryz.prog 96 = true := by kernel_rfl
theorem cl97 : callable Tryz.prog 97 = true := by kernel_rfl
theorem fd109_0 : fldTy Tryz.prog 109 0 = some (0, 0 + 1, false) := by kernel_rfl
theorem fd109_1 : fldTy Tryz.prog 109 1 = some (1, 0 + 1, false) := by kernel_rfl
theorem fd109_2 : fldTy Tryz.prog 109 2 = some (2, 0 + 1, false) := by kernel_rfl
theorem fd109_3 : fldTy Tryz.prog 109 3 = some (3, 0 + 1, false) := by kernel_rfl
theorem fd109_4 : fldTy Tryz.prog 109 4 = some (4, 0 + 1, false) := by kernel_rfl
theorem fd109_5 : fldTy Tryz.prog 109 5 = some (5, 0 + 1, false) := by kernel_rfl
theorem fd25_0 : fldTy Tryz.prog 25 0 = some (0, 0 + 1, false) := by kernel_rfl
theorem fd25_1 : fldTy Tryz.prog 25 1 = some (1, 0 + 1, false) := by kernel_rfl
theorem fd28_0 : fldTy Tryz.prog 28 0 = some (0, 0 + 1, false) := by kernel_rfl
theorem fd28_1 : fldTy Tryz.prog 28 1 = some (1, 0 + 1, false) := by kernel_rfl
theorem fd28_10 : fldTy Tryz.prog 28 10 = some (11, 0 + 1, false) := by kernel_rfl
theorem fd28_2 : fldTy Tryz.prog 28 2 = some (2, 0 + 1, false) := by kernel_rfl
theorem fd28_3 : fldTy Tryz.prog 28 3 = some (3, 0 + 1, false) := by kernel_rfl
theorem fd28_4 : fldTy Tryz.prog 28 4 = some (4, 0 + 1, false) := by kernel_rfl
theorem fd28_5 : fldTy Tryz.prog 28 5 = some (5, 0 + 1, false) := by kernel_rfl
theorem fd28_6 : fldTy Tryz.prog 28 6 = some (6, 0 + 1, false) := by kernel_rfl
theorem fd28_7 : fldTy Tryz.prog 28 7 = some (7, 1 + 1, true) := by kernel_rfl
theorem fd28_8 : fldTy Tryz.prog 28 8 = some (9, 0 + 1, false) := by kernel_rfl
theorem fd28_9 : fldTy Tryz.prog 28 9 = some (10, 0 + 1, false) := by kernel_rfl
theorem fd44_0 : fldTy Tryz.prog 44 0 = some (0, 0 + 1, false) := by kernel_rfl
theorem fd44_1 : fldTy Tryz.prog 44 1 = some (1, 0 + 1, false) := by kernel_rfl
theorem fd47_0 : fldTy Tryz.prog 47 0 = some (0, 0 + 1, false) := by kernel_rfl
theorem fd47_1 : fldTy Tryz.prog 47 1 = some (1, 0 + 1, false) := by kernel_rfl
theorem fd47_10 : fldTy Tryz.prog 47 10 = some (11, 0 + 1, false) := by kernel_rfl
theorem fd47_2 : fldTy Tryz.prog 47 2 = some (2, 0 + 1, false) := by kernel_rfl
theorem fd47_3 : fldTy Tryz.prog 47 3 = some (3, 0 + 1, false) := by kernel_rfl
theorem fd47_4 : fldTy Tryz.prog 47 4 = some (4, 0 + 1, false) := by kernel_rfl
theorem fd47_5 : fldTy Tryz.prog 47 5 = some (5, 0 + 1, false) := by kernel_rfl
theorem fd47_6 : fldTy Tryz.prog 47 6 = some (6, 0 + 1, false) := by kernel_rfl
theorem fd47_7 : fldTy Tryz.prog 47 7 = some (7, 1 + 1, true) := by kernel_rfl
theorem fd47_8 : fldTy Tryz.prog 47 8 = some (9, 0 + 1, false) := by kernel_rfl
theorem fd47_9 : fldTy Tryz.prog 47 9 = some (10, 0 + 1, false) := by kernel_rfl
theorem fd87_0 : fldTy Tryz.prog 87 0 = some (0, 0 + 1, false) := by kernel_rfl
theorem fd87_1 : fldTy Tryz.prog 87 1 = some (1, 0 + 1, false) := by kernel_rfl
theorem fd87_2 : fldTy Tryz.prog 87 2 = some (2, 0 + 1, false) := by kernel_rfl
theorem fd87_3 : fldTy Tryz.prog 87 3 = some (3, 0 + 1, false) := by kernel_rfl
theorem fd87_4 : fldTy Tryz.prog 87 4 = some (4, 0 + 1, false) := by kernel_rfl
theorem fd87_5 : fldTy Tryz.prog 87 5 = some (5, 0 + 1, false) := by kernel_rfl
theorem ik3 : intK Tryz.prog 3 = some .i64 := by kernel_rfl
theorem ik5 : intK Tryz.prog 5 = some .u8 := by kernel_rfl
theorem iss9 : isStr Tryz.prog 9 = true := by kernel_rfl
theorem sl22 : slTy Tryz.prog 22 = some (5, 1, 1) := by kernel_rfl
theorem sl26 : slTy Tryz.prog 26 = some (87, 6, 72) := by kernel_rfl
theorem sl45 : slTy Tryz.prog 45 = some (109, 6, 72) := by kernel_rfl
theorem sl91 : slTy Tryz.prog 91 = some (9, 1, 16) := by kernel_rfl
theorem ty109 : tyK Tryz.prog 109 = some (true, 6) := by kernel_rfl
theorem ty25 : tyK Tryz.prog 25 = some (true, 2) := by kernel_rfl
theorem ty26 : tyK Tryz.prog 26 = some (false, 1) := by kernel_rfl
theorem ty28 : tyK Tryz.prog 28 = some (true, 12) := by kernel_rfl
theorem ty3 : tyK Tryz.prog 3 = some (false, 1) := by kernel_rfl
theorem ty4 : tyK Tryz.prog 4 = some (false, 1) := by kernel_rfl
theorem ty44 : tyK Tryz.prog 44 = some (true, 2) := by kernel_rfl
theorem ty45 : tyK Tryz.prog 45 = some (false, 1) := by kernel_rfl
theorem ty5 : tyK Tryz.prog 5 = some (false, 1) := by kernel_rfl
theorem ty87 : tyK Tryz.prog 87 = some (true, 6) := by kernel_rfl
theorem ty9 : tyK Tryz.prog 9 = some (false, 1) := by kernel_rfl
theorem zc25 : zeroC Tryz.prog 25 = some [.string ⟨#[]⟩, .int .i64 0] := by kernel_rfl
theorem zc28 : zeroC Tryz.prog 28 = some [.int .i64 0, .bool false, .bool false, .bool false, .bool false, .bool false, .int .i64 0, .string ⟨#[]⟩, .int .i64 0, .slice none 0 0, .slice none 0 0, .slice none 0 0] := by kernel_rfl
theorem zc5 : zeroC Tryz.prog 5 = some [.int .u8 0] := by kernel_rfl
theorem zc87 : zeroC Tryz.prog 87 = some [.string ⟨#[]⟩, .int .i64 0, .int .i64 0, .int .i64 0, .string ⟨#[]⟩, .string ⟨#[]⟩] := by kernel_rfl
theorem zc9 : zeroC Tryz.prog 9 = some [.string ⟨#[]⟩] := by kernel_rfl
theorem mixed : Tryz.prog.follows .mixedOrders = true := by kernel_rfl
/- laws.szQuest -/

set_option maxRecDepth 4000 in
set_option maxHeartbeats 800000 in
theorem ww_szQuest (p0 : Quest) (p1 : Int) (r0 : Int) (h : w_szQuest p0 p1 = some r0) : Runs Tryz.prog 62 [.agg (questV p0), .sc (.int .i64 p1)] [] (.sc (.int .i64 r0)) [] := by
 unfold w_szQuest at h
 refine runsR [.tmp 4] Tryz.func62 rfl rfl rfl rfl ?_
 rw [Tryz.ntmps62]
 refine tri_sr ?_
 refine s_box rfl rfl rfl rfl rfl rfl rfl ?_
 refine s_mv (.inr rfl) (v := .sc (.int .i64 0)) rfl rfl rfl rfl ?_
 refine rt_nil ?_
 refine tri_sr ?_
 refine m1 ?_
 refine s_fieldAddr rfl rfl fd44_0 rfl rfl rfl rfl ?_
 refine s_load rfl rfl rfl rfl ty9 rfl (.inr rfl) (by conv => lhs; whnf) rfl rfl rfl ?_
 refine s_of (st_lenS rfl rfl iss9) rfl rfl rfl rfl ?_
 refine grd_elim h fun g1 h => ?_
 refine s_subI rfl rfl rfl rfl g1 rfl rfl rfl ?_
 refine m2 ?_
 refine rt_nil ?_
 refine tri_seq ?_
 refine tri_sr ?_
 refine m1 ?_
 refine s_of (st_lss rfl rfl rfl) rfl rfl rfl rfl ?_
 refine rt_nil ?_
 refine tri_cond rfl (fun c2 => ?_) (fun c2 => ?_)
 ·replace h := cond_t h c2
  refine tri_sr ?_
  refine s_mv (.inr rfl) (v := .sc (.int .i64 (-1))) rfl rfl rfl rfl ?_
  refine rt_nil ?_
  refine tri_ret ?_
  have e0 := (some1 h); subst e0
  exact endY [] [] (rvC (resTmp rfl) rvN) trivial trivial rfl rfl rfl rfl (.free rfl)
 ·replace h := cond_f h c2
  refine tri_skip ?_
  refine tri_sr ?_
  refine m1 ?_
  refine m2 ?_
  refine rt_nil ?_
  refine tri_ret ?_
  have e0 := (some1 h); subst e0
  exact endY [] [] (rvC (resTmp rfl) rvN) trivial trivial rfl rfl rfl rfl (.free rfl)

/- laws.szRecord -/

set_option maxRecDepth 4000 in
set_option maxHeartbeats 800000 in
theorem ww_szRecord (p0 : Rec) (p1 : Int) (r0 : Int) (h : w_szRecord p0 p1 = some r0) : Runs Tryz.prog 102 [.agg (recV p0), .sc (.int .i64 p1)] [] (.sc (.int .i64 r0)) [] := by
 unfold w_szRecord at h
 refine runsR [.tmp 4] Tryz.func102 rfl rfl rfl rfl ?_
 rw [Tryz.ntmps102]
 refine tri_sr ?_
 refine s_box rfl rfl rfl rfl rfl rfl rfl ?_
 refine s_mv (.inr rfl) (v := .sc (.int .i64 0)) rfl rfl rfl rfl ?_
 refine rt_nil ?_
 refine tri_sr ?_
 refine m1 ?_
 refine s_fieldAddr rfl rfl fd109_0 rfl rfl rfl rfl ?_
 refine s_load rfl rfl rfl rfl ty9 rfl (.inr rfl) (by conv => lhs; whnf) rfl rfl rfl ?_
 refine s_of (st_lenS rfl rfl iss9) rfl rfl rfl rfl ?_
 refine grd_elim h fun g1 h => ?_
 refine s_subI rfl rfl rfl rfl g1 rfl rfl rfl ?_
 refine m2 ?_
 refine rt_nil ?_
 refine tri_seq ?_
 refine tri_sr ?_
 refine m1 ?_
 refine s_of (st_lss rfl rfl rfl) rfl rfl rfl rfl ?_
 refine rt_nil ?_
 refine tri_cond rfl (fun c2 => ?_) (fun c2 => ?_)
 ·replace h := cond_t h c2
  refine tri_sr ?_
  refine s_mv (.inr rfl) (v := .sc (.int .i64 (-1))) rfl rfl rfl rfl ?_
  refine rt_nil ?_
  refine tri_ret ?_
  have e0 := (some1 h); subst e0
  exact endY [] [] (rvC (resTmp rfl) rvN) trivial trivial rfl rfl rfl rfl (.free rfl)
 ·replace h := cond_f h c2
  refine tri_skip ?_
  refine tri_sr ?_
  refine m1 ?_
  refine s_fieldAddr rfl rfl fd109_4 rfl rfl rfl rfl ?_
  refine s_load rfl rfl rfl rfl ty9 rfl (.inr rfl) (by conv => lhs; whnf) rfl rfl rfl ?_
  refine s_of (st_lenS rfl rfl iss9) rfl rfl rfl rfl ?_
  refine grd_elim h fun g3 h => ?_
  refine s_subI rfl rfl rfl rfl g3 rfl rfl rfl ?_
  refine m2 ?_
  refine rt_nil ?_
  refine tri_seq ?_
  refine tri_sr ?_
  refine m1 ?_
  refine s_of (st_lss rfl rfl rfl) rfl rfl rfl rfl ?_
  refine rt_nil ?_
  refine tri_cond rfl (fun c4 => ?_) (fun c4 => ?_)
  ·replace h := cond_t h c4
   refine tri_sr ?_
   refine s_mv (.inr rfl) (v := .sc (.int .i64 (-1))) rfl rfl rfl rfl ?_
   refine rt_nil ?_
   refine tri_ret ?_
   have e0 := (some1 h); subst e0
   exact endY [] [] (rvC (resTmp rfl) rvN) trivial trivial rfl rfl rfl rfl (.free rfl)
  ·replace h := cond_f h c4
   refine tri_skip ?_
   refine tri_sr ?_
   refine m1 ?_
   refine s_fieldAddr rfl rfl fd109_5 rfl rfl rfl rfl ?_
   refine s_load rfl rfl rfl rfl ty9 rfl (.inr rfl) (by conv => lhs; whnf) rfl rfl rfl ?_
   refine s_of (st_lenS rfl rfl iss9) rfl rfl rfl rfl ?_
   refine grd_elim h fun g5 h => ?_
   refine s_subI rfl rfl rfl rfl g5 rfl rfl rfl ?_
   refine m2 ?_
   refine rt_nil ?_
   refine tri_seq ?_
   refine tri_sr ?_
   refine m1 ?_
   refine s_of (st_lss rfl rfl rfl) rfl rfl rfl rfl ?_
   refine rt_nil ?_
   refine tri_cond rfl (fun c6 => ?_) (fun c6 => ?_)
   ·replace h := cond_t h c6
    refine tri_sr ?_
    refine s_mv (.inr rfl) (v := .sc (.int .i64 (-1))) rfl rfl rfl rfl ?_
    refine rt_nil ?_
    refine tri_ret ?_
    have e0 := (some1 h); subst e0
    exact endY [] [] (rvC (resTmp rfl) rvN) trivial trivial rfl rfl rfl rfl (.free rfl)
   ·replace h := cond_f h c6
    refine tri_skip ?_
    refine tri_sr ?_
    refine m1 ?_
    refine m2 ?_
    refine rt_nil ?_
    refine tri_ret ?_
    have e0 := (some1 h); subst e0
    exact endY [] [] (rvC (resTmp rfl) rvN) trivial trivial rfl rfl rfl rfl (.free rfl)

/- laws.szRecordS -/
def inv_w_szRecordS_0 (p0 : List Rec) (v0_0 : Int) (v0_1 : Nat) : St := mkT 27 [(0, .lst 6 (List.map recV p0)), (1, .sc (.int .i64 v0_0)), (5, .sc (.int .i64 (v0_1 : Int)))] []
set_option maxRecDepth 4000 in
set_option maxHeartbeats 800000 in
theorem ww_szRecordS (p0 : List Rec) (p1 : Int) (r0 : Int) (h : w_szRecordS p0 p1 = some r0) : Runs Tryz.prog 63 [.lst 6 (List.map recV p0), .sc (.int .i64 p1)] [] (.sc (.int .i64 r0)) [] := by
 unfold w_szRecordS at h
 refine runsR [.tmp 4] Tryz.func63 rfl rfl rfl rfl ?_
 rw [Tryz.ntmps63]
 refine tri_sr ?_
 refine s_mv (.inr rfl) (v := .sc (.int .i64 0)) rfl rfl rfl rfl ?_
 refine rt_nil ?_
 refine tri_sr ?_
 refine m1 ?_
 refine m1 ?_
 refine s_lenL rfl sl45 rfl rfl rfl rfl ?_
 refine grd_elim h fun g1 h => ?_
 refine s_subI rfl rfl rfl rfl g1 rfl rfl rfl ?_
 refine m2 ?_
 refine rt_nil ?_
 refine tri_seq ?_
 refine tri_sr ?_
 refine m1 ?_
 refine s_of (st_lss rfl rfl rfl) rfl rfl rfl rfl ?_
 refine rt_nil ?_
 refine tri_cond rfl (fun c2 => ?_) (fun c2 => ?_)
 ·replace h := cond_t h c2
  refine tri_sr ?_
  refine s_mv (.inr rfl) (v := .sc (.int .i64 (-1))) rfl rfl rfl rfl ?_
  refine rt_nil ?_
  refine tri_ret ?_
  have e0 := (some1 h); subst e0
  exact endY [] [] (rvC (resTmp rfl) rvN) trivial trivial rfl rfl rfl rfl (.free rfl)
 ·replace h := cond_f h c2
  refine tri_skip ?_
  refine tri_seq ?_
  refine tri_sr ?_
  refine s_mv (.inr rfl) (v := .sc (.int .i64 0)) rfl rfl rfl rfl ?_
  refine rt_nil ?_
  refine tri_block ?_
  refine tri_lstM 0 rfl (fun hl0 => ?_)
  refine tri_loop (ι := { p : (List Rec) × Int × Nat // p0.drop p.2.2 = p.1 ∧ w_szRecordS_l0 p.1 p.2.1 p.2.2 = some r0 }) (fun p => inv_w_szRecordS_0 p0 p.1.2.1 p.1.2.2) (fun p => p.1.1.length) ⟨(p0, p1 - (p0.length : Int), 0), rfl, h⟩ ?_ ?_
  ·skip
   refine entX [] [] trivial trivial rfl rfl ?_
   exact ⟨(.free rfl), (.free rfl), (.free rfl), trivial⟩
  ·rintro ⟨⟨lrs0, v0_0, v0_1⟩, hd0, h⟩
   replace hd0 : p0.drop v0_1 = lrs0 := hd0
   replace h : w_szRecordS_l0 lrs0 v0_0 v0_1 = some r0 := h
   show Tri _ _ _ (inv_w_szRecordS_0 p0 v0_0 v0_1)
   refine tri_seq ?_
   refine tri_sr ?_
   refine m1 ?_
   refine m1 ?_
   refine s_lenL rfl sl45 rfl rfl rfl rfl ?_
   refine s_of (st_lss rfl rfl rfl) rfl rfl rfl rfl ?_
   refine rt_nil ?_
   refine tri_cond rfl (fun c3 => ?_) (fun c3 => ?_)
   ·refine drop_elim hd0 c3 fun e0 rs0 he hx0 hn0 => ?_
    subst he
    rw [w_szRecordS_l0] at h
    refine tri_skip ?_
    refine tri_seq ?_
    refine tri_block ?_
    refine tri_sr ?_
    refine m1 ?_
    refine m1 ?_
    refine s_indexF (i := v0_1) rfl rfl rfl sl45 (get_ltM hx0) rfl rfl rfl ?_
    refine s_loadFR rfl rfl (rowG hx0) ty109 rfl rfl rfl ?_
    refine m1 ?_
    refine bnd1_elim h fun x4 q5 h => ?_
    refine s_callN (kb := []) (ns := []) (v := .sc (.int .i64 x4)) rfl rfl cl102 (ww_szRecord e0 v0_0 x4 q5) rfl (.cons (relAgg rfl) (.cons (.free rfl) .nil)) trivial memNil .nil memNil rfl trivial memNil rfl rfl rfl rfl rfl rfl ?_
    refine m2 ?_
    refine rt_nil ?_
    refine tri_sr ?_
    refine m1 ?_
    refine s_of (st_lss rfl rfl rfl) rfl rfl rfl rfl ?_
    refine rt_nil ?_
    refine tri_cond rfl (fun c6 => ?_) (fun c6 => ?_)
    ·replace h := cond_t h c6
     refine tri_sr ?_
     refine s_mv (.inr rfl) (v := .sc (.int .i64 (-1))) rfl rfl rfl rfl ?_
     refine rt_nil ?_
     refine tri_ret ?_
     have e0 := (some1 h); subst e0
     exact endY [] [] (rvC (resTmp rfl) rvN) trivial trivial rfl rfl rfl rfl (.free rfl)
    ·replace h := cond_f h c6
     refine tri_skip ?_
     refine tri_region ?_
     refine m1 ?_
     refine s_inc (a := v0_1) (b := 1) rfl rfl rfl rfl (by have := get_lt hx0; have := hl0; omega) rfl rfl rfl ?_
     refine m2 ?_
     refine rt_nil ?_
     refine Exists.intro ⟨(rs0, x4, (v0_1 + 1)), hn0, h⟩ (And.intro (Nat.lt_succ_self _) ?_)
     refine entX [] [] trivial trivial rfl rfl ?_
     exact ⟨(.free rfl), (.free rfl), (.free rfl), trivial⟩
   ·have he := drop_f hd0 c3; subst he
    rw [w_szRecordS_l0] at h
    refine tri_exit ?_
    refine tri_sr ?_
    refine m1 ?_
    refine m2 ?_
    refine rt_nil ?_
    refine tri_ret ?_
    have e0 := (some1 h); subst e0
    exact endY [] [] (rvC (resTmp rfl) rvN) trivial trivial rfl rfl rfl rfl (.free rfl)

/- laws.szMsg -/

set_option maxRecDepth 4000 in
set_option maxHeartbeats 800000 in
theorem ww_szMsg (p0 : MMsg) (p1 : Int) (r0 : Int) (h : w_szMsg p0 p1 = some r0) : Runs Tryz.prog 28 [.agg (mMsgV p0), .sc (.int .i64 p1)] [] (.sc (.int .i64 r0)) [] := by
 unfold w_szMsg at h
 refine runsR [.tmp 4] Tryz.func28 rfl rfl rfl rfl ?_
 rw [Tryz.ntmps28]
 refine tri_sr ?_
 refine s_box rfl rfl rfl rfl rfl rfl rfl ?_
 refine s_mv (.inr rfl) (v := .sc (.int .i64 0)) rfl rfl rfl rfl ?_
 refine rt_nil ?_
 refine tri_sr ?_
 refine s_fieldAddr rfl rfl fd47_7 rfl rfl rfl rfl ?_
 refine s_load (v := .agg (questV p0.q)) rfl rfl rfl rfl ty44 rfl (.inl rfl) rfl rfl rfl rfl ?_
 refine m1 ?_
 refine bnd1_elim h fun x1 q2 h => ?_
 refine s_callN (kb := []) (ns := []) (v := .sc (.int .i64 x1)) rfl rfl cl62 (ww_szQuest p0.q p1 x1 q2) rfl (.cons (relAgg rfl) (.cons (.free rfl) .nil)) trivial memNil .nil memNil rfl trivial memNil rfl rfl rfl rfl rfl rfl ?_
 refine m2 ?_
 refine rt_nil ?_
 refine tri_seq ?_
 refine tri_sr ?_
 refine m1 ?_
 refine s_of (st_lss rfl rfl rfl) rfl rfl rfl rfl ?_
 refine rt_nil ?_
 refine tri_cond rfl (fun c3 => ?_) (fun c3 => ?_)
 ·replace h := cond_t h c3
  refine tri_sr ?_
  refine s_mv (.inr rfl) (v := .sc (.int .i64 (-1))) rfl rfl rfl rfl ?_
  refine rt_nil ?_
  refine tri_ret ?_
  have e0 := (some1 h); subst e0
  exact endY [] [] (rvC (resTmp rfl) rvN) trivial trivial rfl rfl rfl rfl (.free rfl)
 ·replace h := cond_f h c3
  refine tri_skip ?_
  refine tri_sr ?_
  refine s_fieldAddr rfl rfl fd47_8 rfl rfl rfl rfl ?_
  refine s_load rfl rfl rfl rfl ty45 rfl (.inr rfl) (by conv => lhs; whnf) rfl rfl rfl ?_
  refine m1 ?_
  refine bnd1_elim h fun x4 q5 h => ?_
  refine s_callN (kb := []) (ns := []) (v := .sc (.int .i64 x4)) rfl rfl cl63 (ww_szRecordS p0.an x1 x4 q5) rfl (.cons (.free rfl) (.cons (.free rfl) .nil)) trivial memNil .nil memNil rfl trivial memNil rfl rfl rfl rfl rfl rfl ?_
  refine m2 ?_
  refine rt_nil ?_
  refine tri_seq ?_
  refine tri_sr ?_
  refine m1 ?_
  refine s_of (st_lss rfl rfl rfl) rfl rfl rfl rfl ?_
  refine rt_nil ?_
  refine tri_cond rfl (fun c6 => ?_) (fun c6 => ?_)
  ·replace h := cond_t h c6
   refine tri_sr ?_
   refine s_mv (.inr rfl) (v := .sc (.int .i64 (-1))) rfl rfl rfl rfl ?_
   refine rt_nil ?_
   refine tri_ret ?_
   have e0 := (some1 h); subst e0
   exact endY [] [] (rvC (resTmp rfl) rvN) trivial trivial rfl rfl rfl rfl (.free rfl)
  ·replace h := cond_f h c6
   refine tri_skip ?_
   refine tri_sr ?_
   refine s_fieldAddr rfl rfl fd47_9 rfl rfl rfl rfl ?_
   refine s_load rfl rfl rfl rfl ty45 rfl (.inr rfl) (by conv => lhs; whnf) rfl rfl rfl ?_
   refine m1 ?_
   refine bnd1_elim h fun x7 q8 h => ?_
   refine s_callN (kb := []) (ns := []) (v := .sc (.int .i64 x7)) rfl rfl cl63 (ww_szRecordS p0.au x4 x7 q8) rfl (.cons (.free rfl) (.cons (.free rfl) .nil)) trivial memNil .nil memNil rfl trivial memNil rfl rfl rfl rfl rfl rfl ?_
   refine m2 ?_
   refine rt_nil ?_
   refine tri_seq ?_
   refine tri_sr ?_
   refine m1 ?_
   refine s_of (st_lss rfl rfl rfl) rfl rfl rfl rfl ?_
   refine rt_nil ?_
   refine tri_cond rfl (fun c9 => ?_) (fun c9 => ?_)
   ·replace h := cond_t h c9
    refine tri_sr ?_
    refine s_mv (.inr rfl) (v := .sc (.int .i64 (-1))) rfl rfl rfl rfl ?_
    refine rt_nil ?_
    refine tri_ret ?_
    have e0 := (some1 h); subst e0
    exact endY [] [] (rvC (resTmp rfl) rvN) trivial trivial rfl rfl rfl rfl (.free rfl)
   ·replace h := cond_f h c9
    refine tri_skip ?_
    refine tri_sr ?_
    refine s_fieldAddr rfl rfl fd47_10 rfl rfl rfl rfl ?_
    refine s_load rfl rfl rfl rfl ty45 rfl (.inr rfl) (by conv => lhs; whnf) rfl rfl rfl ?_
    refine m1 ?_
    refine bnd1_elim h fun x10 q11 h => ?_
    refine s_callN (kb := []) (ns := []) (v := .sc (.int .i64 x10)) rfl rfl cl63 (ww_szRecordS p0.ad x7 x10 q11) rfl (.cons (.free rfl) (.cons (.free rfl) .nil)) trivial memNil .nil memNil rfl trivial memNil rfl rfl rfl rfl rfl rfl ?_
    refine m2 ?_
    refine rt_nil ?_
    refine tri_seq ?_
    refine tri_sr ?_
    refine m1 ?_
    refine s_of (st_lss rfl rfl rfl) rfl rfl rfl rfl ?_
    refine rt_nil ?_
    refine tri_cond rfl (fun c12 => ?_) (fun c12 => ?_)
    ·replace h := cond_t h c12
     refine tri_sr ?_
     refine s_mv (.inr rfl) (v := .sc (.int .i64 (-1))) rfl rfl rfl rfl ?_
     refine rt_nil ?_
     refine tri_ret ?_
     have e0 := (some1 h); subst e0
     exact endY [] [] (rvC (resTmp rfl) rvN) trivial trivial rfl rfl rfl rfl (.free rfl)
    ·replace h := cond_f h c12
     refine tri_skip ?_
     refine tri_sr ?_
     refine m1 ?_
     refine m2 ?_
     refine rt_nil ?_
     refine tri_ret ?_
     have e0 := (some1 h); subst e0
     exact endY [] [] (rvC (resTmp rfl) rvN) trivial trivial rfl rfl rfl rfl (.free rfl)

/- laws.toQuest -/

set_option maxRecDepth 4000 in
set_option maxHeartbeats 800000 in
theorem ww_toQuest (p0 : Quest) (r0 : Quest) (h : w_toQuest p0 = some r0) : Runs Tryz.prog 64 [.agg (questV p0)] [] (.agg (questV r0)) [] := by
 unfold w_toQuest at h
 refine runsR [.cell 2 25] Tryz.func64 rfl rfl rfl rfl ?_
 rw [Tryz.ntmps64]
 refine tri_sr ?_
 refine s_box rfl rfl rfl rfl rfl rfl rfl ?_
 refine s_alloc rfl rfl rfl zc25 rfl rfl rfl rfl rfl ?_
 refine rt_nil ?_
 refine tri_sr ?_
 refine s_alloc rfl rfl rfl zc25 rfl rfl rfl rfl rfl ?_
 refine rt_nil ?_
 refine tri_sr ?_
 refine s_fieldAddr rfl rfl fd44_0 rfl rfl rfl rfl ?_
 refine s_load rfl rfl rfl rfl ty9 rfl (.inr rfl) (by conv => lhs; whnf) rfl rfl rfl ?_
 refine s_fieldAddr rfl rfl fd25_0 rfl rfl rfl rfl ?_
 refine s_store (rows' := [[.sc (.string p0.name), .sc (.int .i64 0)]]) rfl rfl rfl rfl ty9 rfl rfl rfl rfl rfl rfl ?_
 refine rt_nil ?_
 refine tri_sr ?_
 refine s_fieldAddr rfl rfl fd44_1 rfl rfl rfl rfl ?_
 refine s_load rfl rfl rfl rfl ty3 rfl (.inr rfl) (by conv => lhs; whnf) rfl rfl rfl ?_
 refine s_fieldAddr rfl rfl fd25_1 rfl rfl rfl rfl ?_
 refine s_store (rows' := [[.sc (.string p0.name), .sc (.int .i64 p0.ty)]]) rfl rfl rfl rfl ty3 rfl rfl rfl rfl rfl rfl ?_
 refine rt_nil ?_
 refine tri_sr ?_
 refine s_loadR rfl rfl rfl rfl ty25 rfl rfl rfl ?_
 refine s_storeB rfl rfl rfl ty25 rfl rfl rfl rfl rfl ?_
 refine rt_nil ?_
 refine tri_ret ?_
 have e0 := (some1 h); subst e0
 exact endY [] [] (rvC (resCell rfl rfl ty25) rvN) trivial trivial rfl rfl rfl rfl (cvAgg rfl)

/- laws.toRecord -/

set_option maxRecDepth 4000 in
set_option maxHeartbeats 800000 in
theorem ww_toRecord (p0 : Rec) (r0 : Rec) (h : w_toRecord p0 = some r0) : Runs Tryz.prog 103 [.agg (recV p0)] [] (.agg (recV r0)) [] := by
 unfold w_toRecord at h
 refine runsR [.cell 2 87] Tryz.func103 rfl rfl rfl rfl ?_
 rw [Tryz.ntmps103]
 refine tri_sr ?_
 refine s_box rfl rfl rfl rfl rfl rfl rfl ?_
 refine s_alloc rfl rfl rfl zc87 rfl rfl rfl rfl rfl ?_
 refine rt_nil ?_
 refine tri_sr ?_
 refine s_alloc rfl rfl rfl zc87 rfl rfl rfl rfl rfl ?_
 refine rt_nil ?_
 refine tri_sr ?_
 refine s_fieldAddr rfl rfl fd109_0 rfl rfl rfl rfl ?_
 refine s_load rfl rfl rfl rfl ty9 rfl (.inr rfl) (by conv => lhs; whnf) rfl rfl rfl ?_
 refine s_fieldAddr rfl rfl fd87_0 rfl rfl rfl rfl ?_
 refine s_store (rows' := [[.sc (.string p0.name), .sc (.int .i64 0), .sc (.int .i64 0), .sc (.int .i64 0), .sc (.string (⟨#[]⟩ : ByteArray)), .sc (.string (⟨#[]⟩ : ByteArray))]]) rfl rfl rfl rfl ty9 rfl rfl rfl rfl rfl rfl ?_
 refine rt_nil ?_
 refine tri_sr ?_
 refine s_fieldAddr rfl rfl fd109_1 rfl rfl rfl rfl ?_
 refine s_load rfl rfl rfl rfl ty3 rfl (.inr rfl) (by conv => lhs; whnf) rfl rfl rfl ?_
 refine s_fieldAddr rfl rfl fd87_1 rfl rfl rfl rfl ?_
 refine s_store (rows' := [[.sc (.string p0.name), .sc (.int .i64 p0.ty), .sc (.int .i64 0), .sc (.int .i64 0), .sc (.string (⟨#[]⟩ : ByteArray)), .sc (.string (⟨#[]⟩ : ByteArray))]]) rfl rfl rfl rfl ty3 rfl rfl rfl rfl rfl rfl ?_
 refine rt_nil ?_
 refine tri_sr ?_
 refine s_fieldAddr rfl rfl fd109_2 rfl rfl rfl rfl ?_
 refine s_load rfl rfl rfl rfl ty3 rfl (.inr rfl) (by conv => lhs; whnf) rfl rfl rfl ?_
 refine s_fieldAddr rfl rfl fd87_2 rfl rfl rfl rfl ?_
 refine s_store (rows' := [[.sc (.string p0.name), .sc (.int .i64 p0.ty), .sc (.int .i64 p0.ttl), .sc (.int .i64 0), .sc (.string (⟨#[]⟩ : ByteArray)), .sc (.string (⟨#[]⟩ : ByteArray))]]) rfl rfl rfl rfl ty3 rfl rfl rfl rfl rfl rfl ?_
 refine rt_nil ?_
 refine tri_sr ?_
 refine s_fieldAddr rfl rfl fd109_3 rfl rfl rfl rfl ?_
 refine s_load rfl rfl rfl rfl ty3 rfl (.inr rfl) (by conv => lhs; whnf) rfl rfl rfl ?_
 refine s_fieldAddr rfl rfl fd87_3 rfl rfl rfl rfl ?_
 refine s_store (rows' := [[.sc (.string p0.name), .sc (.int .i64 p0.ty), .sc (.int .i64 p0.ttl), .sc (.int .i64 p0.n), .sc (.string (⟨#[]⟩ : ByteArray)), .sc (.string (⟨#[]⟩ : ByteArray))]]) rfl rfl rfl rfl ty3 rfl rfl rfl rfl rfl rfl ?_
 refine rt_nil ?_
 refine tri_sr ?_
 refine s_fieldAddr rfl rfl fd109_4 rfl rfl rfl rfl ?_
 refine s_load rfl rfl rfl rfl ty9 rfl (.inr rfl) (by conv => lhs; whnf) rfl rfl rfl ?_
 refine s_fieldAddr rfl rfl fd87_4 rfl rfl rfl rfl ?_
 refine s_store (rows' := [[.sc (.string p0.name), .sc (.int .i64 p0.ty), .sc (.int .i64 p0.ttl), .sc (.int .i64 p0.n), .sc (.string p0.host), .sc (.string (⟨#[]⟩ : ByteArray))]]) rfl rfl rfl rfl ty9 rfl rfl rfl rfl rfl rfl ?_
 refine rt_nil ?_
 refine tri_sr ?_
 refine s_fieldAddr rfl rfl fd109_5 rfl rfl rfl rfl ?_
 refine s_load rfl rfl rfl rfl ty9 rfl (.inr rfl) (by conv => lhs; whnf) rfl rfl rfl ?_
 refine s_fieldAddr rfl rfl fd87_5 rfl rfl rfl rfl ?_
 refine s_store (rows' := [[.sc (.string p0.name), .sc (.int .i64 p0.ty), .sc (.int .i64 p0.ttl), .sc (.int .i64 p0.n), .sc (.string p0.host), .sc (.string p0.text)]]) rfl rfl rfl rfl ty9 rfl rfl rfl rfl rfl rfl ?_
 refine rt_nil ?_
 refine tri_sr ?_
 refine s_loadR rfl rfl rfl rfl ty87 rfl rfl rfl ?_
 refine s_storeB rfl rfl rfl ty87 rfl rfl rfl rfl rfl ?_
 refine rt_nil ?_
 refine tri_ret ?_
 have e0 := (some1 h); subst e0
 exact endY [] [] (rvC (resCell rfl rfl ty87) rvN) trivial trivial rfl rfl rfl rfl (cvAgg rfl)

/- laws.toRecordS -/
def inv_w_toRecordS_0 (p0 : List Rec) (v0_0 : List Rec) (v0_1 : Nat) : St := mkT 23 [(0, .lst 6 (List.map recV p0)), (3, .ref (7, 0) 0 v0_0.length), (4, .sc (.int .i64 (v0_1 : Int)))] [((7, 0), some ⟨87, 6, List.map recV v0_0, false, true⟩)]
set_option maxRecDepth 4000 in
set_option maxHeartbeats 800000 in
theorem ww_toRecordS (p0 : List Rec) (r0 : List Rec) (h : w_toRecordS p0 = some r0) : Runs Tryz.prog 65 [.lst 6 (List.map recV p0)] [] (.own 87 6 (List.map recV r0)) [] := by
 unfold w_toRecordS at h
 refine runsR [.tmp 2] Tryz.func65 rfl rfl rfl rfl ?_
 rw [Tryz.ntmps65]
 refine tri_sr ?_
 refine s_mv (.inr rfl) (v := .nils) rfl rfl rfl rfl ?_
 refine rt_nil ?_
 refine tri_sr ?_
 refine m1 ?_
 refine s_lenL rfl sl45 rfl rfl rfl rfl ?_
 refine grd_elim h fun g1 h => ?_
 refine s_makeL (f := recV) (a := Rec.mk (⟨#[]⟩ : ByteArray) 0 0 0 (⟨#[]⟩ : ByteArray) (⟨#[]⟩ : ByteArray)) rfl rfl rfl rfl rfl sl26 zc87 rfl rfl rfl rfl g1.1 g1.2 (rowZ_cv rfl (rowZ_cv rfl (rowZ_cv rfl (rowZ_cv rfl (rowZ_cv rfl (rowZ_cv rfl rowZ_nil)))))) rfl rfl ?_
 refine m2 ?_
 refine rt_nil ?_
 refine tri_seq ?_
 refine tri_sr ?_
 refine s_mv (.inr rfl) (v := .sc (.int .i64 0)) rfl rfl rfl rfl ?_
 refine rt_nil ?_
 refine tri_block ?_
 refine tri_lstM 0 rfl (fun hl0 => ?_)
 refine tri_loop (ι := { p : (List Rec) × (List Rec) × Nat // p0.drop p.2.2 = p.1 ∧ w_toRecordS_l0 p.1 p.2.1 p.2.2 = some r0 }) (fun p => inv_w_toRecordS_0 p0 p.1.2.1 p.1.2.2) (fun p => p.1.1.length) ⟨(p0, List.replicate (p0.length : Int).toNat (Rec.mk (⟨#[]⟩ : ByteArray) 0 0 0 (⟨#[]⟩ : ByteArray) (⟨#[]⟩ : ByteArray)), 0), rfl, h⟩ ?_ ?_
 ·skip
  refine entX [((7, 0), ⟨87, 6, List.map recV (List.replicate (p0.length : Int).toNat (Rec.mk (⟨#[]⟩ : ByteArray) 0 0 0 (⟨#[]⟩ : ByteArray) (⟨#[]⟩ : ByteArray))), false, true⟩, some (7, 0))] [] ⟨⟨rfl, _, rfl, rfl, rfl, rfl, id, rowsCv_eq rfl (allFree_map recV_free), rowsZ_map recV_len⟩, trivial⟩ trivial rfl rfl ?_
  exact ⟨(.free rfl), (.ref rfl), (.free rfl), trivial⟩
 ·rintro ⟨⟨lrs0, v0_0, v0_1⟩, hd0, h⟩
  replace hd0 : p0.drop v0_1 = lrs0 := hd0
  replace h : w_toRecordS_l0 lrs0 v0_0 v0_1 = some r0 := h
  show Tri _ _ _ (inv_w_toRecordS_0 p0 v0_0 v0_1)
  refine tri_seq ?_
  refine tri_sr ?_
  refine m1 ?_
  refine m1 ?_
  refine s_lenL rfl sl45 rfl rfl rfl rfl ?_
  refine s_of (st_lss rfl rfl rfl) rfl rfl rfl rfl ?_
  refine rt_nil ?_
  refine tri_cond rfl (fun c2 => ?_) (fun c2 => ?_)
  ·refine drop_elim hd0 c2 fun e0 rs0 he hx0 hn0 => ?_
   subst he
   rw [w_toRecordS_l0] at h
   refine tri_skip ?_
   refine tri_seq ?_
   refine tri_block ?_
   refine tri_region ?_
   refine m1 ?_
   refine m1 ?_
   refine m1 ?_
   refine m1 ?_
   refine s_indexF (i := v0_1) rfl rfl rfl sl45 (get_ltM hx0) rfl rfl rfl ?_
   refine s_loadFR rfl rfl (rowG hx0) ty109 rfl rfl rfl ?_
   refine bnd1_elim h fun x3 q4 h => ?_
   refine s_callN (kb := []) (ns := []) (v := .agg (recV x3)) rfl rfl cl103 (ww_toRecord e0 x3 q4) rfl (.cons (relAgg rfl) .nil) trivial memNil .nil memNil rfl trivial memNil rfl rfl rfl rfl rfl rfl ?_
   refine bnd1_elim h fun x5 q6 h => ?_
   have q6a := (idx_some q6).1; have q6b := (idx_some q6).2
   refine s_indexZ rfl rfl rfl rfl sl26 rfl q6a (get_lt q6b) rfl rfl rfl ?_
   refine s_storeL (x' := x3) rfl rfl rfl q6b ty87 rfl rfl rfl rfl rfl rfl ?_
   refine rt_nil ?_
   refine tri_region ?_
   refine m1 ?_
   refine s_inc (a := v0_1) (b := 1) rfl rfl rfl rfl (by have := get_lt hx0; have := hl0; omega) rfl rfl rfl ?_
   refine m2 ?_
   refine rt_nil ?_
   refine Exists.intro ⟨(rs0, v0_0.set ((v0_1 : Int).toNat) x3, (v0_1 + 1)), hn0, h⟩ (And.intro (Nat.lt_succ_self _) ?_)
   refine entX [((7, 0), ⟨87, 6, List.map recV (v0_0.set ((v0_1 : Int).toNat) x3), false, true⟩, some (7, 0))] [] ⟨⟨rfl, _, rfl, rfl, rfl, rfl, id, rowsCv_eq rfl (allFree_map recV_free), rowsZ_map recV_len⟩, trivial⟩ trivial rfl rfl ?_
   exact ⟨(.free rfl), (cvRefLen rfl (by simp only [List.length_set])), (.free rfl), trivial⟩
  ·have he := drop_f hd0 c2; subst he
   rw [w_toRecordS_l0] at h
   refine tri_exit ?_
   refine tri_sr ?_
   refine m1 ?_
   refine m2 ?_
   refine rt_nil ?_
   refine tri_ret ?_
   have e0 := (some1 h); subst e0
   exact endY (v' := .ref (2000, 0) 0 v0_0.length) [((2000, 0), ⟨87, 6, List.map recV v0_0, false, true⟩, some (7, 0))] [] (rvC (resTmp rfl) rvN) ⟨⟨rfl, _, rfl, rfl, rfl, rfl, id, rowsCv_eq rfl (allFree_map recV_free), rowsZ_map recV_len⟩, trivial⟩ trivial rfl rfl (by kernel_rfl) (by simp only [V.mat, V.mat1, V.mat0, matL, matT, List.length_map] <;> rfl) (.ref rfl)

/- laws.toMsg -/

set_option maxRecDepth 4000 in
set_option maxHeartbeats 800000 in
theorem ww_toMsg (p0 : MMsg) (r0 : MMsg) (h : w_toMsg p0 = some r0) : Runs Tryz.prog 30 [.agg (mMsgV p0)] [] (.agg [.sc (.int .i64 r0.id), .sc (.bool r0.reply), .sc (.bool r0.auth), .sc (.bool r0.cut), .sc (.bool r0.want), .sc (.bool r0.can), .sc (.int .i64 r0.code), .sc (.string r0.q.name), .sc (.int .i64 r0.q.ty), .own 87 6 (List.map recV r0.an), .own 87 6 (List.map recV r0.au), .own 87 6 (List.map recV r0.ad)]) [] := by
 unfold w_toMsg at h
 refine runsR [.cell 2 28] Tryz.func30 rfl rfl rfl rfl ?_
 rw [Tryz.ntmps30]
 refine tri_sr ?_
 refine s_box rfl rfl rfl rfl rfl rfl rfl ?_
 refine s_alloc rfl rfl rfl zc28 rfl rfl rfl rfl rfl ?_
 refine rt_nil ?_
 refine tri_sr ?_
 refine s_alloc rfl rfl rfl zc28 rfl rfl rfl rfl rfl ?_
 refine rt_nil ?_
 refine tri_sr ?_
 refine s_fieldAddr rfl rfl fd47_0 rfl rfl rfl rfl ?_
 refine s_load rfl rfl rfl rfl ty3 rfl (.inr rfl) (by conv => lhs; whnf) rfl rfl rfl ?_
 refine s_fieldAddr rfl rfl fd28_0 rfl rfl rfl rfl ?_
 refine s_store (rows' := [[.sc (.int .i64 p0.id), .sc (.bool false), .sc (.bool false), .sc (.bool false), .sc (.bool false), .sc (.bool false), .sc (.int .i64 0), .sc (.string (⟨#[]⟩ : ByteArray)), .sc (.int .i64 0), .nils, .nils, .nils]]) rfl rfl rfl rfl ty3 rfl rfl rfl rfl rfl rfl ?_
 refine rt_nil ?_
 refine tri_sr ?_
 refine s_fieldAddr rfl rfl fd47_1 rfl rfl rfl rfl ?_
 refine s_load rfl rfl rfl rfl ty4 rfl (.inr rfl) (by conv => lhs; whnf) rfl rfl rfl ?_
 refine s_fieldAddr rfl rfl fd28_1 rfl rfl rfl rfl ?_
 refine s_store (rows' := [[.sc (.int .i64 p0.id), .sc (.bool p0.reply), .sc (.bool false), .sc (.bool false), .sc (.bool false), .sc (.bool false), .sc (.int .i64 0), .sc (.string (⟨#[]⟩ : ByteArray)), .sc (.int .i64 0), .nils, .nils, .nils]]) rfl rfl rfl rfl ty4 rfl rfl rfl rfl rfl rfl ?_
 refine rt_nil ?_
 refine tri_sr ?_
 refine s_fieldAddr rfl rfl fd47_2 rfl rfl rfl rfl ?_
 refine s_load rfl rfl rfl rfl ty4 rfl (.inr rfl) (by conv => lhs; whnf) rfl rfl rfl ?_
 refine s_fieldAddr rfl rfl fd28_2 rfl rfl rfl rfl ?_
 refine s_store (rows' := [[.sc (.int .i64 p0.id), .sc (.bool p0.reply), .sc (.bool p0.auth), .sc (.bool false), .sc (.bool false), .sc (.bool false), .sc (.int .i64 0), .sc (.string (⟨#[]⟩ : ByteArray)), .sc (.int .i64 0), .nils, .nils, .nils]]) rfl rfl rfl rfl ty4 rfl rfl rfl rfl rfl rfl ?_
 refine rt_nil ?_
 refine tri_sr ?_
 refine s_fieldAddr rfl rfl fd47_3 rfl rfl rfl rfl ?_
 refine s_load rfl rfl rfl rfl ty4 rfl (.inr rfl) (by conv => lhs; whnf) rfl rfl rfl ?_
 refine s_fieldAddr rfl rfl fd28_3 rfl rfl rfl rfl ?_
 refine s_store (rows' := [[.sc (.int .i64 p0.id), .sc (.bool p0.reply), .sc (.bool p0.auth), .sc (.bool p0.cut), .sc (.bool false), .sc (.bool false), .sc (.int .i64 0), .sc (.string (⟨#[]⟩ : ByteArray)), .sc (.int .i64 0), .nils, .nils, .nils]]) rfl rfl rfl rfl ty4 rfl rfl rfl rfl rfl rfl ?_
 refine rt_nil ?_
 refine tri_sr ?_
 refine s_fieldAddr rfl rfl fd47_4 rfl rfl rfl rfl ?_
 refine s_load rfl rfl rfl rfl ty4 rfl (.inr rfl) (by conv => lhs; whnf) rfl rfl rfl ?_
 refine s_fieldAddr rfl rfl fd28_4 rfl rfl rfl rfl ?_
 refine s_store (rows' := [[.sc (.int .i64 p0.id), .sc (.bool p0.reply), .sc (.bool p0.auth), .sc (.bool p0.cut), .sc (.bool p0.want), .sc (.bool false), .sc (.int .i64 0), .sc (.string (⟨#[]⟩ : ByteArray)), .sc (.int .i64 0), .nils, .nils, .nils]]) rfl rfl rfl rfl ty4 rfl rfl rfl rfl rfl rfl ?_
 refine rt_nil ?_
 refine tri_sr ?_
 refine s_fieldAddr rfl rfl fd47_5 rfl rfl rfl rfl ?_
 refine s_load rfl rfl rfl rfl ty4 rfl (.inr rfl) (by conv => lhs; whnf) rfl rfl rfl ?_
 refine s_fieldAddr rfl rfl fd28_5 rfl rfl rfl rfl ?_
 refine s_store (rows' := [[.sc (.int .i64 p0.id), .sc (.bool p0.reply), .sc (.bool p0.auth), .sc (.bool p0.cut), .sc (.bool p0.want), .sc (.bool p0.can), .sc (.int .i64 0), .sc (.string (⟨#[]⟩ : ByteArray)), .sc (.int .i64 0), .nils, .nils, .nils]]) rfl rfl rfl rfl ty4 rfl rfl rfl rfl rfl rfl ?_
 refine rt_nil ?_
 refine tri_sr ?_
 refine s_fieldAddr rfl rfl fd47_6 rfl rfl rfl rfl ?_
 refine s_load rfl rfl rfl rfl ty3 rfl (.inr rfl) (by conv => lhs; whnf) rfl rfl rfl ?_
 refine s_fieldAddr rfl rfl fd28_6 rfl rfl rfl rfl ?_
 refine s_store (rows' := [[.sc (.int .i64 p0.id), .sc (.bool p0.reply), .sc (.bool p0.auth), .sc (.bool p0.cut), .sc (.bool p0.want), .sc (.bool p0.can), .sc (.int .i64 p0.code), .sc (.string (⟨#[]⟩ : ByteArray)), .sc (.int .i64 0), .nils, .nils, .nils]]) rfl rfl rfl rfl ty3 rfl rfl rfl rfl rfl rfl ?_
 refine rt_nil ?_
 refine tri_sr ?_
 refine s_fieldAddr rfl rfl fd47_7 rfl rfl rfl rfl ?_
 refine s_load (v := .agg (questV p0.q)) rfl rfl rfl rfl ty44 rfl (.inl rfl) rfl rfl rfl rfl ?_
 refine bnd1_elim h fun x1 q2 h => ?_
 refine s_callN (kb := []) (ns := []) (v := .agg (questV x1)) rfl rfl cl64 (ww_toQuest p0.q x1 q2) rfl (.cons (relAgg rfl) .nil) trivial memNil .nil memNil rfl trivial memNil rfl rfl rfl rfl rfl rfl ?_
 refine s_fieldAddr rfl rfl fd28_7 rfl rfl rfl rfl ?_
 refine s_store (rows' := [[.sc (.int .i64 p0.id), .sc (.bool p0.reply), .sc (.bool p0.auth), .sc (.bool p0.cut), .sc (.bool p0.want), .sc (.bool p0.can), .sc (.int .i64 p0.code), .sc (.string x1.name), .sc (.int .i64 x1.ty), .nils, .nils, .nils]]) rfl rfl rfl rfl ty25 rfl rfl rfl rfl rfl rfl ?_
 refine rt_nil ?_
 refine tri_sr ?_
 refine s_fieldAddr rfl rfl fd47_8 rfl rfl rfl rfl ?_
 refine s_load rfl rfl rfl rfl ty45 rfl (.inr rfl) (by conv => lhs; whnf) rfl rfl rfl ?_
 refine bnd1_elim h fun x3 q4 h => ?_
 refine s_callN (kb := []) (ns := []) (v := .ref (31, 0) 0 x3.length) rfl rfl cl65 (ww_toRecordS p0.an x3 q4) rfl (.cons (.free rfl) .nil) trivial memNil .nil memNil rfl ⟨(allSc_map recV_sc), trivial⟩ memNil rfl (by simp only [V.mat, V.mat1, V.mat0, matL, matT, List.length_map] <;> rfl) rfl rfl rfl rfl ?_
 refine s_fieldAddr rfl rfl fd28_8 rfl rfl rfl rfl ?_
 refine s_store (rows' := [[.sc (.int .i64 p0.id), .sc (.bool p0.reply), .sc (.bool p0.auth), .sc (.bool p0.cut), .sc (.bool p0.want), .sc (.bool p0.can), .sc (.int .i64 p0.code), .sc (.string x1.name), .sc (.int .i64 x1.ty), .ref (31, 0) 0 x3.length, .nils, .nils]]) rfl rfl rfl rfl ty26 rfl rfl rfl rfl rfl rfl ?_
 refine rt_nil ?_
 refine tri_sr ?_
 refine s_fieldAddr rfl rfl fd47_9 rfl rfl rfl rfl ?_
 refine s_load rfl rfl rfl rfl ty45 rfl (.inr rfl) (by conv => lhs; whnf) rfl rfl rfl ?_
 refine bnd1_elim h fun x5 q6 h => ?_
 refine s_callN (kb := []) (ns := []) (v := .ref (35, 0) 0 x5.length) rfl rfl cl65 (ww_toRecordS p0.au x5 q6) rfl (.cons (.free rfl) .nil) trivial memNil .nil memNil rfl ⟨(allSc_map recV_sc), trivial⟩ memNil rfl (by simp only [V.mat, V.mat1, V.mat0, matL, matT, List.length_map] <;> rfl) rfl rfl rfl rfl ?_
 refine s_fieldAddr rfl rfl fd28_9 rfl rfl rfl rfl ?_
 refine s_store (rows' := [[.sc (.int .i64 p0.id), .sc (.bool p0.reply), .sc (.bool p0.auth), .sc (.bool p0.cut), .sc (.bool p0.want), .sc (.bool p0.can), .sc (.int .i64 p0.code), .sc (.string x1.name), .sc (.int .i64 x1.ty), .ref (31, 0) 0 x3.length, .ref (35, 0) 0 x5.length, .nils]]) rfl rfl rfl rfl ty26 rfl rfl rfl rfl rfl rfl ?_
 refine rt_nil ?_
 refine tri_sr ?_
 refine s_fieldAddr rfl rfl fd47_10 rfl rfl rfl rfl ?_
 refine s_load rfl rfl rfl rfl ty45 rfl (.inr rfl) (by conv => lhs; whnf) rfl rfl rfl ?_
 refine bnd1_elim h fun x7 q8 h => ?_
 refine s_callN (kb := []) (ns := []) (v := .ref (39, 0) 0 x7.length) rfl rfl cl65 (ww_toRecordS p0.ad x7 q8) rfl (.cons (.free rfl) .nil) trivial memNil .nil memNil rfl ⟨(allSc_map recV_sc), trivial⟩ memNil rfl (by simp only [V.mat, V.mat1, V.mat0, matL, matT, List.length_map] <;> rfl) rfl rfl rfl rfl ?_
 refine s_fieldAddr rfl rfl fd28_10 rfl rfl rfl rfl ?_
 refine s_store (rows' := [[.sc (.int .i64 p0.id), .sc (.bool p0.reply), .sc (.bool p0.auth), .sc (.bool p0.cut), .sc (.bool p0.want), .sc (.bool p0.can), .sc (.int .i64 p0.code), .sc (.string x1.name), .sc (.int .i64 x1.ty), .ref (31, 0) 0 x3.length, .ref (35, 0) 0 x5.length, .ref (39, 0) 0 x7.length]]) rfl rfl rfl rfl ty26 rfl rfl rfl rfl rfl rfl ?_
 refine rt_nil ?_
 refine tri_sr ?_
 refine s_loadR rfl rfl rfl rfl ty28 rfl rfl rfl ?_
 refine s_storeB rfl rfl rfl ty28 rfl rfl rfl rfl rfl ?_
 refine rt_nil ?_
 refine tri_ret ?_
 have e0 := (some1 h); subst e0
 exact endY (v' := .agg [.sc (.int .i64 p0.id), .sc (.bool p0.reply), .sc (.bool p0.auth), .sc (.bool p0.cut), .sc (.bool p0.want), .sc (.bool p0.can), .sc (.int .i64 p0.code), .sc (.string x1.name), .sc (.int .i64 x1.ty), .ref (2000, 9) 0 x3.length, .ref (2000, 10) 0 x5.length, .ref (2000, 11) 0 x7.length]) [((2000, 9), ⟨87, 6, List.map recV x3, false, true⟩, some (31, 0)), ((2000, 10), ⟨87, 6, List.map recV x5, false, true⟩, some (35, 0)), ((2000, 11), ⟨87, 6, List.map recV x7, false, true⟩, some (39, 0))] [] (rvC (resCell rfl rfl ty28) rvN) ⟨⟨rfl, _, rfl, rfl, rfl, rfl, id, rowsCv_eq rfl (allFree_map recV_free), rowsZ_map recV_len⟩, ⟨rfl, _, rfl, rfl, rfl, rfl, id, rowsCv_eq rfl (allFree_map recV_free), rowsZ_map recV_len⟩, ⟨rfl, _, rfl, rfl, rfl, rfl, id, rowsCv_eq rfl (allFree_map recV_free), rowsZ_map recV_len⟩, trivial⟩ trivial rfl rfl (by kernel_rfl) (by simp only [V.mat, V.mat1, V.mat0, matL, matT, List.length_map] <;> rfl) (CvL.agg (.cons (.free rfl) (.cons (.free rfl) (.cons (.free rfl) (.cons (.free rfl) (.cons (.free rfl) (.cons (.free rfl) (.cons (.free rfl) (.cons (.free rfl) (.cons (.free rfl) (.cons (.ref rfl) (.cons (.ref rfl) (.cons (.ref rfl) .nil)))))))))))))

/- spec.l1In -/

set_option maxRecDepth 4000 in
set_option maxHeartbeats 800000 in
theorem ws_l1In (p0 : Int) (p1 : Int) (p2 : Int) (r0 : Bool) (h : s_l1In p0 p1 p2 = some r0) : Runs Tryz.prog 82 [.sc (.int .i64 p0), .sc (.int .i64 p1), .sc (.int .i64 p2)] [] (.sc (.bool r0)) [] := by
 unfold s_l1In at h
 refine runsR [.tmp 6] Tryz.func82 rfl rfl rfl rfl ?_
 rw [Tryz.ntmps82]
 refine tri_sr ?_
 refine s_mv (.inr rfl) (v := .sc (.bool false)) rfl rfl rfl rfl ?_
 refine rt_nil ?_
 refine tri_sr ?_
 refine m1 ?_
 refine m1 ?_
 refine s_of (st_geq rfl rfl rfl) rfl rfl rfl rfl ?_
 refine m1 ?_
 refine s_split (t := 10) rfl (fun b1 => ?_) (fun b1 => ?_)
 ·replace h := cond_t h b1
  refine m1 ?_
  refine m1 ?_
  refine s_of (st_leq rfl rfl rfl) rfl rfl rfl rfl ?_
  refine s_pickT rfl rfl (by conv => lhs; whnf) rfl rfl rfl ?_
  refine m2 ?_
  refine rt_nil ?_
  refine tri_ret ?_
  have e0 := (some1 h); subst e0
  exact endY [] [] (rvC (resTmp rfl) rvN) trivial trivial rfl rfl rfl rfl (.free rfl)
 ·replace h := cond_f h b1
  refine s_skip rfl rfl rfl ?_
  refine s_skip rfl rfl rfl ?_
  refine s_skip rfl rfl rfl ?_
  refine s_pickF rfl rfl (v := .sc (.bool false)) rfl rfl rfl rfl ?_
  refine m2 ?_
  refine rt_nil ?_
  refine tri_ret ?_
  have e0 := (some1 h); subst e0
  exact endY [] [] (rvC (resTmp rfl) rvN) trivial trivial rfl rfl rfl rfl (.free rfl)

/- spec.Labels -/
def inv_s_Labels_2 (p0 : ByteArray) (v0_0 : List ByteArray) (v0_1 : Int) (v0_2 : Int) (j2_0 : Bool) : St := mkT 37 [(0, .sc (.string p0)), (3, .ref (2003, 0) 0 v0_0.length), (4, .sc (.int .i64 v0_1)), (5, .sc (.int .i64 v0_2)), (26, .sc (.bool j2_0))] [((2003, 0), some ⟨9, 1, List.map strV v0_0, false, true⟩)]
def inv_s_Labels_1 (p0 : ByteArray) (v0_0 : List ByteArray) (v0_1 : Int) (v0_2 : Int) (j1_0 : Bool) : St := mkT 37 [(0, .sc (.string p0)), (3, .ref (2003, 0) 0 v0_0.length), (4, .sc (.int .i64 v0_1)), (5, .sc (.int .i64 v0_2)), (14, .sc (.bool j1_0))] [((2003, 0), some ⟨9, 1, List.map strV v0_0, false, true⟩)]
def inv_s_Labels_0 (p0 : ByteArray) (v0_0 : List ByteArray) (v0_1 : Int) (v0_2 : Int) : St := mkT 37 [(0, .sc (.string p0)), (3, .ref (2003, 0) 0 v0_0.length), (4, .sc (.int .i64 v0_1)), (5, .sc (.int .i64 v0_2))] [((2003, 0), some ⟨9, 1, List.map strV v0_0, false, true⟩)]
set_option maxRecDepth 4000 in
set_option maxHeartbeats 800000 in
theorem ws_Labels (p0 : ByteArray) (r0 : List ByteArray) (h : s_Labels p0 = some r0) : Runs Tryz.prog 86 [.sc (.string p0)] [] (.own 9 1 (List.map strV r0)) [] := by
 unfold s_Labels at h
 refine runsR [.tmp 2] Tryz.func86 rfl rfl rfl rfl ?_
 rw [Tryz.ntmps86]
 refine tri_sr ?_
 refine s_mv (.inr rfl) (v := .nils) rfl rfl rfl rfl ?_
 refine rt_nil ?_
 refine tri_sr ?_
 refine s_buildSlice (rows' := List.map strV ([] : List ByteArray)) rfl rfl rfl sl91 zc9 rfl rfl rfl rfl rfl rfl rfl rfl rfl ?_
 refine m2 ?_
 refine rt_nil ?_
 refine tri_sr ?_
 refine s_mv (.inr rfl) (v := .sc (.int .i64 0)) rfl rfl rfl rfl ?_
 refine rt_nil ?_
 refine tri_seq ?_
 refine tri_sr ?_
 refine s_mv (.inr rfl) (v := .sc (.int .i64 0)) rfl rfl rfl rfl ?_
 refine rt_nil ?_
 refine tri_block ?_
 refine tri_loop (ι := { p : Nat × (List ByteArray) × Int × Int // s_Labels_l0 p0 p.1 p.2.1 p.2.2.1 p.2.2.2 = some r0 }) (fun p => inv_s_Labels_0 p0 p.1.2.1 p.1.2.2.1 p.1.2.2.2) (fun p => p.1.1) ⟨(fuel0, ([] : List ByteArray), 0, 0), h⟩ ?_ ?_
 ·skip
  refine entX [((2003, 0), ⟨9, 1, List.map strV ([] : List ByteArray), false, true⟩, some (6, 0))] [] ⟨⟨rfl, _, rfl, rfl, rfl, rfl, id, rowsCv_eq rfl (allFree_map strV_free), rowsZ_map strV_len⟩, trivial⟩ trivial rfl rfl ?_
  exact ⟨(.free rfl), (.ref rfl), (.free rfl), (.free rfl), trivial⟩
 ·rintro ⟨⟨f0, v0_0, v0_1, v0_2⟩, h⟩
  replace h : s_Labels_l0 p0 f0 v0_0 v0_1 v0_2 = some r0 := h
  cases f0 with
  | zero => cases h
  | succ f0 =>
  rw [s_Labels_l0] at h
  show Tri _ _ _ (inv_s_Labels_0 p0 v0_0 v0_1 v0_2)
  refine tri_seq ?_
  refine tri_cutI (ι := { p : Bool // s_Labels_j1 p0 v0_0 v0_1 v0_2 (s_Labels_l0 p0 f0) p = some r0 }) (fun p => inv_s_Labels_1 p0 v0_0 v0_1 v0_2 p.1) ?_ ?_
  ·skip
   refine tri_region ?_
   refine m1 ?_
   refine m1 ?_
   refine s_of (st_lenS rfl rfl iss9) rfl rfl rfl rfl ?_
   refine s_of (st_leq rfl rfl rfl) rfl rfl rfl rfl ?_
   refine m1 ?_
   refine s_split (t := 11) rfl (fun b1 => ?_) (fun b1 => ?_)
   ·replace h := cond_t h b1
    refine m1 ?_
    refine s_of (st_neS rfl rfl rfl) rfl rfl rfl rfl ?_
    refine s_pickT rfl rfl (by conv => lhs; whnf) rfl rfl rfl ?_
    refine rt_nil ?_
    refine Exists.intro ⟨!decide (p0 = (⟨#[]⟩ : ByteArray)), h⟩ ?_
    refine entX [((2003, 0), ⟨9, 1, List.map strV v0_0, false, true⟩, some (2003, 0))] [] ⟨⟨rfl, _, rfl, rfl, rfl, rfl, id, rowsCv_eq rfl (allFree_map strV_free), rowsZ_map strV_len⟩, trivial⟩ trivial rfl rfl ?_
    exact ⟨(.free rfl), (.ref rfl), (.free rfl), (.free rfl), (.free rfl), trivial⟩
   ·replace h := cond_f h b1
    refine s_skip rfl rfl rfl ?_
    refine s_skip rfl rfl rfl ?_
    refine s_pickF rfl rfl (v := .sc (.bool false)) rfl rfl rfl rfl ?_
    refine rt_nil ?_
    refine Exists.intro ⟨false, h⟩ ?_
    refine entX [((2003, 0), ⟨9, 1, List.map strV v0_0, false, true⟩, some (2003, 0))] [] ⟨⟨rfl, _, rfl, rfl, rfl, rfl, id, rowsCv_eq rfl (allFree_map strV_free), rowsZ_map strV_len⟩, trivial⟩ trivial rfl rfl ?_
    exact ⟨(.free rfl), (.ref rfl), (.free rfl), (.free rfl), (.free rfl), trivial⟩
  ·rintro ⟨j1_0, h⟩
   replace h : s_Labels_j1 p0 v0_0 v0_1 v0_2 (s_Labels_l0 p0 f0) j1_0 = some r0 := h
   unfold s_Labels_j1 at h
   show Tri _ _ _ (inv_s_Labels_1 p0 v0_0 v0_1 v0_2 j1_0)
   refine tri_cond rfl (fun c1 => ?_) (fun c1 => ?_)
   ·replace h := cond_t h c1
    refine tri_skip ?_
    refine tri_seq ?_
    refine tri_block ?_
    refine tri_cutI (ι := { p : Bool // s_Labels_j2 p0 v0_0 v0_1 v0_2 (s_Labels_l0 p0 f0) p = some r0 }) (fun p => inv_s_Labels_2 p0 v0_0 v0_1 v0_2 p.1) ?_ ?_
    ·skip
     refine tri_region ?_
     refine m1 ?_
     refine m1 ?_
     refine s_of (st_lenS rfl rfl iss9) rfl rfl rfl rfl ?_
     refine s_of (st_eqI rfl rfl rfl) rfl rfl rfl rfl ?_
     refine m1 ?_
     refine s_split (t := 21) rfl (fun b2 => ?_) (fun b2 => ?_)
     ·replace h := cond_t h b2
      refine s_skip rfl rfl rfl ?_
      refine s_skip rfl rfl rfl ?_
      refine s_skip rfl rfl rfl ?_
      refine s_skip rfl rfl rfl ?_
      refine s_pickT rfl rfl (v := .sc (.bool true)) rfl rfl rfl rfl ?_
      refine rt_nil ?_
      refine Exists.intro ⟨true, h⟩ ?_
      refine entX [((2003, 0), ⟨9, 1, List.map strV v0_0, false, true⟩, some (2003, 0))] [] ⟨⟨rfl, _, rfl, rfl, rfl, rfl, id, rowsCv_eq rfl (allFree_map strV_free), rowsZ_map strV_len⟩, trivial⟩ trivial rfl rfl ?_
      exact ⟨(.free rfl), (.ref rfl), (.free rfl), (.free rfl), (.free rfl), trivial⟩
     ·replace h := cond_f h b2
      refine m1 ?_
      refine m1 ?_
      refine bnd1_elim h fun x3 q4 h => ?_
      refine s_idxS rfl rfl rfl iss9 q4 rfl rfl rfl ?_
      refine s_of (st_eqI rfl rfl rfl) rfl rfl rfl rfl ?_
      refine s_pickF rfl rfl (by conv => lhs; whnf) rfl rfl rfl ?_
      refine rt_nil ?_
      refine Exists.intro ⟨decide (x3 = 46), h⟩ ?_
      refine entX [((2003, 0), ⟨9, 1, List.map strV v0_0, false, true⟩, some (2003, 0))] [] ⟨⟨rfl, _, rfl, rfl, rfl, rfl, id, rowsCv_eq rfl (allFree_map strV_free), rowsZ_map strV_len⟩, trivial⟩ trivial rfl rfl ?_
      exact ⟨(.free rfl), (.ref rfl), (.free rfl), (.free rfl), (.free rfl), trivial⟩
    ·rintro ⟨j2_0, h⟩
     replace h : s_Labels_j2 p0 v0_0 v0_1 v0_2 (s_Labels_l0 p0 f0) j2_0 = some r0 := h
     unfold s_Labels_j2 at h
     show Tri _ _ _ (inv_s_Labels_2 p0 v0_0 v0_1 v0_2 j2_0)
     refine tri_cond rfl (fun c2 => ?_) (fun c2 => ?_)
     ·replace h := cond_t h c2
      refine tri_sr ?_
      refine m1 ?_
      refine m1 ?_
      refine m1 ?_
      refine m1 ?_
      refine grd_elim h fun g3 h => ?_
      refine s_sliceS (a := v0_1) (b := v0_2) rfl rfl iss9 ⟨_, rfl⟩ ⟨_, rfl⟩ g3 rfl rfl rfl ?_
      refine s_buildSlice (rows' := List.map strV [p0.extract v0_1.toNat v0_2.toNat]) rfl rfl rfl sl91 zc9 rfl rfl rfl rfl rfl rfl rfl rfl rfl ?_
      refine grd_elim h fun g4 h => ?_
      refine s_appL rfl rfl rfl sl91 zc9 rfl rfl rfl rfl rfl rfl (src_refL rfl rfl) g4 rfl rfl ?_
      refine m2 ?_
      refine rt_nil ?_
      refine tri_region ?_
      refine m1 ?_
      refine grd_elim h fun g5 h => ?_
      refine s_addI rfl rfl rfl rfl g5 rfl rfl rfl ?_
      refine m2 ?_
      refine rt_nil ?_
      refine tri_region ?_
      refine m1 ?_
      refine grd_elim h fun g6 h => ?_
      refine s_addI rfl rfl rfl rfl g6 rfl rfl rfl ?_
      refine m2 ?_
      refine rt_nil ?_
      refine Exists.intro ⟨(f0, v0_0 ++ [p0.extract v0_1.toNat v0_2.toNat], v0_2 + 1, v0_2 + 1), h⟩ (And.intro (Nat.lt_succ_self _) ?_)
      refine entX [((2003, 0), ⟨9, 1, List.map strV (v0_0 ++ [p0.extract v0_1.toNat v0_2.toNat]), false, true⟩, some (33, 0))] [] ⟨⟨rfl, _, rfl, rfl, rfl, rfl, id, rowsCv_eq rfl (allFree_map strV_free), rowsZ_map strV_len⟩, trivial⟩ trivial rfl rfl ?_
      exact ⟨(.free rfl), (.ref rfl), (.free rfl), (.free rfl), trivial⟩
     ·replace h := cond_f h c2
      refine tri_skip ?_
      refine tri_region ?_
      refine m1 ?_
      refine grd_elim h fun g7 h => ?_
      refine s_addI rfl rfl rfl rfl g7 rfl rfl rfl ?_
      refine m2 ?_
      refine rt_nil ?_
      refine Exists.intro ⟨(f0, v0_0, v0_1, v0_2 + 1), h⟩ (And.intro (Nat.lt_succ_self _) ?_)
      refine entX [((2003, 0), ⟨9, 1, List.map strV v0_0, false, true⟩, some (2003, 0))] [] ⟨⟨rfl, _, rfl, rfl, rfl, rfl, id, rowsCv_eq rfl (allFree_map strV_free), rowsZ_map strV_len⟩, trivial⟩ trivial rfl rfl ?_
      exact ⟨(.free rfl), (.ref rfl), (.free rfl), (.free rfl), trivial⟩
   ·replace h := cond_f h c1
    refine tri_exit ?_
    refine tri_sr ?_
    refine m1 ?_
    refine m2 ?_
    refine rt_nil ?_
    refine tri_ret ?_
    have e0 := (some1 h); subst e0
    exact endY (v' := .ref (2000, 0) 0 v0_0.length) [((2000, 0), ⟨9, 1, List.map strV v0_0, false, true⟩, some (2003, 0))] [] (rvC (resTmp rfl) rvN) ⟨⟨rfl, _, rfl, rfl, rfl, rfl, id, rowsCv_eq rfl (allFree_map strV_free), rowsZ_map strV_len⟩, trivial⟩ trivial rfl rfl (by kernel_rfl) (by simp only [V.mat, V.mat1, V.mat0, matL, matT, List.length_map] <;> rfl) (.ref rfl)

/- spec.l2Byte -/

set_option maxRecDepth 4000 in
set_option maxHeartbeats 800000 in
theorem ws_l2Byte (p0 : Int) (r0 : Bool) (h : s_l2Byte p0 = some r0) : Runs Tryz.prog 139 [.sc (.int .u8 p0)] [] (.sc (.bool r0)) [] := by
 unfold s_l2Byte at h
 refine runsR [.tmp 2] Tryz.func139 rfl rfl rfl rfl ?_
 rw [Tryz.ntmps139]
 refine tri_sr ?_
 refine s_mv (.inr rfl) (v := .sc (.bool false)) rfl rfl rfl rfl ?_
 refine rt_nil ?_
 refine tri_sr ?_
 refine m1 ?_
 refine s_of (st_conv ik5 ik3 rfl rfl) rfl rfl rfl rfl ?_
 refine bnd1_elim h fun x1 q2 h => ?_
 refine s_callN (kb := []) (ns := []) (v := .sc (.bool x1)) rfl rfl cl82 (ws_l1In (IntKind.i64.wrap p0) 97 122 x1 q2) rfl (.cons (.free rfl) (.cons (.free rfl) (.cons (.free rfl) .nil))) trivial memNil .nil memNil rfl trivial memNil rfl rfl rfl rfl rfl rfl ?_
 refine m1 ?_
 refine s_split (t := 6) rfl (fun b3 => ?_) (fun b3 => ?_)
 ·replace h := cond_t h b3
  refine s_skip rfl rfl rfl ?_
  refine s_skip rfl rfl rfl ?_
  refine s_skip rfl rfl rfl ?_
  refine s_pickT rfl rfl (v := .sc (.bool true)) rfl rfl rfl rfl ?_
  refine m1 ?_
  refine s_skip rfl rfl rfl ?_
  refine s_skip rfl rfl rfl ?_
  refine s_pickT rfl rfl (v := .sc (.bool true)) rfl rfl rfl rfl ?_
  refine m1 ?_
  refine s_skip rfl rfl rfl ?_
  refine s_skip rfl rfl rfl ?_
  refine s_pickT rfl rfl (v := .sc (.bool true)) rfl rfl rfl rfl ?_
  refine m2 ?_
  refine rt_nil ?_
  refine tri_ret ?_
  have e0 := (some1 h); subst e0
  exact endY [] [] (rvC (resTmp rfl) rvN) trivial trivial rfl rfl rfl rfl (.free rfl)
 ·replace h := cond_f h b3
  refine m1 ?_
  refine s_of (st_conv ik5 ik3 rfl rfl) rfl rfl rfl rfl ?_
  refine bnd1_elim h fun x4 q5 h => ?_
  refine s_callN (kb := []) (ns := []) (v := .sc (.bool x4)) rfl rfl cl82 (ws_l1In (IntKind.i64.wrap p0) 48 57 x4 q5) rfl (.cons (.free rfl) (.cons (.free rfl) (.cons (.free rfl) .nil))) trivial memNil .nil memNil rfl trivial memNil rfl rfl rfl rfl rfl rfl ?_
  refine s_pickF rfl rfl (by conv => lhs; whnf) rfl rfl rfl ?_
  refine m1 ?_
  refine s_split (t := 11) rfl (fun b6 => ?_) (fun b6 => ?_)
  ·replace h := cond_t h b6
   refine s_skip rfl rfl rfl ?_
   refine s_skip rfl rfl rfl ?_
   refine s_pickT rfl rfl (v := .sc (.bool true)) rfl rfl rfl rfl ?_
   refine m1 ?_
   refine s_skip rfl rfl rfl ?_
   refine s_skip rfl rfl rfl ?_
   refine s_pickT rfl rfl (v := .sc (.bool true)) rfl rfl rfl rfl ?_
   refine m2 ?_
   refine rt_nil ?_
   refine tri_ret ?_
   have e0 := (some1 h); subst e0
   exact endY [] [] (rvC (resTmp rfl) rvN) trivial trivial rfl rfl rfl rfl (.free rfl)
  ·replace h := cond_f h b6
   refine m1 ?_
   refine s_of (st_eqI rfl rfl rfl) rfl rfl rfl rfl ?_
   refine s_pickF rfl rfl (by conv => lhs; whnf) rfl rfl rfl ?_
   refine m1 ?_
   refine s_split (t := 15) rfl (fun b7 => ?_) (fun b7 => ?_)
   ·replace h := cond_t h b7
    refine s_skip rfl rfl rfl ?_
    refine s_skip rfl rfl rfl ?_
    refine s_pickT rfl rfl (v := .sc (.bool true)) rfl rfl rfl rfl ?_
    refine m2 ?_
    refine rt_nil ?_
    refine tri_ret ?_
    have e0 := (some1 h); subst e0
    exact endY [] [] (rvC (resTmp rfl) rvN) trivial trivial rfl rfl rfl rfl (.free rfl)
   ·replace h := cond_f h b7
    refine m1 ?_
    refine s_of (st_eqI rfl rfl rfl) rfl rfl rfl rfl ?_
    refine s_pickF rfl rfl (by conv => lhs; whnf) rfl rfl rfl ?_
    refine m2 ?_
    refine rt_nil ?_
    refine tri_ret ?_
    have e0 := (some1 h); subst e0
    exact endY [] [] (rvC (resTmp rfl) rvN) trivial trivial rfl rfl rfl rfl (.free rfl)

/- spec.LabelOk -/
def inv_s_LabelOk_1 (p0 : ByteArray) (v1_0 : Int) : St := mkT 18 [(0, .sc (.string p0)), (3, .sc (.int .i64 v1_0))] []
def inv_s_LabelOk_0 (p0 : ByteArray) : St := mkT 18 [(0, .sc (.string p0))] []
set_option maxRecDepth 4000 in
set_option maxHeartbeats 800000 in
theorem ws_LabelOk (p0 : ByteArray) (r0 : Bool) (h : s_LabelOk p0 = some r0) : Runs Tryz.prog 120 [.sc (.string p0)] [] (.sc (.bool r0)) [] := by
 unfold s_LabelOk at h
 refine runsR [.tmp 2] Tryz.func120 rfl rfl rfl rfl ?_
 rw [Tryz.ntmps120]
 refine tri_sr ?_
 refine s_mv (.inr rfl) (v := .sc (.bool false)) rfl rfl rfl rfl ?_
 refine rt_nil ?_
 refine tri_cutI (ι := { p : Unit // s_LabelOk_j0 p0 = some r0 }) (fun p => inv_s_LabelOk_0 p0) ?_ ?_
 ·skip
  refine tri_sr ?_
  refine s_mv (.inr rfl) (v := .sc (.int .i64 0)) rfl rfl rfl rfl ?_
  refine rt_nil ?_
  refine tri_block ?_
  refine tri_loop (ι := { p : Nat × Int // s_LabelOk_l1 p0 p.1 p.2 = some r0 }) (fun p => inv_s_LabelOk_1 p0 p.1.2) (fun p => p.1.1) ⟨(fuel0, 0), h⟩ ?_ ?_
  ·skip
   refine entX [] [] trivial trivial rfl rfl ?_
   exact ⟨(.free rfl), (.free rfl), trivial⟩
  ·rintro ⟨⟨f1, v1_0⟩, h⟩
   replace h : s_LabelOk_l1 p0 f1 v1_0 = some r0 := h
   cases f1 with
   | zero => cases h
   | succ f1 =>
   rw [s_LabelOk_l1] at h
   show Tri _ _ _ (inv_s_LabelOk_1 p0 v1_0)
   refine tri_seq ?_
   refine tri_sr ?_
   refine m1 ?_
   refine m1 ?_
   refine s_of (st_lenS rfl rfl iss9) rfl rfl rfl rfl ?_
   refine s_of (st_lss rfl rfl rfl) rfl rfl rfl rfl ?_
   refine rt_nil ?_
   refine tri_cond rfl (fun c1 => ?_) (fun c1 => ?_)
   ·replace h := cond_t h c1
    refine tri_skip ?_
    refine tri_seq ?_
    refine tri_block ?_
    refine tri_sr ?_
    refine m1 ?_
    refine m1 ?_
    refine bnd1_elim h fun x2 q3 h => ?_
    refine s_idxS rfl rfl rfl iss9 q3 rfl rfl rfl ?_
    refine bnd1_elim h fun x4 q5 h => ?_
    refine s_callN (kb := []) (ns := []) (v := .sc (.bool x4)) rfl rfl cl139 (ws_l2Byte x2 x4 q5) rfl (.cons (.free rfl) .nil) trivial memNil .nil memNil rfl trivial memNil rfl rfl rfl rfl rfl rfl ?_
    refine s_of (st_not rfl rfl) rfl rfl rfl rfl ?_
    refine rt_nil ?_
    refine tri_cond rfl (fun c6 => ?_) (fun c6 => ?_)
    ·replace h := cond_t h c6
     refine tri_sr ?_
     refine s_mv (.inr rfl) (v := .sc (.bool false)) rfl rfl rfl rfl ?_
     refine rt_nil ?_
     refine tri_ret ?_
     have e0 := (some1 h); subst e0
     exact endY [] [] (rvC (resTmp rfl) rvN) trivial trivial rfl rfl rfl rfl (.free rfl)
    ·replace h := cond_f h c6
     refine tri_skip ?_
     refine tri_region ?_
     refine m1 ?_
     refine grd_elim h fun g7 h => ?_
     refine s_addI rfl rfl rfl rfl g7 rfl rfl rfl ?_
     refine m2 ?_
     refine rt_nil ?_
     refine Exists.intro ⟨(f1, v1_0 + 1), h⟩ (And.intro (Nat.lt_succ_self _) ?_)
     refine entX [] [] trivial trivial rfl rfl ?_
     exact ⟨(.free rfl), (.free rfl), trivial⟩
   ·replace h := cond_f h c1
    refine tri_exit ?_
    refine Exists.intro ⟨(), h⟩ ?_
    refine entX [] [] trivial trivial rfl rfl ?_
    exact ⟨(.free rfl), trivial⟩
 ·rintro ⟨u, h⟩
  replace h : s_LabelOk_j0 p0 = some r0 := h
  unfold s_LabelOk_j0 at h
  show Tri _ _ _ (inv_s_LabelOk_0 p0)
  refine tri_sr ?_
  refine m1 ?_
  refine s_of (st_lenS rfl rfl iss9) rfl rfl rfl rfl ?_
  refine bnd1_elim h fun x1 q2 h => ?_
  refine s_callN (kb := []) (ns := []) (v := .sc (.bool x1)) rfl rfl cl82 (ws_l1In (p0.size : Int) 1 12 x1 q2) rfl (.cons (.free rfl) (.cons (.free rfl) (.cons (.free rfl) .nil))) trivial memNil .nil memNil rfl trivial memNil rfl rfl rfl rfl rfl rfl ?_
  refine m2 ?_
  refine rt_nil ?_
  refine tri_ret ?_
  have e0 := (some1 h); subst e0
  exact endY [] [] (rvC (resTmp rfl) rvN) trivial trivial rfl rfl rfl rfl (.free rfl)

/- spec.NameOk -/
def inv_s_NameOk_1 (p0 : ByteArray) (x1 : List ByteArray) (v1_0 : Nat) : St := mkT 27 [(0, .sc (.string p0)), (3, .ref (6, 0) 0 x1.length), (4, .sc (.int .i64 (v1_0 : Int)))] [((6, 0), some ⟨9, 1, List.map strV x1, false, true⟩)]
def inv_s_NameOk_0 (p0 : ByteArray) (x1 : List ByteArray) : St := mkT 27 [(0, .sc (.string p0)), (3, .ref (6, 0) 0 x1.length)] [((6, 0), some ⟨9, 1, List.map strV x1, false, true⟩)]
set_option maxRecDepth 4000 in
set_option maxHeartbeats 800000 in
theorem ws_NameOk (p0 : ByteArray) (r0 : Bool) (h : s_NameOk p0 = some r0) : Runs Tryz.prog 84 [.sc (.string p0)] [] (.sc (.bool r0)) [] := by
 unfold s_NameOk at h
 refine runsR [.tmp 2] Tryz.func84 rfl rfl rfl rfl ?_
 rw [Tryz.ntmps84]
 refine tri_sr ?_
 refine s_mv (.inr rfl) (v := .sc (.bool false)) rfl rfl rfl rfl ?_
 refine rt_nil ?_
 refine tri_sr ?_
 refine m1 ?_
 refine bnd1_elim h fun x1 q2 h => ?_
 refine s_callN (kb := []) (ns := []) (v := .ref (6, 0) 0 x1.length) rfl rfl cl86 (ws_Labels p0 x1 q2) rfl (.cons (.free rfl) .nil) trivial memNil .nil memNil rfl ⟨(allSc_map strV_sc), trivial⟩ memNil rfl (by simp only [V.mat, V.mat1, V.mat0, matL, matT, List.length_map] <;> rfl) rfl rfl rfl rfl ?_
 refine m2 ?_
 refine rt_nil ?_
 refine tri_cutI (ι := { p : Unit // s_NameOk_j0 p0 x1 = some r0 }) (fun p => inv_s_NameOk_0 p0 x1) ?_ ?_
 ·skip
  refine tri_sr ?_
  refine s_mv (.inr rfl) (v := .sc (.int .i64 0)) rfl rfl rfl rfl ?_
  refine rt_nil ?_
  refine tri_block ?_
  refine tri_ownM (6, 0) rfl (fun hl1 => ?_)
  refine tri_loop (ι := { p : (List ByteArray) × Nat // x1.drop p.2 = p.1 ∧ s_NameOk_l1 p0 x1 p.1 p.2 = some r0 }) (fun p => inv_s_NameOk_1 p0 x1 p.1.2) (fun p => p.1.1.length) ⟨(x1, 0), rfl, h⟩ ?_ ?_
  ·skip
   refine entX [((6, 0), ⟨9, 1, List.map strV x1, false, true⟩, some (6, 0))] [] ⟨⟨rfl, _, rfl, rfl, rfl, rfl, id, rowsCv_eq rfl (allFree_map strV_free), rowsZ_map strV_len⟩, trivial⟩ trivial rfl rfl ?_
   exact ⟨(.free rfl), (.ref rfl), (.free rfl), trivial⟩
  ·rintro ⟨⟨lrs1, v1_0⟩, hd1, h⟩
   replace hd1 : x1.drop v1_0 = lrs1 := hd1
   replace h : s_NameOk_l1 p0 x1 lrs1 v1_0 = some r0 := h
   show Tri _ _ _ (inv_s_NameOk_1 p0 x1 v1_0)
   refine tri_seq ?_
   refine tri_sr ?_
   refine m1 ?_
   refine m1 ?_
   refine s_len (m := x1.length) rfl sl91 rfl rfl rfl rfl ?_
   refine s_of (st_lss rfl rfl rfl) rfl rfl rfl rfl ?_
   refine rt_nil ?_
   refine tri_cond rfl (fun c3 => ?_) (fun c3 => ?_)
   ·refine drop_elim hd1 c3 fun e1 rs1 he hx1 hn1 => ?_
    subst he
    rw [s_NameOk_l1] at h
    refine tri_skip ?_
    refine tri_seq ?_
    refine tri_block ?_
    refine tri_sr ?_
    refine m1 ?_
    refine m1 ?_
    refine s_index0 (i := v1_0) rfl rfl rfl rfl sl91 rfl (get_lt hx1) rfl rfl rfl ?_
    refine s_load rfl rfl rfl (rowG hx1) ty9 rfl (.inr rfl) (by conv => lhs; whnf) rfl rfl rfl ?_
    refine bnd1_elim h fun x4 q5 h => ?_
    refine s_callN (kb := []) (ns := []) (v := .sc (.bool x4)) rfl rfl cl120 (ws_LabelOk e1 x4 q5) rfl (.cons (.free rfl) .nil) trivial memNil .nil memNil rfl trivial memNil rfl rfl rfl rfl rfl rfl ?_
    refine s_of (st_not rfl rfl) rfl rfl rfl rfl ?_
    refine rt_nil ?_
    refine tri_cond rfl (fun c6 => ?_) (fun c6 => ?_)
    ·replace h := cond_t h c6
     refine tri_sr ?_
     refine s_mv (.inr rfl) (v := .sc (.bool false)) rfl rfl rfl rfl ?_
     refine rt_nil ?_
     refine tri_ret ?_
     have e0 := (some1 h); subst e0
     exact endY [] [] (rvC (resTmp rfl) rvN) trivial trivial rfl rfl rfl rfl (.free rfl)
    ·replace h := cond_f h c6
     refine tri_skip ?_
     refine tri_region ?_
     refine m1 ?_
     refine s_inc (a := v1_0) (b := 1) rfl rfl rfl rfl (by have := get_lt hx1; have := hl1; omega) rfl rfl rfl ?_
     refine m2 ?_
     refine rt_nil ?_
     refine Exists.intro ⟨(rs1, (v1_0 + 1)), hn1, h⟩ (And.intro (Nat.lt_succ_self _) ?_)
     refine entX [((6, 0), ⟨9, 1, List.map strV x1, false, true⟩, some (6, 0))] [] ⟨⟨rfl, _, rfl, rfl, rfl, rfl, id, rowsCv_eq rfl (allFree_map strV_free), rowsZ_map strV_len⟩, trivial⟩ trivial rfl rfl ?_
     exact ⟨(.free rfl), (.ref rfl), (.free rfl), trivial⟩
   ·have he := drop_f hd1 c3; subst he
    rw [s_NameOk_l1] at h
    refine tri_exit ?_
    refine Exists.intro ⟨(), h⟩ ?_
    refine entX [((6, 0), ⟨9, 1, List.map strV x1, false, true⟩, some (6, 0))] [] ⟨⟨rfl, _, rfl, rfl, rfl, rfl, id, rowsCv_eq rfl (allFree_map strV_free), rowsZ_map strV_len⟩, trivial⟩ trivial rfl rfl ?_
    exact ⟨(.free rfl), (.ref rfl), trivial⟩
 ·rintro ⟨u, h⟩
  replace h : s_NameOk_j0 p0 x1 = some r0 := h
  unfold s_NameOk_j0 at h
  show Tri _ _ _ (inv_s_NameOk_0 p0 x1)
  refine tri_sr ?_
  refine m1 ?_
  refine s_of (st_lenS rfl rfl iss9) rfl rfl rfl rfl ?_
  refine s_of (st_leq rfl rfl rfl) rfl rfl rfl rfl ?_
  refine m1 ?_
  refine s_split (t := 22) rfl (fun b3 => ?_) (fun b3 => ?_)
  ·replace h := cond_t h b3
   refine m1 ?_
   refine s_len (m := x1.length) rfl sl91 rfl rfl rfl rfl ?_
   refine s_of (st_leq rfl rfl rfl) rfl rfl rfl rfl ?_
   refine s_pickT rfl rfl (by conv => lhs; whnf) rfl rfl rfl ?_
   refine m2 ?_
   refine rt_nil ?_
   refine tri_ret ?_
   have e0 := (some1 h); subst e0
   exact endY [] [] (rvC (resTmp rfl) rvN) trivial trivial rfl rfl rfl rfl (.free rfl)
  ·replace h := cond_f h b3
   refine s_skip rfl rfl rfl ?_
   refine s_skip rfl rfl rfl ?_
   refine s_skip rfl rfl rfl ?_
   refine s_pickF rfl rfl (v := .sc (.bool false)) rfl rfl rfl rfl ?_
   refine m2 ?_
   refine rt_nil ?_
   refine tri_ret ?_
   have e0 := (some1 h); subst e0
   exact endY [] [] (rvC (resTmp rfl) rvN) trivial trivial rfl rfl rfl rfl (.free rfl)

/- spec.TypeOk -/

set_option maxRecDepth 4000 in
set_option maxHeartbeats 800000 in
theorem ws_TypeOk (p0 : Int) (r0 : Bool) (h : s_TypeOk p0 = some r0) : Runs Tryz.prog 97 [.sc (.int .i64 p0)] [] (.sc (.bool r0)) [] := by
 unfold s_TypeOk at h
 refine runsR [.tmp 2] Tryz.func97 rfl rfl rfl rfl ?_
 rw [Tryz.ntmps97]
 refine tri_sr ?_
 refine s_mv (.inr rfl) (v := .sc (.bool false)) rfl rfl rfl rfl ?_
 refine rt_nil ?_
 refine tri_sr ?_
 refine m1 ?_
 refine s_of (st_eqI rfl rfl rfl) rfl rfl rfl rfl ?_
 refine m1 ?_
 refine s_split (t := 5) rfl (fun b1 => ?_) (fun b1 => ?_)
 ·replace h := cond_t h b1
  refine s_skip rfl rfl rfl ?_
  refine s_skip rfl rfl rfl ?_
  refine s_pickT rfl rfl (v := .sc (.bool true)) rfl rfl rfl rfl ?_
  refine m1 ?_
  refine s_skip rfl rfl rfl ?_
  refine s_skip rfl rfl rfl ?_
  refine s_pickT rfl rfl (v := .sc (.bool true)) rfl rfl rfl rfl ?_
  refine m1 ?_
  refine s_skip rfl rfl rfl ?_
  refine s_skip rfl rfl rfl ?_
  refine s_pickT rfl rfl (v := .sc (.bool true)) rfl rfl rfl rfl ?_
  refine m1 ?_
  refine s_skip rfl rfl rfl ?_
  refine s_skip rfl rfl rfl ?_
  refine s_pickT rfl rfl (v := .sc (.bool true)) rfl rfl rfl rfl ?_
  refine m2 ?_
  refine rt_nil ?_
  refine tri_ret ?_
  have e0 := (some1 h); subst e0
  exact endY [] [] (rvC (resTmp rfl) rvN) trivial trivial rfl rfl rfl rfl (.free rfl)
 ·replace h := cond_f h b1
  refine m1 ?_
  refine s_of (st_eqI rfl rfl rfl) rfl rfl rfl rfl ?_
  refine s_pickF rfl rfl (by conv => lhs; whnf) rfl rfl rfl ?_
  refine m1 ?_
  refine s_split (t := 9) rfl (fun b2 => ?_) (fun b2 => ?_)
  ·replace h := cond_t h b2
   refine s_skip rfl rfl rfl ?_
   refine s_skip rfl rfl rfl ?_
   refine s_pickT rfl rfl (v := .sc (.bool true)) rfl rfl rfl rfl ?_
   refine m1 ?_
   refine s_skip rfl rfl rfl ?_
   refine s_skip rfl rfl rfl ?_
   refine s_pickT rfl rfl (v := .sc (.bool true)) rfl rfl rfl rfl ?_
   refine m1 ?_
   refine s_skip rfl rfl rfl ?_
   refine s_skip rfl rfl rfl ?_
   refine s_pickT rfl rfl (v := .sc (.bool true)) rfl rfl rfl rfl ?_
   refine m2 ?_
   refine rt_nil ?_
   refine tri_ret ?_
   have e0 := (some1 h); subst e0
   exact endY [] [] (rvC (resTmp rfl) rvN) trivial trivial rfl rfl rfl rfl (.free rfl)
  ·replace h := cond_f h b2
   refine m1 ?_
   refine s_of (st_eqI rfl rfl rfl) rfl rfl rfl rfl ?_
   refine s_pickF rfl rfl (by conv => lhs; whnf) rfl rfl rfl ?_
   refine m1 ?_
   refine s_split (t := 13) rfl (fun b3 => ?_) (fun b3 => ?_)
   ·replace h := cond_t h b3
    refine s_skip rfl rfl rfl ?_
    refine s_skip rfl rfl rfl ?_
    refine s_pickT rfl rfl (v := .sc (.bool true)) rfl rfl rfl rfl ?_
    refine m1 ?_
    refine s_skip rfl rfl rfl ?_
    refine s_skip rfl rfl rfl ?_
    refine s_pickT rfl rfl (v := .sc (.bool true)) rfl rfl rfl rfl ?_
    refine m2 ?_
    refine rt_nil ?_
    refine tri_ret ?_
    have e0 := (some1 h); subst e0
    exact endY [] [] (rvC (resTmp rfl) rvN) trivial trivial rfl rfl rfl rfl (.free rfl)
   ·replace h := cond_f h b3
    refine m1 ?_
    refine s_of (st_eqI rfl rfl rfl) rfl rfl rfl rfl ?_
    refine s_pickF rfl rfl (by conv => lhs; whnf) rfl rfl rfl ?_
    refine m1 ?_
    refine s_split (t := 17) rfl (fun b4 => ?_) (fun b4 => ?_)
    ·replace h := cond_t h b4
     refine s_skip rfl rfl rfl ?_
     refine s_skip rfl rfl rfl ?_
     refine s_pickT rfl rfl (v := .sc (.bool true)) rfl rfl rfl rfl ?_
     refine m2 ?_
     refine rt_nil ?_
     refine tri_ret ?_
     have e0 := (some1 h); subst e0
     exact endY [] [] (rvC (resTmp rfl) rvN) trivial trivial rfl rfl rfl rfl (.free rfl)
    ·replace h := cond_f h b4
     refine m1 ?_
     refine s_of (st_eqI rfl rfl rfl) rfl rfl rfl rfl ?_
     refine s_pickF rfl rfl (by conv => lhs; whnf) rfl rfl rfl ?_
     refine m2 ?_
     refine rt_nil ?_
     refine tri_ret ?_
     have e0 := (some1 h); subst e0
     exact endY [] [] (rvC (resTmp rfl) rvN) trivial trivial rfl rfl rfl rfl (.free rfl)

/- spec.QuestOk -/

set_option maxRecDepth 4000 in
set_option maxHeartbeats 800000 in
theorem ws_QuestOk (p0 : Quest) (r0 : Bool) (h : s_QuestOk p0 = some r0) : Runs Tryz.prog 58 [.agg (questV p0)] [] (.sc (.bool r0)) [] := by
 unfold s_QuestOk at h
 refine runsR [.tmp 2] Tryz.func58 rfl rfl rfl rfl ?_
 rw [Tryz.ntmps58]
 refine tri_sr ?_
 refine s_box rfl rfl rfl rfl rfl rfl rfl ?_
 refine s_mv (.inr rfl) (v := .sc (.bool false)) rfl rfl rfl rfl ?_
 refine rt_nil ?_
 refine tri_sr ?_
 refine s_fieldAddr rfl rfl fd25_0 rfl rfl rfl rfl ?_
 refine s_load rfl rfl rfl rfl ty9 rfl (.inr rfl) (by conv => lhs; whnf) rfl rfl rfl ?_
 refine bnd1_elim h fun x1 q2 h => ?_
 refine s_callN (kb := []) (ns := []) (v := .sc (.bool x1)) rfl rfl cl84 (ws_NameOk p0.name x1 q2) rfl (.cons (.free rfl) .nil) trivial memNil .nil memNil rfl trivial memNil rfl rfl rfl rfl rfl rfl ?_
 refine m1 ?_
 refine s_split (t := 6) rfl (fun b3 => ?_) (fun b3 => ?_)
 ·replace h := cond_t h b3
  refine s_fieldAddr rfl rfl fd25_1 rfl rfl rfl rfl ?_
  refine s_load rfl rfl rfl rfl ty3 rfl (.inr rfl) (by conv => lhs; whnf) rfl rfl rfl ?_
  refine bnd1_elim h fun x4 q5 h => ?_
  refine s_callN (kb := []) (ns := []) (v := .sc (.bool x4)) rfl rfl cl97 (ws_TypeOk p0.ty x4 q5) rfl (.cons (.free rfl) .nil) trivial memNil .nil memNil rfl trivial memNil rfl rfl rfl rfl rfl rfl ?_
  refine s_pickT rfl rfl (by conv => lhs; whnf) rfl rfl rfl ?_
  refine m2 ?_
  refine rt_nil ?_
  refine tri_ret ?_
  have e0 := (some1 h); subst e0
  exact endY [] [] (rvC (resTmp rfl) rvN) trivial trivial rfl rfl rfl rfl (.free rfl)
 ·replace h := cond_f h b3
  refine s_skip rfl rfl rfl ?_
  refine s_skip rfl rfl rfl ?_
  refine s_skip rfl rfl rfl ?_
  refine s_pickF rfl rfl (v := .sc (.bool false)) rfl rfl rfl rfl ?_
  refine m2 ?_
  refine rt_nil ?_
  refine tri_ret ?_
  have e0 := (some1 h); subst e0
  exact endY [] [] (rvC (resTmp rfl) rvN) trivial trivial rfl rfl rfl rfl (.free rfl)

/- spec.l5Text -/
def inv_s_l5Text_1 (p0 : ByteArray) (v1_0 : Int) : St := mkT 19 [(0, .sc (.string p0)), (3, .sc (.int .i64 v1_0))] []
def inv_s_l5Text_0 (p0 : ByteArray) : St := mkT 19 [(0, .sc (.string p0))] []
set_option maxRecDepth 4000 in
set_option maxHeartbeats 800000 in
theorem ws_l5Text (p0 : ByteArray) (r0 : Bool) (h : s_l5Text p0 = some r0) : Runs Tryz.prog 138 [.sc (.string p0)] [] (.sc (.bool r0)) [] := by
 unfold s_l5Text at h
 refine runsR [.tmp 2] Tryz.func138 rfl rfl rfl rfl ?_
 rw [Tryz.ntmps138]
 refine tri_sr ?_
 refine s_mv (.inr rfl) (v := .sc (.bool false)) rfl rfl rfl rfl ?_
 refine rt_nil ?_
 refine tri_cutI (ι := { p : Unit // s_l5Text_j0 p0 = some r0 }) (fun p => inv_s_l5Text_0 p0) ?_ ?_
 ·skip
  refine tri_sr ?_
  refine s_mv (.inr rfl) (v := .sc (.int .i64 0)) rfl rfl rfl rfl ?_
  refine rt_nil ?_
  refine tri_block ?_
  refine tri_loop (ι := { p : Nat × Int // s_l5Text_l1 p0 p.1 p.2 = some r0 }) (fun p => inv_s_l5Text_1 p0 p.1.2) (fun p => p.1.1) ⟨(fuel0, 0), h⟩ ?_ ?_
  ·skip
   refine entX [] [] trivial trivial rfl rfl ?_
   exact ⟨(.free rfl), (.free rfl), trivial⟩
  ·rintro ⟨⟨f1, v1_0⟩, h⟩
   replace h : s_l5Text_l1 p0 f1 v1_0 = some r0 := h
   cases f1 with
   | zero => cases h
   | succ f1 =>
   rw [s_l5Text_l1] at h
   show Tri _ _ _ (inv_s_l5Text_1 p0 v1_0)
   refine tri_seq ?_
   refine tri_sr ?_
   refine m1 ?_
   refine m1 ?_
   refine s_of (st_lenS rfl rfl iss9) rfl rfl rfl rfl ?_
   refine s_of (st_lss rfl rfl rfl) rfl rfl rfl rfl ?_
   refine rt_nil ?_
   refine tri_cond rfl (fun c1 => ?_) (fun c1 => ?_)
   ·replace h := cond_t h c1
    refine tri_skip ?_
    refine tri_seq ?_
    refine tri_block ?_
    refine tri_sr ?_
    refine m1 ?_
    refine m1 ?_
    refine bnd1_elim h fun x2 q3 h => ?_
    refine s_idxS rfl rfl rfl iss9 q3 rfl rfl rfl ?_
    refine s_of (st_conv ik5 ik3 rfl rfl) rfl rfl rfl rfl ?_
    refine bnd1_elim h fun x4 q5 h => ?_
    refine s_callN (kb := []) (ns := []) (v := .sc (.bool x4)) rfl rfl cl82 (ws_l1In (IntKind.i64.wrap x2) 33 126 x4 q5) rfl (.cons (.free rfl) (.cons (.free rfl) (.cons (.free rfl) .nil))) trivial memNil .nil memNil rfl trivial memNil rfl rfl rfl rfl rfl rfl ?_
    refine s_of (st_not rfl rfl) rfl rfl rfl rfl ?_
    refine rt_nil ?_
    refine tri_cond rfl (fun c6 => ?_) (fun c6 => ?_)
    ·replace h := cond_t h c6
     refine tri_sr ?_
     refine s_mv (.inr rfl) (v := .sc (.bool false)) rfl rfl rfl rfl ?_
     refine rt_nil ?_
     refine tri_ret ?_
     have e0 := (some1 h); subst e0
     exact endY [] [] (rvC (resTmp rfl) rvN) trivial trivial rfl rfl rfl rfl (.free rfl)
    ·replace h := cond_f h c6
     refine tri_skip ?_
     refine tri_region ?_
     refine m1 ?_
     refine grd_elim h fun g7 h => ?_
     refine s_addI rfl rfl rfl rfl g7 rfl rfl rfl ?_
     refine m2 ?_
     refine rt_nil ?_
     refine Exists.intro ⟨(f1, v1_0 + 1), h⟩ (And.intro (Nat.lt_succ_self _) ?_)
     refine entX [] [] trivial trivial rfl rfl ?_
     exact ⟨(.free rfl), (.free rfl), trivial⟩
   ·replace h := cond_f h c1
    refine tri_exit ?_
    refine Exists.intro ⟨(), h⟩ ?_
    refine entX [] [] trivial trivial rfl rfl ?_
    exact ⟨(.free rfl), trivial⟩
 ·rintro ⟨u, h⟩
  replace h : s_l5Text_j0 p0 = some r0 := h
  unfold s_l5Text_j0 at h
  show Tri _ _ _ (inv_s_l5Text_0 p0)
  refine tri_sr ?_
  refine m1 ?_
  refine s_of (st_lenS rfl rfl iss9) rfl rfl rfl rfl ?_
  refine s_of (st_leq rfl rfl rfl) rfl rfl rfl rfl ?_
  refine m2 ?_
  refine rt_nil ?_
  refine tri_ret ?_
  have e0 := (some1 h); subst e0
  exact endY [] [] (rvC (resTmp rfl) rvN) trivial trivial rfl rfl rfl rfl (.free rfl)

/- spec.RecordOk -/
def inv_s_RecordOk_1 (p0 : Rec) (j1_0 : Bool) : St := mkT 79 [(1, .ptr (1, 0) 0 0), (14, .sc (.int .i64 p0.ty)), (30, .sc (.bool j1_0))] [((1, 0), some ⟨87, 6, [[.sc (.string p0.name), .sc (.int .i64 p0.ty), .sc (.int .i64 p0.ttl), .sc (.int .i64 p0.n), .sc (.string p0.host), .sc (.string p0.text)]], false, true⟩)]
def inv_s_RecordOk_0 (p0 : Rec) (j0_0 : Bool) : St := mkT 79 [(1, .ptr (1, 0) 0 0), (12, .sc (.bool j0_0))] [((1, 0), some ⟨87, 6, [[.sc (.string p0.name), .sc (.int .i64 p0.ty), .sc (.int .i64 p0.ttl), .sc (.int .i64 p0.n), .sc (.string p0.host), .sc (.string p0.text)]], false, true⟩)]
set_option maxRecDepth 4000 in
set_option maxHeartbeats 800000 in
theorem ws_RecordOk (p0 : Rec) (r0 : Bool) (h : s_RecordOk p0 = some r0) : Runs Tryz.prog 119 [.agg (recV p0)] [] (.sc (.bool r0)) [] := by
 unfold s_RecordOk at h
 refine runsR [.tmp 2] Tryz.func119 rfl rfl rfl rfl ?_
 rw [Tryz.ntmps119]
 refine tri_sr ?_
 refine s_box rfl rfl rfl rfl rfl rfl rfl ?_
 refine s_mv (.inr rfl) (v := .sc (.bool false)) rfl rfl rfl rfl ?_
 refine rt_nil ?_
 refine tri_seq ?_
 refine tri_cutI (ι := { p : Bool // s_RecordOk_j0 p0 p = some r0 }) (fun p => inv_s_RecordOk_0 p0 p.1) ?_ ?_
 ·skip
  refine tri_region ?_
  refine s_fieldAddr rfl rfl fd87_0 rfl rfl rfl rfl ?_
  refine s_load rfl rfl rfl rfl ty9 rfl (.inr rfl) (by conv => lhs; whnf) rfl rfl rfl ?_
  refine bnd1_elim h fun x1 q2 h => ?_
  refine s_callN (kb := []) (ns := []) (v := .sc (.bool x1)) rfl rfl cl84 (ws_NameOk p0.name x1 q2) rfl (.cons (.free rfl) .nil) trivial memNil .nil memNil rfl trivial memNil rfl rfl rfl rfl rfl rfl ?_
  refine s_of (st_not rfl rfl) rfl rfl rfl rfl ?_
  refine m1 ?_
  refine s_split (t := 7) rfl (fun b3 => ?_) (fun b3 => ?_)
  ·replace h := cond_t h b3
   refine s_skip rfl rfl rfl ?_
   refine s_skip rfl rfl rfl ?_
   refine s_skip rfl rfl rfl ?_
   refine s_skip rfl rfl rfl ?_
   refine s_pickT rfl rfl (v := .sc (.bool true)) rfl rfl rfl rfl ?_
   refine rt_nil ?_
   refine Exists.intro ⟨true, h⟩ ?_
   refine entX [((1, 0), ⟨87, 6, [[.sc (.string p0.name), .sc (.int .i64 p0.ty), .sc (.int .i64 p0.ttl), .sc (.int .i64 p0.n), .sc (.string p0.host), .sc (.string p0.text)]], false, true⟩, some (1, 0))] [] ⟨⟨rfl, _, rfl, rfl, rfl, rfl, id, rowsCv_one (.cons (.free rfl) (.cons (.free rfl) (.cons (.free rfl) (.cons (.free rfl) (.cons (.free rfl) (.cons (.free rfl) .nil)))))), rowsZ_one rfl⟩, trivial⟩ trivial rfl rfl ?_
   exact ⟨(.ptr rfl), (.free rfl), trivial⟩
  ·replace h := cond_f h b3
   refine s_fieldAddr rfl rfl fd87_2 rfl rfl rfl rfl ?_
   refine s_load rfl rfl rfl rfl ty3 rfl (.inr rfl) (by conv => lhs; whnf) rfl rfl rfl ?_
   refine bnd1_elim h fun x4 q5 h => ?_
   refine s_callN (kb := []) (ns := []) (v := .sc (.bool x4)) rfl rfl cl82 (ws_l1In p0.ttl 0 100000 x4 q5) rfl (.cons (.free rfl) (.cons (.free rfl) (.cons (.free rfl) .nil))) trivial memNil .nil memNil rfl trivial memNil rfl rfl rfl rfl rfl rfl ?_
   refine s_of (st_not rfl rfl) rfl rfl rfl rfl ?_
   refine s_pickF rfl rfl (by conv => lhs; whnf) rfl rfl rfl ?_
   refine rt_nil ?_
   refine Exists.intro ⟨!x4, h⟩ ?_
   refine entX [((1, 0), ⟨87, 6, [[.sc (.string p0.name), .sc (.int .i64 p0.ty), .sc (.int .i64 p0.ttl), .sc (.int .i64 p0.n), .sc (.string p0.host), .sc (.string p0.text)]], false, true⟩, some (1, 0))] [] ⟨⟨rfl, _, rfl, rfl, rfl, rfl, id, rowsCv_one (.cons (.free rfl) (.cons (.free rfl) (.cons (.free rfl) (.cons (.free rfl) (.cons (.free rfl) (.cons (.free rfl) .nil)))))), rowsZ_one rfl⟩, trivial⟩ trivial rfl rfl ?_
   exact ⟨(.ptr rfl), (.free rfl), trivial⟩
 ·rintro ⟨j0_0, h⟩
  replace h : s_RecordOk_j0 p0 j0_0 = some r0 := h
  unfold s_RecordOk_j0 at h
  show Tri _ _ _ (inv_s_RecordOk_0 p0 j0_0)
  refine tri_cond rfl (fun c1 => ?_) (fun c1 => ?_)
  ·replace h := cond_t h c1
   refine tri_sr ?_
   refine s_mv (.inr rfl) (v := .sc (.bool false)) rfl rfl rfl rfl ?_
   refine rt_nil ?_
   refine tri_ret ?_
   have e0 := (some1 h); subst e0
   exact endY [] [] (rvC (resTmp rfl) rvN) trivial trivial rfl rfl rfl rfl (.free rfl)
  ·replace h := cond_f h c1
   refine tri_skip ?_
   refine tri_seq ?_
   refine tri_sr ?_
   refine s_fieldAddr rfl rfl fd87_1 rfl rfl rfl rfl ?_
   refine s_load rfl rfl rfl rfl ty3 rfl (.inr rfl) (by conv => lhs; whnf) rfl rfl rfl ?_
   refine rt_nil ?_
   refine tri_block ?_
   refine tri_sr ?_
   refine s_of (st_eqI rfl rfl rfl) rfl rfl rfl rfl ?_
   refine m2 ?_
   refine rt_nil ?_
   refine tri_cond rfl (fun c2 => ?_) (fun c2 => ?_)
   ·replace h := cond_t h c2
    refine tri_sr ?_
    refine s_fieldAddr rfl rfl fd87_3 rfl rfl rfl rfl ?_
    refine s_load rfl rfl rfl rfl ty3 rfl (.inr rfl) (by conv => lhs; whnf) rfl rfl rfl ?_
    refine bnd1_elim h fun x3 q4 h => ?_
    refine s_callN (kb := []) (ns := []) (v := .sc (.bool x3)) rfl rfl cl82 (ws_l1In p0.n 0 2147483647 x3 q4) rfl (.cons (.free rfl) (.cons (.free rfl) (.cons (.free rfl) .nil))) trivial memNil .nil memNil rfl trivial memNil rfl rfl rfl rfl rfl rfl ?_
    refine m1 ?_
    refine s_split (t := 20) rfl (fun b5 => ?_) (fun b5 => ?_)
    ·replace h := cond_t h b5
     refine s_fieldAddr rfl rfl fd87_4 rfl rfl rfl rfl ?_
     refine s_load rfl rfl rfl rfl ty9 rfl (.inr rfl) (by conv => lhs; whnf) rfl rfl rfl ?_
     refine s_of (st_eqS rfl rfl rfl) rfl rfl rfl rfl ?_
     refine s_pickT rfl rfl (by conv => lhs; whnf) rfl rfl rfl ?_
     refine m1 ?_
     refine s_split (t := 25) rfl (fun b6 => ?_) (fun b6 => ?_)
     ·replace h := cond_t h b6
      refine s_fieldAddr rfl rfl fd87_5 rfl rfl rfl rfl ?_
      refine s_load rfl rfl rfl rfl ty9 rfl (.inr rfl) (by conv => lhs; whnf) rfl rfl rfl ?_
      refine s_of (st_eqS rfl rfl rfl) rfl rfl rfl rfl ?_
      refine s_pickT rfl rfl (by conv => lhs; whnf) rfl rfl rfl ?_
      refine m2 ?_
      refine rt_nil ?_
      refine tri_ret ?_
      have e0 := (some1 h); subst e0
      exact endY [] [] (rvC (resTmp rfl) rvN) trivial trivial rfl rfl rfl rfl (.free rfl)
     ·replace h := cond_f h b6
      refine s_skip rfl rfl rfl ?_
      refine s_skip rfl rfl rfl ?_
      refine s_skip rfl rfl rfl ?_
      refine s_pickF rfl rfl (v := .sc (.bool false)) rfl rfl rfl rfl ?_
      refine m2 ?_
      refine rt_nil ?_
      refine tri_ret ?_
      have e0 := (some1 h); subst e0
      exact endY [] [] (rvC (resTmp rfl) rvN) trivial trivial rfl rfl rfl rfl (.free rfl)
    ·replace h := cond_f h b5
     refine s_skip rfl rfl rfl ?_
     refine s_skip rfl rfl rfl ?_
     refine s_skip rfl rfl rfl ?_
     refine s_pickF rfl rfl (v := .sc (.bool false)) rfl rfl rfl rfl ?_
     refine m1 ?_
     refine s_skip rfl rfl rfl ?_
     refine s_skip rfl rfl rfl ?_
     refine s_skip rfl rfl rfl ?_
     refine s_pickF rfl rfl (v := .sc (.bool false)) rfl rfl rfl rfl ?_
     refine m2 ?_
     refine rt_nil ?_
     refine tri_ret ?_
     have e0 := (some1 h); subst e0
     exact endY [] [] (rvC (resTmp rfl) rvN) trivial trivial rfl rfl rfl rfl (.free rfl)
   ·replace h := cond_f h c2
    refine tri_cutI (ι := { p : Bool // s_RecordOk_j1 p0 p = some r0 }) (fun p => inv_s_RecordOk_1 p0 p.1) ?_ ?_
    ·skip
     refine tri_sr ?_
     refine s_of (st_eqI rfl rfl rfl) rfl rfl rfl rfl ?_
     refine m2 ?_
     refine rt_nil ?_
     refine tri_cond rfl (fun c7 => ?_) (fun c7 => ?_)
     ·replace h := cond_t h c7
      refine tri_skip ?_
      refine Exists.intro ⟨decide (p0.ty = 2), h⟩ ?_
      refine entX [((1, 0), ⟨87, 6, [[.sc (.string p0.name), .sc (.int .i64 p0.ty), .sc (.int .i64 p0.ttl), .sc (.int .i64 p0.n), .sc (.string p0.host), .sc (.string p0.text)]], false, true⟩, some (1, 0))] [] ⟨⟨rfl, _, rfl, rfl, rfl, rfl, id, rowsCv_one (.cons (.free rfl) (.cons (.free rfl) (.cons (.free rfl) (.cons (.free rfl) (.cons (.free rfl) (.cons (.free rfl) .nil)))))), rowsZ_one rfl⟩, trivial⟩ trivial rfl rfl ?_
      exact ⟨(.ptr rfl), (.free rfl), (.free rfl), trivial⟩
     ·replace h := cond_f h c7
      refine tri_region ?_
      refine s_of (st_eqI rfl rfl rfl) rfl rfl rfl rfl ?_
      refine m2 ?_
      refine rt_nil ?_
      refine Exists.intro ⟨decide (p0.ty = 5), h⟩ ?_
      refine entX [((1, 0), ⟨87, 6, [[.sc (.string p0.name), .sc (.int .i64 p0.ty), .sc (.int .i64 p0.ttl), .sc (.int .i64 p0.n), .sc (.string p0.host), .sc (.string p0.text)]], false, true⟩, some (1, 0))] [] ⟨⟨rfl, _, rfl, rfl, rfl, rfl, id, rowsCv_one (.cons (.free rfl) (.cons (.free rfl) (.cons (.free rfl) (.cons (.free rfl) (.cons (.free rfl) (.cons (.free rfl) .nil)))))), rowsZ_one rfl⟩, trivial⟩ trivial rfl rfl ?_
      exact ⟨(.ptr rfl), (.free rfl), (.free rfl), trivial⟩
    ·rintro ⟨j1_0, h⟩
     replace h : s_RecordOk_j1 p0 j1_0 = some r0 := h
     unfold s_RecordOk_j1 at h
     show Tri _ _ _ (inv_s_RecordOk_1 p0 j1_0)
     refine tri_cond rfl (fun c7 => ?_) (fun c7 => ?_)
     ·replace h := cond_t h c7
      refine tri_sr ?_
      refine s_fieldAddr rfl rfl fd87_3 rfl rfl rfl rfl ?_
      refine s_load rfl rfl rfl rfl ty3 rfl (.inr rfl) (by conv => lhs; whnf) rfl rfl rfl ?_
      refine s_of (st_eqI rfl rfl rfl) rfl rfl rfl rfl ?_
      refine m1 ?_
      refine s_split (t := 36) rfl (fun b8 => ?_) (fun b8 => ?_)
      ·replace h := cond_t h b8
       refine s_fieldAddr rfl rfl fd87_4 rfl rfl rfl rfl ?_
       refine s_load rfl rfl rfl rfl ty9 rfl (.inr rfl) (by conv => lhs; whnf) rfl rfl rfl ?_
       refine bnd1_elim h fun x9 q10 h => ?_
       refine s_callN (kb := []) (ns := []) (v := .sc (.bool x9)) rfl rfl cl84 (ws_NameOk p0.host x9 q10) rfl (.cons (.free rfl) .nil) trivial memNil .nil memNil rfl trivial memNil rfl rfl rfl rfl rfl rfl ?_
       refine s_pickT rfl rfl (by conv => lhs; whnf) rfl rfl rfl ?_
       refine m1 ?_
       refine s_split (t := 41) rfl (fun b11 => ?_) (fun b11 => ?_)
       ·replace h := cond_t h b11
        refine s_fieldAddr rfl rfl fd87_5 rfl rfl rfl rfl ?_
        refine s_load rfl rfl rfl rfl ty9 rfl (.inr rfl) (by conv => lhs; whnf) rfl rfl rfl ?_
        refine s_of (st_eqS rfl rfl rfl) rfl rfl rfl rfl ?_
        refine s_pickT rfl rfl (by conv => lhs; whnf) rfl rfl rfl ?_
        refine m2 ?_
        refine rt_nil ?_
        refine tri_ret ?_
        have e0 := (some1 h); subst e0
        exact endY [] [] (rvC (resTmp rfl) rvN) trivial trivial rfl rfl rfl rfl (.free rfl)
       ·replace h := cond_f h b11
        refine s_skip rfl rfl rfl ?_
        refine s_skip rfl rfl rfl ?_
        refine s_skip rfl rfl rfl ?_
        refine s_pickF rfl rfl (v := .sc (.bool false)) rfl rfl rfl rfl ?_
        refine m2 ?_
        refine rt_nil ?_
        refine tri_ret ?_
        have e0 := (some1 h); subst e0
        exact endY [] [] (rvC (resTmp rfl) rvN) trivial trivial rfl rfl rfl rfl (.free rfl)
      ·replace h := cond_f h b8
       refine s_skip rfl rfl rfl ?_
       refine s_skip rfl rfl rfl ?_
       refine s_skip rfl rfl rfl ?_
       refine s_pickF rfl rfl (v := .sc (.bool false)) rfl rfl rfl rfl ?_
       refine m1 ?_
       refine s_skip rfl rfl rfl ?_
       refine s_skip rfl rfl rfl ?_
       refine s_skip rfl rfl rfl ?_
       refine s_pickF rfl rfl (v := .sc (.bool false)) rfl rfl rfl rfl ?_
       refine m2 ?_
       refine rt_nil ?_
       refine tri_ret ?_
       have e0 := (some1 h); subst e0
       exact endY [] [] (rvC (resTmp rfl) rvN) trivial trivial rfl rfl rfl rfl (.free rfl)
     ·replace h := cond_f h c7
      refine tri_sr ?_
      refine s_of (st_eqI rfl rfl rfl) rfl rfl rfl rfl ?_
      refine m2 ?_
      refine rt_nil ?_
      refine tri_cond rfl (fun c12 => ?_) (fun c12 => ?_)
      ·replace h := cond_t h c12
       refine tri_sr ?_
       refine s_fieldAddr rfl rfl fd87_3 rfl rfl rfl rfl ?_
       refine s_load rfl rfl rfl rfl ty3 rfl (.inr rfl) (by conv => lhs; whnf) rfl rfl rfl ?_
       refine bnd1_elim h fun x13 q14 h => ?_
       refine s_callN (kb := []) (ns := []) (v := .sc (.bool x13)) rfl rfl cl82 (ws_l1In p0.n 0 100000 x13 q14) rfl (.cons (.free rfl) (.cons (.free rfl) (.cons (.free rfl) .nil))) trivial memNil .nil memNil rfl trivial memNil rfl rfl rfl rfl rfl rfl ?_
       refine m1 ?_
       refine s_split (t := 51) rfl (fun b15 => ?_) (fun b15 => ?_)
       ·replace h := cond_t h b15
        refine s_fieldAddr rfl rfl fd87_4 rfl rfl rfl rfl ?_
        refine s_load rfl rfl rfl rfl ty9 rfl (.inr rfl) (by conv => lhs; whnf) rfl rfl rfl ?_
        refine bnd1_elim h fun x16 q17 h => ?_
        refine s_callN (kb := []) (ns := []) (v := .sc (.bool x16)) rfl rfl cl84 (ws_NameOk p0.host x16 q17) rfl (.cons (.free rfl) .nil) trivial memNil .nil memNil rfl trivial memNil rfl rfl rfl rfl rfl rfl ?_
        refine s_pickT rfl rfl (by conv => lhs; whnf) rfl rfl rfl ?_
        refine m1 ?_
        refine s_split (t := 56) rfl (fun b18 => ?_) (fun b18 => ?_)
        ·replace h := cond_t h b18
         refine s_fieldAddr rfl rfl fd87_5 rfl rfl rfl rfl ?_
         refine s_load rfl rfl rfl rfl ty9 rfl (.inr rfl) (by conv => lhs; whnf) rfl rfl rfl ?_
         refine s_of (st_eqS rfl rfl rfl) rfl rfl rfl rfl ?_
         refine s_pickT rfl rfl (by conv => lhs; whnf) rfl rfl rfl ?_
         refine m2 ?_
         refine rt_nil ?_
         refine tri_ret ?_
         have e0 := (some1 h); subst e0
         exact endY [] [] (rvC (resTmp rfl) rvN) trivial trivial rfl rfl rfl rfl (.free rfl)
        ·replace h := cond_f h b18
         refine s_skip rfl rfl rfl ?_
         refine s_skip rfl rfl rfl ?_
         refine s_skip rfl rfl rfl ?_
         refine s_pickF rfl rfl (v := .sc (.bool false)) rfl rfl rfl rfl ?_
         refine m2 ?_
         refine rt_nil ?_
         refine tri_ret ?_
         have e0 := (some1 h); subst e0
         exact endY [] [] (rvC (resTmp rfl) rvN) trivial trivial rfl rfl rfl rfl (.free rfl)
       ·replace h := cond_f h b15
        refine s_skip rfl rfl rfl ?_
        refine s_skip rfl rfl rfl ?_
        refine s_skip rfl rfl rfl ?_
        refine s_pickF rfl rfl (v := .sc (.bool false)) rfl rfl rfl rfl ?_
        refine m1 ?_
        refine s_skip rfl rfl rfl ?_
        refine s_skip rfl rfl rfl ?_
        refine s_skip rfl rfl rfl ?_
        refine s_pickF rfl rfl (v := .sc (.bool false)) rfl rfl rfl rfl ?_
        refine m2 ?_
        refine rt_nil ?_
        refine tri_ret ?_
        have e0 := (some1 h); subst e0
        exact endY [] [] (rvC (resTmp rfl) rvN) trivial trivial rfl rfl rfl rfl (.free rfl)
      ·replace h := cond_f h c12
       refine tri_skip ?_
       refine tri_sr ?_
       refine s_fieldAddr rfl rfl fd87_1 rfl rfl rfl rfl ?_
       refine s_load rfl rfl rfl rfl ty3 rfl (.inr rfl) (by conv => lhs; whnf) rfl rfl rfl ?_
       refine s_of (st_eqI rfl rfl rfl) rfl rfl rfl rfl ?_
       refine m1 ?_
       refine s_split (t := 64) rfl (fun b19 => ?_) (fun b19 => ?_)
       ·replace h := cond_t h b19
        refine s_fieldAddr rfl rfl fd87_3 rfl rfl rfl rfl ?_
        refine s_load rfl rfl rfl rfl ty3 rfl (.inr rfl) (by conv => lhs; whnf) rfl rfl rfl ?_
        refine s_of (st_eqI rfl rfl rfl) rfl rfl rfl rfl ?_
        refine s_pickT rfl rfl (by conv => lhs; whnf) rfl rfl rfl ?_
        refine m1 ?_
        refine s_split (t := 69) rfl (fun b20 => ?_) (fun b20 => ?_)
        ·replace h := cond_t h b20
         refine s_fieldAddr rfl rfl fd87_4 rfl rfl rfl rfl ?_
         refine s_load rfl rfl rfl rfl ty9 rfl (.inr rfl) (by conv => lhs; whnf) rfl rfl rfl ?_
         refine s_of (st_eqS rfl rfl rfl) rfl rfl rfl rfl ?_
         refine s_pickT rfl rfl (by conv => lhs; whnf) rfl rfl rfl ?_
         refine m1 ?_
         refine s_split (t := 74) rfl (fun b21 => ?_) (fun b21 => ?_)
         ·replace h := cond_t h b21
          refine s_fieldAddr rfl rfl fd87_5 rfl rfl rfl rfl ?_
          refine s_load rfl rfl rfl rfl ty9 rfl (.inr rfl) (by conv => lhs; whnf) rfl rfl rfl ?_
          refine bnd1_elim h fun x22 q23 h => ?_
          refine s_callN (kb := []) (ns := []) (v := .sc (.bool x22)) rfl rfl cl138 (ws_l5Text p0.text x22 q23) rfl (.cons (.free rfl) .nil) trivial memNil .nil memNil rfl trivial memNil rfl rfl rfl rfl rfl rfl ?_
          refine s_pickT rfl rfl (by conv => lhs; whnf) rfl rfl rfl ?_
          refine m2 ?_
          refine rt_nil ?_
          refine tri_ret ?_
          have e0 := (some1 h); subst e0
          exact endY [] [] (rvC (resTmp rfl) rvN) trivial trivial rfl rfl rfl rfl (.free rfl)
         ·replace h := cond_f h b21
          refine s_skip rfl rfl rfl ?_
          refine s_skip rfl rfl rfl ?_
          refine s_skip rfl rfl rfl ?_
          refine s_pickF rfl rfl (v := .sc (.bool false)) rfl rfl rfl rfl ?_
          refine m2 ?_
          refine rt_nil ?_
          refine tri_ret ?_
          have e0 := (some1 h); subst e0
          exact endY [] [] (rvC (resTmp rfl) rvN) trivial trivial rfl rfl rfl rfl (.free rfl)
        ·replace h := cond_f h b20
         refine s_skip rfl rfl rfl ?_
         refine s_skip rfl rfl rfl ?_
         refine s_skip rfl rfl rfl ?_
         refine s_pickF rfl rfl (v := .sc (.bool false)) rfl rfl rfl rfl ?_
         refine m1 ?_
         refine s_skip rfl rfl rfl ?_
         refine s_skip rfl rfl rfl ?_
         refine s_skip rfl rfl rfl ?_
         refine s_pickF rfl rfl (v := .sc (.bool false)) rfl rfl rfl rfl ?_
         refine m2 ?_
         refine rt_nil ?_
         refine tri_ret ?_
         have e0 := (some1 h); subst e0
         exact endY [] [] (rvC (resTmp rfl) rvN) trivial trivial rfl rfl rfl rfl (.free rfl)
       ·replace h := cond_f h b19
        refine s_skip rfl rfl rfl ?_
        refine s_skip rfl rfl rfl ?_
        refine s_skip rfl rfl rfl ?_
        refine s_pickF rfl rfl (v := .sc (.bool false)) rfl rfl rfl rfl ?_
        refine m1 ?_
        refine s_skip rfl rfl rfl ?_
        refine s_skip rfl rfl rfl ?_
        refine s_skip rfl rfl rfl ?_
        refine s_pickF rfl rfl (v := .sc (.bool false)) rfl rfl rfl rfl ?_
        refine m1 ?_
        refine s_skip rfl rfl rfl ?_
        refine s_skip rfl rfl rfl ?_
        refine s_skip rfl rfl rfl ?_
        refine s_pickF rfl rfl (v := .sc (.bool false)) rfl rfl rfl rfl ?_
        refine m2 ?_
        refine rt_nil ?_
        refine tri_ret ?_
        have e0 := (some1 h); subst e0
        exact endY [] [] (rvC (resTmp rfl) rvN) trivial trivial rfl rfl rfl rfl (.free rfl)

/- spec.l7List -/
def inv_s_l7List_1 (p0 : List Rec) (v1_0 : Nat) : St := mkT 19 [(0, .lst 6 (List.map recV p0)), (3, .sc (.int .i64 (v1_0 : Int)))] []
def inv_s_l7List_0 (p0 : List Rec) : St := mkT 19 [(0, .lst 6 (List.map recV p0))] []
set_option maxRecDepth 4000 in
set_option maxHeartbeats 800000 in
theorem ws_l7List (p0 : List Rec) (r0 : Bool) (h : s_l7List p0 = some r0) : Runs Tryz.prog 83 [.lst 6 (List.map recV p0)] [] (.sc (.bool r0)) [] := by
 unfold s_l7List at h
 refine runsR [.tmp 2] Tryz.func83 rfl rfl rfl rfl ?_
 rw [Tryz.ntmps83]
 refine tri_sr ?_
 refine s_mv (.inr rfl) (v := .sc (.bool false)) rfl rfl rfl rfl ?_
 refine rt_nil ?_
 refine tri_cutI (ι := { p : Unit // s_l7List_j0 p0 = some r0 }) (fun p => inv_s_l7List_0 p0) ?_ ?_
 ·skip
  refine tri_sr ?_
  refine s_mv (.inr rfl) (v := .sc (.int .i64 0)) rfl rfl rfl rfl ?_
  refine rt_nil ?_
  refine tri_block ?_
  refine tri_lstM 0 rfl (fun hl1 => ?_)
  refine tri_loop (ι := { p : (List Rec) × Nat // p0.drop p.2 = p.1 ∧ s_l7List_l1 p0 p.1 p.2 = some r0 }) (fun p => inv_s_l7List_1 p0 p.1.2) (fun p => p.1.1.length) ⟨(p0, 0), rfl, h⟩ ?_ ?_
  ·skip
   refine entX [] [] trivial trivial rfl rfl ?_
   exact ⟨(.free rfl), (.free rfl), trivial⟩
  ·rintro ⟨⟨lrs1, v1_0⟩, hd1, h⟩
   replace hd1 : p0.drop v1_0 = lrs1 := hd1
   replace h : s_l7List_l1 p0 lrs1 v1_0 = some r0 := h
   show Tri _ _ _ (inv_s_l7List_1 p0 v1_0)
   refine tri_seq ?_
   refine tri_sr ?_
   refine m1 ?_
   refine m1 ?_
   refine s_lenL rfl sl26 rfl rfl rfl rfl ?_
   refine s_of (st_lss rfl rfl rfl) rfl rfl rfl rfl ?_
   refine rt_nil ?_
   refine tri_cond rfl (fun c1 => ?_) (fun c1 => ?_)
   ·refine drop_elim hd1 c1 fun e1 rs1 he hx1 hn1 => ?_
    subst he
    rw [s_l7List_l1] at h
    refine tri_skip ?_
    refine tri_seq ?_
    refine tri_block ?_
    refine tri_sr ?_
    refine m1 ?_
    refine m1 ?_
    refine s_indexF (i := v1_0) rfl rfl rfl sl26 (get_ltM hx1) rfl rfl rfl ?_
    refine s_loadFR rfl rfl (rowG hx1) ty87 rfl rfl rfl ?_
    refine bnd1_elim h fun x2 q3 h => ?_
    refine s_callN (kb := []) (ns := []) (v := .sc (.bool x2)) rfl rfl cl119 (ws_RecordOk e1 x2 q3) rfl (.cons (relAgg rfl) .nil) trivial memNil .nil memNil rfl trivial memNil rfl rfl rfl rfl rfl rfl ?_
    refine s_of (st_not rfl rfl) rfl rfl rfl rfl ?_
    refine rt_nil ?_
    refine tri_cond rfl (fun c4 => ?_) (fun c4 => ?_)
    ·replace h := cond_t h c4
     refine tri_sr ?_
     refine s_mv (.inr rfl) (v := .sc (.bool false)) rfl rfl rfl rfl ?_
     refine rt_nil ?_
     refine tri_ret ?_
     have e0 := (some1 h); subst e0
     exact endY [] [] (rvC (resTmp rfl) rvN) trivial trivial rfl rfl rfl rfl (.free rfl)
    ·replace h := cond_f h c4
     refine tri_skip ?_
     refine tri_region ?_
     refine m1 ?_
     refine s_inc (a := v1_0) (b := 1) rfl rfl rfl rfl (by have := get_lt hx1; have := hl1; omega) rfl rfl rfl ?_
     refine m2 ?_
     refine rt_nil ?_
     refine Exists.intro ⟨(rs1, (v1_0 + 1)), hn1, h⟩ (And.intro (Nat.lt_succ_self _) ?_)
     refine entX [] [] trivial trivial rfl rfl ?_
     exact ⟨(.free rfl), (.free rfl), trivial⟩
   ·have he := drop_f hd1 c1; subst he
    rw [s_l7List_l1] at h
    refine tri_exit ?_
    refine Exists.intro ⟨(), h⟩ ?_
    refine entX [] [] trivial trivial rfl rfl ?_
    exact ⟨(.free rfl), trivial⟩
 ·rintro ⟨u, h⟩
  replace h : s_l7List_j0 p0 = some r0 := h
  unfold s_l7List_j0 at h
  show Tri _ _ _ (inv_s_l7List_0 p0)
  refine tri_sr ?_
  refine m1 ?_
  refine s_lenL rfl sl26 rfl rfl rfl rfl ?_
  refine s_of (st_leq rfl rfl rfl) rfl rfl rfl rfl ?_
  refine m2 ?_
  refine rt_nil ?_
  refine tri_ret ?_
  have e0 := (some1 h); subst e0
  exact endY [] [] (rvC (resTmp rfl) rvN) trivial trivial rfl rfl rfl rfl (.free rfl)

/- spec.MsgOk -/

set_option maxRecDepth 4000 in
set_option maxHeartbeats 800000 in
theorem ws_MsgOk (p0 : MMsg) (r0 : Bool) (h : s_MsgOk p0 = some r0) : Runs Tryz.prog 42 [.agg (mMsgV p0)] [] (.sc (.bool r0)) [] := by
 unfold s_MsgOk at h
 refine runsR [.tmp 2] Tryz.func42 rfl rfl rfl rfl ?_
 rw [Tryz.ntmps42]
 refine tri_sr ?_
 refine s_box rfl rfl rfl rfl rfl rfl rfl ?_
 refine s_mv (.inr rfl) (v := .sc (.bool false)) rfl rfl rfl rfl ?_
 refine rt_nil ?_
 refine tri_sr ?_
 refine s_fieldAddr rfl rfl fd28_0 rfl rfl rfl rfl ?_
 refine s_load rfl rfl rfl rfl ty3 rfl (.inr rfl) (by conv => lhs; whnf) rfl rfl rfl ?_
 refine bnd1_elim h fun x1 q2 h => ?_
 refine s_callN (kb := []) (ns := []) (v := .sc (.bool x1)) rfl rfl cl82 (ws_l1In p0.id 0 65535 x1 q2) rfl (.cons (.free rfl) (.cons (.free rfl) (.cons (.free rfl) .nil))) trivial memNil .nil memNil rfl trivial memNil rfl rfl rfl rfl rfl rfl ?_
 refine m1 ?_
 refine s_split (t := 6) rfl (fun b3 => ?_) (fun b3 => ?_)
 ·replace h := cond_t h b3
  refine s_fieldAddr rfl rfl fd28_6 rfl rfl rfl rfl ?_
  refine s_load rfl rfl rfl rfl ty3 rfl (.inr rfl) (by conv => lhs; whnf) rfl rfl rfl ?_
  refine bnd1_elim h fun x4 q5 h => ?_
  refine s_callN (kb := []) (ns := []) (v := .sc (.bool x4)) rfl rfl cl82 (ws_l1In p0.code 0 15 x4 q5) rfl (.cons (.free rfl) (.cons (.free rfl) (.cons (.free rfl) .nil))) trivial memNil .nil memNil rfl trivial memNil rfl rfl rfl rfl rfl rfl ?_
  refine s_pickT rfl rfl (by conv => lhs; whnf) rfl rfl rfl ?_
  refine m1 ?_
  refine s_split (t := 11) rfl (fun b6 => ?_) (fun b6 => ?_)
  ·replace h := cond_t h b6
   refine s_fieldAddr rfl rfl fd28_7 rfl rfl rfl rfl ?_
   refine s_load (v := .agg (questV p0.q)) rfl rfl rfl rfl ty25 rfl (.inl rfl) rfl rfl rfl rfl ?_
   refine bnd1_elim h fun x7 q8 h => ?_
   refine s_callN (kb := []) (ns := []) (v := .sc (.bool x7)) rfl rfl cl58 (ws_QuestOk p0.q x7 q8) rfl (.cons (relAgg rfl) .nil) trivial memNil .nil memNil rfl trivial memNil rfl rfl rfl rfl rfl rfl ?_
   refine s_pickT rfl rfl (by conv => lhs; whnf) rfl rfl rfl ?_
   refine m1 ?_
   refine s_split (t := 16) rfl (fun b9 => ?_) (fun b9 => ?_)
   ·replace h := cond_t h b9
    refine s_fieldAddr rfl rfl fd28_8 rfl rfl rfl rfl ?_
    refine s_load rfl rfl rfl rfl ty26 rfl (.inr rfl) (by conv => lhs; whnf) rfl rfl rfl ?_
    refine bnd1_elim h fun x10 q11 h => ?_
    refine s_callN (kb := []) (ns := []) (v := .sc (.bool x10)) rfl rfl cl83 (ws_l7List p0.an x10 q11) rfl (.cons (.free rfl) .nil) trivial memNil .nil memNil rfl trivial memNil rfl rfl rfl rfl rfl rfl ?_
    refine s_pickT rfl rfl (by conv => lhs; whnf) rfl rfl rfl ?_
    refine m1 ?_
    refine s_split (t := 21) rfl (fun b12 => ?_) (fun b12 => ?_)
    ·replace h := cond_t h b12
     refine s_fieldAddr rfl rfl fd28_9 rfl rfl rfl rfl ?_
     refine s_load rfl rfl rfl rfl ty26 rfl (.inr rfl) (by conv => lhs; whnf) rfl rfl rfl ?_
     refine bnd1_elim h fun x13 q14 h => ?_
     refine s_callN (kb := []) (ns := []) (v := .sc (.bool x13)) rfl rfl cl83 (ws_l7List p0.au x13 q14) rfl (.cons (.free rfl) .nil) trivial memNil .nil memNil rfl trivial memNil rfl rfl rfl rfl rfl rfl ?_
     refine s_pickT rfl rfl (by conv => lhs; whnf) rfl rfl rfl ?_
     refine m1 ?_
     refine s_split (t := 26) rfl (fun b15 => ?_) (fun b15 => ?_)
     ·replace h := cond_t h b15
      refine s_fieldAddr rfl rfl fd28_10 rfl rfl rfl rfl ?_
      refine s_load rfl rfl rfl rfl ty26 rfl (.inr rfl) (by conv => lhs; whnf) rfl rfl rfl ?_
      refine bnd1_elim h fun x16 q17 h => ?_
      refine s_callN (kb := []) (ns := []) (v := .sc (.bool x16)) rfl rfl cl83 (ws_l7List p0.ad x16 q17) rfl (.cons (.free rfl) .nil) trivial memNil .nil memNil rfl trivial memNil rfl rfl rfl rfl rfl rfl ?_
      refine s_pickT rfl rfl (by conv => lhs; whnf) rfl rfl rfl ?_
      refine m2 ?_
      refine rt_nil ?_
      refine tri_ret ?_
      have e0 := (some1 h); subst e0
      exact endY [] [] (rvC (resTmp rfl) rvN) trivial trivial rfl rfl rfl rfl (.free rfl)
     ·replace h := cond_f h b15
      refine s_skip rfl rfl rfl ?_
      refine s_skip rfl rfl rfl ?_
      refine s_skip rfl rfl rfl ?_
      refine s_pickF rfl rfl (v := .sc (.bool false)) rfl rfl rfl rfl ?_
      refine m2 ?_
      refine rt_nil ?_
      refine tri_ret ?_
      have e0 := (some1 h); subst e0
      exact endY [] [] (rvC (resTmp rfl) rvN) trivial trivial rfl rfl rfl rfl (.free rfl)
    ·replace h := cond_f h b12
     refine s_skip rfl rfl rfl ?_
     refine s_skip rfl rfl rfl ?_
     refine s_skip rfl rfl rfl ?_
     refine s_pickF rfl rfl (v := .sc (.bool false)) rfl rfl rfl rfl ?_
     refine m1 ?_
     refine s_skip rfl rfl rfl ?_
     refine s_skip rfl rfl rfl ?_
     refine s_skip rfl rfl rfl ?_
     refine s_pickF rfl rfl (v := .sc (.bool false)) rfl rfl rfl rfl ?_
     refine m2 ?_
     refine rt_nil ?_
     refine tri_ret ?_
     have e0 := (some1 h); subst e0
     exact endY [] [] (rvC (resTmp rfl) rvN) trivial trivial rfl rfl rfl rfl (.free rfl)
   ·replace h := cond_f h b9
    refine s_skip rfl rfl rfl ?_
    refine s_skip rfl rfl rfl ?_
    refine s_skip rfl rfl rfl ?_
    refine s_pickF rfl rfl (v := .sc (.bool false)) rfl rfl rfl rfl ?_
    refine m1 ?_
    refine s_skip rfl rfl rfl ?_
    refine s_skip rfl rfl rfl ?_
    refine s_skip rfl rfl rfl ?_
    refine s_pickF rfl rfl (v := .sc (.bool false)) rfl rfl rfl rfl ?_
    refine m1 ?_
    refine s_skip rfl rfl rfl ?_
    refine s_skip rfl rfl rfl ?_
    refine s_skip rfl rfl rfl ?_
    refine s_pickF rfl rfl (v := .sc (.bool false)) rfl rfl rfl rfl ?_
    refine m2 ?_
    refine rt_nil ?_
    refine tri_ret ?_
    have e0 := (some1 h); subst e0
    exact endY [] [] (rvC (resTmp rfl) rvN) trivial trivial rfl rfl rfl rfl (.free rfl)
  ·replace h := cond_f h b6
   refine s_skip rfl rfl rfl ?_
   refine s_skip rfl rfl rfl ?_
   refine s_skip rfl rfl rfl ?_
   refine s_pickF rfl rfl (v := .sc (.bool false)) rfl rfl rfl rfl ?_
   refine m1 ?_
   refine s_skip rfl rfl rfl ?_
   refine s_skip rfl rfl rfl ?_
   refine s_skip rfl rfl rfl ?_
   refine s_pickF rfl rfl (v := .sc (.bool false)) rfl rfl rfl rfl ?_
   refine m1 ?_
   refine s_skip rfl rfl rfl ?_
   refine s_skip rfl rfl rfl ?_
   refine s_skip rfl rfl rfl ?_
   refine s_pickF rfl rfl (v := .sc (.bool false)) rfl rfl rfl rfl ?_
   refine m1 ?_
   refine s_skip rfl rfl rfl ?_
   refine s_skip rfl rfl rfl ?_
   refine s_skip rfl rfl rfl ?_
   refine s_pickF rfl rfl (v := .sc (.bool false)) rfl rfl rfl rfl ?_
   refine m2 ?_
   refine rt_nil ?_
   refine tri_ret ?_
   have e0 := (some1 h); subst e0
   exact endY [] [] (rvC (resTmp rfl) rvN) trivial trivial rfl rfl rfl rfl (.free rfl)
 ·replace h := cond_f h b3
  refine s_skip rfl rfl rfl ?_
  refine s_skip rfl rfl rfl ?_
  refine s_skip rfl rfl rfl ?_
  refine s_pickF rfl rfl (v := .sc (.bool false)) rfl rfl rfl rfl ?_
  refine m1 ?_
  refine s_skip rfl rfl rfl ?_
  refine s_skip rfl rfl rfl ?_
  refine s_skip rfl rfl rfl ?_
  refine s_pickF rfl rfl (v := .sc (.bool false)) rfl rfl rfl rfl ?_
  refine m1 ?_
  refine s_skip rfl rfl rfl ?_
  refine s_skip rfl rfl rfl ?_
  refine s_skip rfl rfl rfl ?_
  refine s_pickF rfl rfl (v := .sc (.bool false)) rfl rfl rfl rfl ?_
  refine m1 ?_
  refine s_skip rfl rfl rfl ?_
  refine s_skip rfl rfl rfl ?_
  refine s_skip rfl rfl rfl ?_
  refine s_pickF rfl rfl (v := .sc (.bool false)) rfl rfl rfl rfl ?_
  refine m1 ?_
  refine s_skip rfl rfl rfl ?_
  refine s_skip rfl rfl rfl ?_
  refine s_skip rfl rfl rfl ?_
  refine s_pickF rfl rfl (v := .sc (.bool false)) rfl rfl rfl rfl ?_
  refine m2 ?_
  refine rt_nil ?_
  refine tri_ret ?_
  have e0 := (some1 h); subst e0
  exact endY [] [] (rvC (resTmp rfl) rvN) trivial trivial rfl rfl rfl rfl (.free rfl)

/- spec.Put2 -/

set_option maxRecDepth 4000 in
set_option maxHeartbeats 800000 in
theorem ws_Put2 (p0 : List Int) (p1 : Int) (r0 : List Int) (h : s_Put2 p0 p1 = some r0) : Runs Tryz.prog 43 [.lst 1 (List.map byteV p0), .sc (.int .i64 p1)] [] (.own 5 1 (List.map byteV r0)) [] := by
 unfold s_Put2 at h
 refine runsR [.tmp 4] Tryz.func43 rfl rfl rfl rfl ?_
 rw [Tryz.ntmps43]
 refine tri_sr ?_
 refine s_mv (.inr rfl) (v := .nils) rfl rfl rfl rfl ?_
 refine rt_nil ?_
 refine tri_sr ?_
 refine s_buildSlice (rows' := List.map byteV ([] : List Int)) rfl rfl rfl sl22 zc5 rfl rfl rfl rfl rfl rfl rfl rfl rfl ?_
 refine m1 ?_
 refine grd_elim h fun g1 h => ?_
 refine s_appL rfl rfl rfl sl22 zc5 rfl rfl rfl rfl rfl rfl src_lst g1 rfl rfl ?_
 refine m2 ?_
 refine rt_nil ?_
 refine tri_seq ?_
 refine tri_sr ?_
 refine m1 ?_
 refine bnd1_elim h fun x2 q3 h => ?_
 refine s_callN (kb := []) (ns := []) (v := .sc (.bool x2)) rfl rfl cl82 (ws_l1In p1 0 65535 x2 q3) rfl (.cons (.free rfl) (.cons (.free rfl) (.cons (.free rfl) .nil))) trivial memNil .nil memNil rfl trivial memNil rfl rfl rfl rfl rfl rfl ?_
 refine s_of (st_not rfl rfl) rfl rfl rfl rfl ?_
 refine rt_nil ?_
 refine tri_cond rfl (fun c4 => ?_) (fun c4 => ?_)
 ·replace h := cond_t h c4
  refine tri_sr ?_
  refine m1 ?_
  refine m2 ?_
  refine rt_nil ?_
  refine tri_ret ?_
  have e0 := (some1 h); subst e0
  exact endY (v' := .ref (2000, 0) 0 ((([] : List Int) ++ p0).length)) [((2000, 0), ⟨5, 1, List.map byteV (([] : List Int) ++ p0), false, true⟩, some (8, 0))] [] (rvC (resTmp rfl) rvN) ⟨⟨rfl, _, rfl, rfl, rfl, rfl, id, rowsCv_eq rfl (allFree_map byteV_free), rowsZ_map byteV_len⟩, trivial⟩ trivial rfl rfl (by kernel_rfl) (by simp only [V.mat, V.mat1, V.mat0, matL, matT, List.length_map] <;> rfl) (.ref rfl)
 ·replace h := cond_f h c4
  refine tri_skip ?_
  refine tri_sr ?_
  refine m1 ?_
  refine m1 ?_
  refine s_of (st_shrD (b := 8) rfl rfl rfl) rfl rfl rfl rfl ?_
  refine s_of (st_conv ik3 ik5 rfl rfl) rfl rfl rfl rfl ?_
  refine m1 ?_
  refine s_of (st_andD rfl rfl rfl) rfl rfl rfl rfl ?_
  refine s_of (st_conv ik3 ik5 rfl rfl) rfl rfl rfl rfl ?_
  refine s_buildSlice (rows' := List.map byteV [IntKind.u8.wrap (ishr .i64 p1 8), IntKind.u8.wrap (iand .i64 p1 255)]) rfl rfl rfl sl22 zc5 rfl rfl rfl rfl rfl rfl rfl rfl rfl ?_
  refine grd_elim h fun g5 h => ?_
  refine s_appL rfl rfl rfl sl22 zc5 rfl rfl rfl rfl rfl rfl (src_refL rfl rfl) g5 rfl rfl ?_
  refine m2 ?_
  refine rt_nil ?_
  refine tri_ret ?_
  have e0 := (some1 h); subst e0
  exact endY (v' := .ref (2000, 0) 0 (((([] : List Int) ++ p0) ++ [IntKind.u8.wrap (ishr .i64 p1 8), IntKind.u8.wrap (iand .i64 p1 255)]).length)) [((2000, 0), ⟨5, 1, List.map byteV ((([] : List Int) ++ p0) ++ [IntKind.u8.wrap (ishr .i64 p1 8), IntKind.u8.wrap (iand .i64 p1 255)]), false, true⟩, some (21, 0))] [] (rvC (resTmp rfl) rvN) ⟨⟨rfl, _, rfl, rfl, rfl, rfl, id, rowsCv_eq rfl (allFree_map byteV_free), rowsZ_map byteV_len⟩, trivial⟩ trivial rfl rfl (by kernel_rfl) (by simp only [V.mat, V.mat1, V.mat0, matL, matT, List.length_map] <;> rfl) (by show Cv _ _ _ _ (.ref (21, 0) 0 (((([] : List Int) ++ p0) ++ [IntKind.u8.wrap (ishr .i64 p1 8), IntKind.u8.wrap (iand .i64 p1 255)]).length)) (.ref (2000, 0) 0 (((([] : List Int) ++ p0) ++ [IntKind.u8.wrap (ishr .i64 p1 8), IntKind.u8.wrap (iand .i64 p1 255)]).length)); exact .ref rfl)

/- spec.l8Flag -/

set_option maxRecDepth 4000 in
set_option maxHeartbeats 800000 in
theorem ws_l8Flag (p0 : Bool) (p1 : Int) (r0 : Int) (h : s_l8Flag p0 p1 = some r0) : Runs Tryz.prog 47 [.sc (.bool p0), .sc (.int .i64 p1)] [] (.sc (.int .i64 r0)) [] := by
 unfold s_l8Flag at h
 refine runsR [.tmp 4] Tryz.func47 rfl rfl rfl rfl ?_
 rw [Tryz.ntmps47]
 refine tri_sr ?_
 refine s_mv (.inr rfl) (v := .sc (.int .i64 0)) rfl rfl rfl rfl ?_
 refine rt_nil ?_
 refine tri_seq ?_
 refine tri_sr ?_
 refine m1 ?_
 refine rt_nil ?_
 refine tri_cond rfl (fun c1 => ?_) (fun c1 => ?_)
 ·replace h := cond_t h c1
  refine tri_sr ?_
  refine m1 ?_
  refine m2 ?_
  refine rt_nil ?_
  refine tri_ret ?_
  have e0 := (some1 h); subst e0
  exact endY [] [] (rvC (resTmp rfl) rvN) trivial trivial rfl rfl rfl rfl (.free rfl)
 ·replace h := cond_f h c1
  refine tri_skip ?_
  refine tri_sr ?_
  refine s_mv (.inr rfl) (v := .sc (.int .i64 0)) rfl rfl rfl rfl ?_
  refine rt_nil ?_
  refine tri_ret ?_
  have e0 := (some1 h); subst e0
  exact endY [] [] (rvC (resTmp rfl) rvN) trivial trivial rfl rfl rfl rfl (.free rfl)

/- spec.PutHead -/

set_option maxRecDepth 4000 in
set_option maxHeartbeats 800000 in
theorem ws_PutHead (p0 : MMsg) (r0 : List Int) (h : s_PutHead p0 = some r0) : Runs Tryz.prog 16 [.agg (mMsgV p0)] [] (.own 5 1 (List.map byteV r0)) [] := by
 unfold s_PutHead at h
 refine runsR [.tmp 2] Tryz.func16 rfl rfl rfl rfl ?_
 rw [Tryz.ntmps16]
 refine tri_sr ?_
 refine s_box rfl rfl rfl rfl rfl rfl rfl ?_
 refine s_mv (.inr rfl) (v := .nils) rfl rfl rfl rfl ?_
 refine rt_nil ?_
 refine tri_sr ?_
 refine s_buildSlice (rows' := List.map byteV ([] : List Int)) rfl rfl rfl sl22 zc5 rfl rfl rfl rfl rfl rfl rfl rfl rfl ?_
 refine s_fieldAddr rfl rfl fd28_0 rfl rfl rfl rfl ?_
 refine s_load rfl rfl rfl rfl ty3 rfl (.inr rfl) (by conv => lhs; whnf) rfl rfl rfl ?_
 refine bnd1_elim h fun x1 q2 h => ?_
 refine s_callN (kb := [(4, 0)]) (ns := []) (v := .ref (7, 0) 0 x1.length) rfl rfl cl43 (ws_Put2 ([] : List Int) p0.id x1 q2) rfl (.cons (lendL rfl (.head _) rfl byteV_free byteV_len) (.cons (.free rfl) .nil)) trivial memNil .nil (fun _ _ => List.not_mem_nil) rfl ⟨(allSc_map byteV_sc), trivial⟩ memNil rfl (by simp only [V.mat, V.mat1, V.mat0, matL, matT, List.length_map] <;> rfl) rfl rfl rfl rfl ?_
 refine m2 ?_
 refine rt_nil ?_
 refine tri_seq ?_
 refine tri_draw mixed ?_
 refine m1 ?_
 refine s_fieldAddr rfl rfl fd28_1 rfl rfl rfl rfl ?_
 refine s_load rfl rfl rfl rfl ty4 rfl (.inr rfl) (by conv => lhs; whnf) rfl rfl rfl ?_
 refine bnd1_elim h fun x3 q4 h => ?_
 refine s_callN (kb := []) (ns := []) (v := .sc (.int .i64 x3)) rfl rfl cl47 (ws_l8Flag p0.reply 128 x3 q4) rfl (.cons (.free rfl) (.cons (.free rfl) .nil)) trivial memNil .nil memNil rfl trivial memNil rfl rfl rfl rfl rfl rfl ?_
 refine s_fieldAddr rfl rfl fd28_2 rfl rfl rfl rfl ?_
 refine s_load rfl rfl rfl rfl ty4 rfl (.inr rfl) (by conv => lhs; whnf) rfl rfl rfl ?_
 refine bnd1_elim h fun x5 q6 h => ?_
 refine s_callN (kb := []) (ns := []) (v := .sc (.int .i64 x5)) rfl rfl cl47 (ws_l8Flag p0.auth 4 x5 q6) rfl (.cons (.free rfl) (.cons (.free rfl) .nil)) trivial memNil .nil memNil rfl trivial memNil rfl rfl rfl rfl rfl rfl ?_
 refine grd_elim h fun g7 h => ?_
 refine s_addI rfl rfl rfl rfl g7 rfl rfl rfl ?_
 refine s_fieldAddr rfl rfl fd28_3 rfl rfl rfl rfl ?_
 refine s_load rfl rfl rfl rfl ty4 rfl (.inr rfl) (by conv => lhs; whnf) rfl rfl rfl ?_
 refine bnd1_elim h fun x8 q9 h => ?_
 refine s_callN (kb := []) (ns := []) (v := .sc (.int .i64 x8)) rfl rfl cl47 (ws_l8Flag p0.cut 2 x8 q9) rfl (.cons (.free rfl) (.cons (.free rfl) .nil)) trivial memNil .nil memNil rfl trivial memNil rfl rfl rfl rfl rfl rfl ?_
 refine grd_elim h fun g10 h => ?_
 refine s_addI rfl rfl rfl rfl g10 rfl rfl rfl ?_
 refine s_fieldAddr rfl rfl fd28_4 rfl rfl rfl rfl ?_
 refine s_load rfl rfl rfl rfl ty4 rfl (.inr rfl) (by conv => lhs; whnf) rfl rfl rfl ?_
 refine bnd1_elim h fun x11 q12 h => ?_
 refine s_callN (kb := []) (ns := []) (v := .sc (.int .i64 x11)) rfl rfl cl47 (ws_l8Flag p0.want 1 x11 q12) rfl (.cons (.free rfl) (.cons (.free rfl) .nil)) trivial memNil .nil memNil rfl trivial memNil rfl rfl rfl rfl rfl rfl ?_
 refine grd_elim h fun g13 h => ?_
 refine s_addI rfl rfl rfl rfl g13 rfl rfl rfl ?_
 refine s_of (st_conv ik3 ik5 rfl rfl) rfl rfl rfl rfl ?_
 refine s_fieldAddr rfl rfl fd28_5 rfl rfl rfl rfl ?_
 refine s_load rfl rfl rfl rfl ty4 rfl (.inr rfl) (by conv => lhs; whnf) rfl rfl rfl ?_
 refine bnd1_elim h fun x14 q15 h => ?_
 refine s_callN (kb := []) (ns := []) (v := .sc (.int .i64 x14)) rfl rfl cl47 (ws_l8Flag p0.can 128 x14 q15) rfl (.cons (.free rfl) (.cons (.free rfl) .nil)) trivial memNil .nil memNil rfl trivial memNil rfl rfl rfl rfl rfl rfl ?_
 refine s_fieldAddr rfl rfl fd28_6 rfl rfl rfl rfl ?_
 refine s_load rfl rfl rfl rfl ty3 rfl (.inr rfl) (by conv => lhs; whnf) rfl rfl rfl ?_
 refine s_of (st_andD rfl rfl rfl) rfl rfl rfl rfl ?_
 refine grd_elim h fun g16 h => ?_
 refine s_addI rfl rfl rfl rfl g16 rfl rfl rfl ?_
 refine s_of (st_conv ik3 ik5 rfl rfl) rfl rfl rfl rfl ?_
 refine s_buildSlice (rows' := List.map byteV [IntKind.u8.wrap (((x3 + x5) + x8) + x11), IntKind.u8.wrap (x14 + (iand .i64 p0.code 15))]) rfl rfl rfl sl22 zc5 rfl rfl rfl rfl rfl rfl rfl rfl rfl ?_
 refine grd_elim h fun g17 h => ?_
 refine s_appL rfl rfl rfl sl22 zc5 rfl rfl rfl rfl rfl rfl (src_refL rfl rfl) g17 rfl rfl ?_
 refine m2 ?_
 refine rt_nil ⟨by kernel_rfl, ?_⟩
 refine tri_seq ?_
 refine tri_draw mixed ?_
 refine m1 ?_
 refine bnd1_elim h fun x18 q19 h => ?_
 refine s_callN (kb := [(34, 0)]) (ns := []) (v := .ref (36, 0) 0 x18.length) rfl rfl cl43 (ws_Put2 (x1 ++ [IntKind.u8.wrap (((x3 + x5) + x8) + x11), IntKind.u8.wrap (x14 + (iand .i64 p0.code 15))]) 1 x18 q19) rfl (.cons (lendL rfl (.head _) rfl byteV_free byteV_len) (.cons (.free rfl) .nil)) trivial memNil .nil (fun _ _ => List.not_mem_nil) rfl ⟨(allSc_map byteV_sc), trivial⟩ memNil rfl (by simp only [V.mat, V.mat1, V.mat0, matL, matT, List.length_map] <;> rfl) rfl rfl rfl rfl ?_
 refine s_fieldAddr rfl rfl fd28_8 rfl rfl rfl rfl ?_
 refine s_load rfl rfl rfl rfl ty26 rfl (.inr rfl) (by conv => lhs; whnf) rfl rfl rfl ?_
 refine s_lenL rfl sl26 rfl rfl rfl rfl ?_
 refine bnd1_elim h fun x20 q21 h => ?_
 refine s_callN (kb := [(36, 0)]) (ns := []) (v := .ref (40, 0) 0 x20.length) rfl rfl cl43 (ws_Put2 x18 (p0.an.length : Int) x20 q21) rfl (.cons (lendL rfl (.head _) rfl byteV_free byteV_len) (.cons (.free rfl) .nil)) trivial memNil .nil (fun _ _ => List.not_mem_nil) rfl ⟨(allSc_map byteV_sc), trivial⟩ memNil rfl (by simp only [V.mat, V.mat1, V.mat0, matL, matT, List.length_map] <;> rfl) rfl rfl rfl rfl ?_
 refine s_fieldAddr rfl rfl fd28_9 rfl rfl rfl rfl ?_
 refine s_load rfl rfl rfl rfl ty26 rfl (.inr rfl) (by conv => lhs; whnf) rfl rfl rfl ?_
 refine s_lenL rfl sl26 rfl rfl rfl rfl ?_
 refine bnd1_elim h fun x22 q23 h => ?_
 refine s_callN (kb := [(40, 0)]) (ns := []) (v := .ref (44, 0) 0 x22.length) rfl rfl cl43 (ws_Put2 x20 (p0.au.length : Int) x22 q23) rfl (.cons (lendL rfl (.head _) rfl byteV_free byteV_len) (.cons (.free rfl) .nil)) trivial memNil .nil (fun _ _ => List.not_mem_nil) rfl ⟨(allSc_map byteV_sc), trivial⟩ memNil rfl (by simp only [V.mat, V.mat1, V.mat0, matL, matT, List.length_map] <;> rfl) rfl rfl rfl rfl ?_
 refine s_fieldAddr rfl rfl fd28_10 rfl rfl rfl rfl ?_
 refine s_load rfl rfl rfl rfl ty26 rfl (.inr rfl) (by conv => lhs; whnf) rfl rfl rfl ?_
 refine s_lenL rfl sl26 rfl rfl rfl rfl ?_
 refine bnd1_elim h fun x24 q25 h => ?_
 refine s_callN (kb := [(44, 0)]) (ns := []) (v := .ref (48, 0) 0 x24.length) rfl rfl cl43 (ws_Put2 x22 (p0.ad.length : Int) x24 q25) rfl (.cons (lendL rfl (.head _) rfl byteV_free byteV_len) (.cons (.free rfl) .nil)) trivial memNil .nil (fun _ _ => List.not_mem_nil) rfl ⟨(allSc_map byteV_sc), trivial⟩ memNil rfl (by simp only [V.mat, V.mat1, V.mat0, matL, matT, List.length_map] <;> rfl) rfl rfl rfl rfl ?_
 refine m2 ?_
 refine rt_nil ⟨by kernel_rfl, ?_⟩
 refine tri_ret ?_
 have e0 := (some1 h); subst e0
 exact endY (v' := .ref (2000, 0) 0 x24.length) [((2000, 0), ⟨5, 1, List.map byteV x24, false, true⟩, some (48, 0))] [] (rvC (resTmp rfl) rvN) ⟨⟨rfl, _, rfl, rfl, rfl, rfl, id, rowsCv_eq rfl (allFree_map byteV_free), rowsZ_map byteV_len⟩, trivial⟩ trivial rfl rfl (by kernel_rfl) (by simp only [V.mat, V.mat1, V.mat0, matL, matT, List.length_map] <;> rfl) (.ref rfl)

/- spec.JoinLabels -/
def inv_s_JoinLabels_1 (p0 : List ByteArray) (v0_1 : Nat) (j1_0 : ByteArray) : St := mkT 22 [(0, .lst 1 (List.map strV p0)), (3, .sc (.string j1_0)), (4, .sc (.int .i64 (v0_1 : Int)))] []
def inv_s_JoinLabels_0 (p0 : List ByteArray) (v0_0 : ByteArray) (v0_1 : Nat) : St := mkT 22 [(0, .lst 1 (List.map strV p0)), (3, .sc (.string v0_0)), (4, .sc (.int .i64 (v0_1 : Int)))] []
set_option maxRecDepth 4000 in
set_option maxHeartbeats 800000 in
theorem ws_JoinLabels (p0 : List ByteArray) (r0 : ByteArray) (h : s_JoinLabels p0 = some r0) : Runs Tryz.prog 121 [.lst 1 (List.map strV p0)] [] (.sc (.string r0)) [] := by
 unfold s_JoinLabels at h
 refine runsR [.tmp 2] Tryz.func121 rfl rfl rfl rfl ?_
 rw [Tryz.ntmps121]
 refine tri_sr ?_
 refine s_mv (.inr rfl) (v := .sc (.string (⟨#[]⟩ : ByteArray))) rfl rfl rfl rfl ?_
 refine rt_nil ?_
 refine tri_sr ?_
 refine s_mv (.inr rfl) (v := .sc (.string (⟨#[]⟩ : ByteArray))) rfl rfl rfl rfl ?_
 refine rt_nil ?_
 refine tri_seq ?_
 refine tri_sr ?_
 refine s_mv (.inr rfl) (v := .sc (.int .i64 0)) rfl rfl rfl rfl ?_
 refine rt_nil ?_
 refine tri_block ?_
 refine tri_lstM 0 rfl (fun hl0 => ?_)
 refine tri_loop (ι := { p : (List ByteArray) × ByteArray × Nat // p0.drop p.2.2 = p.1 ∧ s_JoinLabels_l0 p.1 p.2.1 p.2.2 = some r0 }) (fun p => inv_s_JoinLabels_0 p0 p.1.2.1 p.1.2.2) (fun p => p.1.1.length) ⟨(p0, (⟨#[]⟩ : ByteArray), 0), rfl, h⟩ ?_ ?_
 ·skip
  refine entX [] [] trivial trivial rfl rfl ?_
  exact ⟨(.free rfl), (.free rfl), (.free rfl), trivial⟩
 ·rintro ⟨⟨lrs0, v0_0, v0_1⟩, hd0, h⟩
  replace hd0 : p0.drop v0_1 = lrs0 := hd0
  replace h : s_JoinLabels_l0 lrs0 v0_0 v0_1 = some r0 := h
  show Tri _ _ _ (inv_s_JoinLabels_0 p0 v0_0 v0_1)
  refine tri_seq ?_
  refine tri_sr ?_
  refine m1 ?_
  refine m1 ?_
  refine s_lenL rfl sl91 rfl rfl rfl rfl ?_
  refine s_of (st_lss rfl rfl rfl) rfl rfl rfl rfl ?_
  refine rt_nil ?_
  refine tri_cond rfl (fun c1 => ?_) (fun c1 => ?_)
  ·refine drop_elim hd0 c1 fun e0 rs0 he hx0 hn0 => ?_
   subst he
   rw [s_JoinLabels_l0] at h
   refine tri_skip ?_
   refine tri_seq ?_
   refine tri_block ?_
   refine tri_cutI (ι := { p : ByteArray // s_JoinLabels_j1 v0_1 e0 (s_JoinLabels_l0 rs0) p = some r0 }) (fun p => inv_s_JoinLabels_1 p0 v0_1 p.1) ?_ ?_
   ·skip
    refine tri_sr ?_
    refine m1 ?_
    refine s_of (st_gtr rfl rfl rfl) rfl rfl rfl rfl ?_
    refine rt_nil ?_
    refine tri_cond rfl (fun c2 => ?_) (fun c2 => ?_)
    ·replace h := cond_t h c2
     refine tri_region ?_
     refine m1 ?_
     refine grd_elim h fun g3 h => ?_
     refine s_of (st_catS g3 rfl rfl rfl) rfl rfl rfl rfl ?_
     refine m2 ?_
     refine rt_nil ?_
     refine Exists.intro ⟨v0_0 ++ (⟨#[46]⟩ : ByteArray), h⟩ ?_
     refine entX [] [] trivial trivial rfl rfl ?_
     exact ⟨(.free rfl), (.free rfl), (.free rfl), trivial⟩
    ·replace h := cond_f h c2
     refine tri_skip ?_
     refine Exists.intro ⟨v0_0, h⟩ ?_
     refine entX [] [] trivial trivial rfl rfl ?_
     exact ⟨(.free rfl), (.free rfl), (.free rfl), trivial⟩
   ·rintro ⟨j1_0, h⟩
    replace h : s_JoinLabels_j1 v0_1 e0 (s_JoinLabels_l0 rs0) j1_0 = some r0 := h
    unfold s_JoinLabels_j1 at h
    show Tri _ _ _ (inv_s_JoinLabels_1 p0 v0_1 j1_0)
    refine tri_region ?_
    refine m1 ?_
    refine m1 ?_
    refine m1 ?_
    refine s_indexF (i := v0_1) rfl rfl rfl sl91 (get_ltM hx0) rfl rfl rfl ?_
    refine s_loadF rfl rfl (rowG hx0) ty9 rfl (.inr rfl) (by conv => lhs; whnf) rfl rfl rfl ?_
    refine grd_elim h fun g2 h => ?_
    refine s_of (st_catS g2 rfl rfl rfl) rfl rfl rfl rfl ?_
    refine m2 ?_
    refine rt_nil ?_
    refine tri_region ?_
    refine m1 ?_
    refine s_inc (a := v0_1) (b := 1) rfl rfl rfl rfl (by have := get_lt hx0; have := hl0; omega) rfl rfl rfl ?_
    refine m2 ?_
    refine rt_nil ?_
    refine Exists.intro ⟨(rs0, j1_0 ++ e0, (v0_1 + 1)), hn0, h⟩ (And.intro (Nat.lt_succ_self _) ?_)
    refine entX [] [] trivial trivial rfl rfl ?_
    exact ⟨(.free rfl), (.free rfl), (.free rfl), trivial⟩
  ·have he := drop_f hd0 c1; subst he
   rw [s_JoinLabels_l0] at h
   refine tri_exit ?_
   refine tri_sr ?_
   refine m1 ?_
   refine m2 ?_
   refine rt_nil ?_
   refine tri_ret ?_
   have e0 := (some1 h); subst e0
   exact endY [] [] (rvC (resTmp rfl) rvN) trivial trivial rfl rfl rfl rfl (.free rfl)

/- spec.Above -/
def inv_s_Above_0 (x1 : List ByteArray) (v0_0 : List ByteArray) (v0_1 : Int) : St := mkT 24 [(3, .ref (2003, 0) 0 v0_0.length), (4, .ref (9, 0) 0 x1.length), (5, .sc (.int .i64 v0_1))] [((2003, 0), some ⟨9, 1, List.map strV v0_0, false, true⟩), ((9, 0), some ⟨9, 1, List.map strV x1, false, true⟩)]
set_option maxRecDepth 4000 in
set_option maxHeartbeats 800000 in
theorem ws_Above (p0 : ByteArray) (r0 : List ByteArray) (h : s_Above p0 = some r0) : Runs Tryz.prog 85 [.sc (.string p0)] [] (.own 9 1 (List.map strV r0)) [] := by
 unfold s_Above at h
 refine runsR [.tmp 2] Tryz.func85 rfl rfl rfl rfl ?_
 rw [Tryz.ntmps85]
 refine tri_sr ?_
 refine s_mv (.inr rfl) (v := .nils) rfl rfl rfl rfl ?_
 refine rt_nil ?_
 refine tri_sr ?_
 refine m1 ?_
 refine s_buildSlice (rows' := List.map strV [p0]) rfl rfl rfl sl91 zc9 rfl rfl rfl rfl rfl rfl rfl rfl rfl ?_
 refine m2 ?_
 refine rt_nil ?_
 refine tri_sr ?_
 refine m1 ?_
 refine bnd1_elim h fun x1 q2 h => ?_
 refine s_callN (kb := []) (ns := []) (v := .ref (9, 0) 0 x1.length) rfl rfl cl86 (ws_Labels p0 x1 q2) rfl (.cons (.free rfl) .nil) trivial memNil .nil memNil rfl ⟨(allSc_map strV_sc), trivial⟩ memNil rfl (by simp only [V.mat, V.mat1, V.mat0, matL, matT, List.length_map] <;> rfl) rfl rfl rfl rfl ?_
 refine m2 ?_
 refine rt_nil ?_
 refine tri_seq ?_
 refine tri_sr ?_
 refine s_mv (.inr rfl) (v := .sc (.int .i64 1)) rfl rfl rfl rfl ?_
 refine rt_nil ?_
 refine tri_block ?_
 refine tri_loop (ι := { p : Nat × (List ByteArray) × Int // s_Above_l0 x1 p.1 p.2.1 p.2.2 = some r0 }) (fun p => inv_s_Above_0 x1 p.1.2.1 p.1.2.2) (fun p => p.1.1) ⟨(fuel0, [p0], 1), h⟩ ?_ ?_
 ·skip
  refine entX [((2003, 0), ⟨9, 1, List.map strV [p0], false, true⟩, some (7, 0)), ((9, 0), ⟨9, 1, List.map strV x1, false, true⟩, some (9, 0))] [] ⟨⟨rfl, _, rfl, rfl, rfl, rfl, id, rowsCv_eq rfl (allFree_map strV_free), rowsZ_map strV_len⟩, ⟨rfl, _, rfl, rfl, rfl, rfl, id, rowsCv_eq rfl (allFree_map strV_free), rowsZ_map strV_len⟩, trivial⟩ trivial rfl rfl ?_
  exact ⟨(.ref rfl), (.ref rfl), (.free rfl), trivial⟩
 ·rintro ⟨⟨f0, v0_0, v0_1⟩, h⟩
  replace h : s_Above_l0 x1 f0 v0_0 v0_1 = some r0 := h
  cases f0 with
  | zero => cases h
  | succ f0 =>
  rw [s_Above_l0] at h
  show Tri _ _ _ (inv_s_Above_0 x1 v0_0 v0_1)
  refine tri_seq ?_
  refine tri_sr ?_
  refine m1 ?_
  refine m1 ?_
  refine s_len (m := x1.length) rfl sl91 rfl rfl rfl rfl ?_
  refine s_of (st_leq rfl rfl rfl) rfl rfl rfl rfl ?_
  refine rt_nil ?_
  refine tri_cond rfl (fun c3 => ?_) (fun c3 => ?_)
  ·replace h := cond_t h c3
   refine tri_skip ?_
   refine tri_seq ?_
   refine tri_block ?_
   refine tri_region ?_
   refine m1 ?_
   refine m1 ?_
   refine m1 ?_
   refine grd_elim h fun g4 h => ?_
   refine s_sliceZ (a := v0_1) (b := (x1.length : Int)) rfl rfl rfl sl91 rfl ⟨_, rfl⟩ rfl g4 rfl rfl rfl ?_
   refine bnd1_elim h fun x5 q6 h => ?_
   refine s_callN (kb := [(9, 0)]) (ns := []) (v := .sc (.string x5)) rfl rfl cl121 (ws_JoinLabels ((x1.drop (0 + v0_1.toNat)).take ((x1.length : Int).toNat - v0_1.toNat)) x5 q6) rfl (.cons (lendV rfl (.head _) (by first | omega | (simp only [List.length_set]; omega)) strV_free strV_len) .nil) trivial memNil .nil (fun _ _ => List.not_mem_nil) rfl trivial memNil rfl rfl rfl rfl rfl rfl ?_
   refine s_buildSlice (rows' := List.map strV [x5]) rfl rfl rfl sl91 zc9 rfl rfl rfl rfl rfl rfl rfl rfl rfl ?_
   refine grd_elim h fun g7 h => ?_
   refine s_appL rfl rfl rfl sl91 zc9 rfl rfl rfl rfl rfl rfl (src_refL rfl rfl) g7 rfl rfl ?_
   refine m2 ?_
   refine rt_nil ?_
   refine tri_region ?_
   refine m1 ?_
   refine grd_elim h fun g8 h => ?_
   refine s_addI rfl rfl rfl rfl g8 rfl rfl rfl ?_
   refine m2 ?_
   refine rt_nil ?_
   refine Exists.intro ⟨(f0, v0_0 ++ [x5], v0_1 + 1), h⟩ (And.intro (Nat.lt_succ_self _) ?_)
   refine entX [((2003, 0), ⟨9, 1, List.map strV (v0_0 ++ [x5]), false, true⟩, some (22, 0)), ((9, 0), ⟨9, 1, List.map strV x1, false, true⟩, some (9, 0))] [] ⟨⟨rfl, _, rfl, rfl, rfl, rfl, id, rowsCv_eq rfl (allFree_map strV_free), rowsZ_map strV_len⟩, ⟨rfl, _, rfl, rfl, rfl, rfl, id, rowsCv_eq rfl (allFree_map strV_free), rowsZ_map strV_len⟩, trivial⟩ trivial rfl rfl ?_
   exact ⟨(.ref rfl), (.ref rfl), (.free rfl), trivial⟩
  ·replace h := cond_f h c3
   refine tri_exit ?_
   refine tri_sr ?_
   refine m1 ?_
   refine m2 ?_
   refine rt_nil ?_
   refine tri_ret ?_
   have e0 := (some1 h); subst e0
   exact endY (v' := .ref (2000, 0) 0 v0_0.length) [((2000, 0), ⟨9, 1, List.map strV v0_0, false, true⟩, some (2003, 0))] [] (rvC (resTmp rfl) rvN) ⟨⟨rfl, _, rfl, rfl, rfl, rfl, id, rowsCv_eq rfl (allFree_map strV_free), rowsZ_map strV_len⟩, trivial⟩ trivial rfl rfl (by kernel_rfl) (by simp only [V.mat, V.mat1, V.mat0, matL, matT, List.length_map] <;> rfl) (.ref rfl)

/- spec.Fold -/
def inv_s_Fold_1  (v1_0 : List Int) (v1_1 : Int) : St := mkT 29 [(3, .ref (6, 0) 0 v1_0.length), (4, .sc (.int .i64 v1_1))] [((6, 0), some ⟨5, 1, List.map byteV v1_0, true, true⟩)]
def inv_s_Fold_0  (j0_0 : List Int) : St := mkT 29 [(3, .ref (6, 0) 0 j0_0.length)] [((6, 0), some ⟨5, 1, List.map byteV j0_0, true, true⟩)]
set_option maxRecDepth 4000 in
set_option maxHeartbeats 800000 in
theorem ws_Fold (p0 : ByteArray) (r0 : ByteArray) (h : s_Fold p0 = some r0) : Runs Tryz.prog 142 [.sc (.string p0)] [] (.sc (.string r0)) [] := by
 unfold s_Fold at h
 refine runsR [.tmp 2] Tryz.func142 rfl rfl rfl rfl ?_
 rw [Tryz.ntmps142]
 refine tri_sr ?_
 refine s_mv (.inr rfl) (v := .sc (.string (⟨#[]⟩ : ByteArray))) rfl rfl rfl rfl ?_
 refine rt_nil ?_
 refine tri_sr ?_
 refine m1 ?_
 refine grd_elim h fun g1 h => ?_
 refine s_toBytesL rfl rfl rfl rfl iss9 byt22 g1 rfl rfl ?_
 refine m2 ?_
 refine rt_nil ?_
 refine tri_cutI (ι := { p : (List Int) // s_Fold_j0 p = some r0 }) (fun p => inv_s_Fold_0 p.1) ?_ ?_
 ·skip
  refine tri_sr ?_
  refine s_mv (.inr rfl) (v := .sc (.int .i64 0)) rfl rfl rfl rfl ?_
  refine rt_nil ?_
  refine tri_block ?_
  refine tri_loop (ι := { p : Nat × (List Int) × Int // s_Fold_l1 p.1 p.2.1 p.2.2 = some r0 }) (fun p => inv_s_Fold_1 p.1.2.1 p.1.2.2) (fun p => p.1.1) ⟨(fuel0, bytesOf p0, 0), h⟩ ?_ ?_
  ·skip
   refine entX [((6, 0), ⟨5, 1, List.map byteV (bytesOf p0), true, true⟩, some (6, 0))] [] ⟨⟨rfl, _, rfl, rfl, rfl, rfl, id, rowsCv_eq rfl (allFree_map byteV_free), rowsZ_map byteV_len⟩, trivial⟩ trivial rfl rfl ?_
   exact ⟨(.ref rfl), (.free rfl), trivial⟩
  ·rintro ⟨⟨f1, v1_0, v1_1⟩, h⟩
   replace h : s_Fold_l1 f1 v1_0 v1_1 = some r0 := h
   cases f1 with
   | zero => cases h
   | succ f1 =>
   rw [s_Fold_l1] at h
   show Tri _ _ _ (inv_s_Fold_1 v1_0 v1_1)
   refine tri_seq ?_
   refine tri_sr ?_
   refine m1 ?_
   refine m1 ?_
   refine s_len (m := v1_0.length) rfl sl22 rfl rfl rfl rfl ?_
   refine s_of (st_lss rfl rfl rfl) rfl rfl rfl rfl ?_
   refine rt_nil ?_
   refine tri_cond rfl (fun c2 => ?_) (fun c2 => ?_)
   ·replace h := cond_t h c2
    refine tri_skip ?_
    refine tri_seq ?_
    refine tri_block ?_
    refine tri_sr ?_
    refine m1 ?_
    refine m1 ?_
    refine bnd1_elim h fun x3 q4 h => ?_
    have q4a := (idx_some q4).1; have q4b := (idx_some q4).2
    refine s_indexZ rfl rfl rfl rfl sl22 rfl q4a (get_lt q4b) rfl rfl rfl ?_
    refine s_load rfl rfl rfl (rowG q4b) ty5 rfl (.inr rfl) (by conv => lhs; whnf) rfl rfl rfl ?_
    refine s_of (st_conv ik5 ik3 rfl rfl) rfl rfl rfl rfl ?_
    refine bnd1_elim h fun x5 q6 h => ?_
    refine s_callN (kb := []) (ns := []) (v := .sc (.bool x5)) rfl rfl cl82 (ws_l1In (IntKind.i64.wrap x3) 65 90 x5 q6) rfl (.cons (.free rfl) (.cons (.free rfl) (.cons (.free rfl) .nil))) trivial memNil .nil memNil rfl trivial memNil rfl rfl rfl rfl rfl rfl ?_
    refine rt_nil ?_
    refine tri_cond rfl (fun c7 => ?_) (fun c7 => ?_)
    ·replace h := cond_t h c7
     refine tri_region ?_
     refine m1 ?_
     refine m1 ?_
     refine m1 ?_
     refine m1 ?_
     refine s_indexZ rfl rfl rfl rfl sl22 rfl q4a (get_lt q4b) rfl rfl rfl ?_
     refine s_load rfl rfl rfl (rowG q4b) ty5 rfl (.inr rfl) (by conv => lhs; whnf) rfl rfl rfl ?_
     refine s_of (st_add rfl rfl rfl) rfl rfl rfl rfl ?_
     refine s_indexZ rfl rfl rfl rfl sl22 rfl q4a (get_lt q4b) rfl rfl rfl ?_
     refine s_storeL (x' := IntKind.u8.wrap (x3 + 32)) rfl rfl rfl q4b ty5 rfl rfl rfl rfl rfl rfl ?_
     refine rt_nil ?_
     refine tri_region ?_
     refine m1 ?_
     refine grd_elim h fun g8 h => ?_
     refine s_addI rfl rfl rfl rfl g8 rfl rfl rfl ?_
     refine m2 ?_
     refine rt_nil ?_
     refine Exists.intro ⟨(f1, v1_0.set v1_1.toNat (IntKind.u8.wrap (x3 + 32)), v1_1 + 1), h⟩ (And.intro (Nat.lt_succ_self _) ?_)
     refine entX [((6, 0), ⟨5, 1, List.map byteV (v1_0.set v1_1.toNat (IntKind.u8.wrap (x3 + 32))), true, true⟩, some (6, 0))] [] ⟨⟨rfl, _, rfl, rfl, rfl, rfl, id, rowsCv_eq rfl (allFree_map byteV_free), rowsZ_map byteV_len⟩, trivial⟩ trivial rfl rfl ?_
     exact ⟨(cvRefLen rfl (by simp only [List.length_set])), (.free rfl), trivial⟩
    ·replace h := cond_f h c7
     refine tri_skip ?_
     refine tri_region ?_
     refine m1 ?_
     refine grd_elim h fun g9 h => ?_
     refine s_addI rfl rfl rfl rfl g9 rfl rfl rfl ?_
     refine m2 ?_
     refine rt_nil ?_
     refine Exists.intro ⟨(f1, v1_0, v1_1 + 1), h⟩ (And.intro (Nat.lt_succ_self _) ?_)
     refine entX [((6, 0), ⟨5, 1, List.map byteV v1_0, true, true⟩, some (6, 0))] [] ⟨⟨rfl, _, rfl, rfl, rfl, rfl, id, rowsCv_eq rfl (allFree_map byteV_free), rowsZ_map byteV_len⟩, trivial⟩ trivial rfl rfl ?_
     exact ⟨(.ref rfl), (.free rfl), trivial⟩
   ·replace h := cond_f h c2
    refine tri_exit ?_
    refine Exists.intro ⟨v1_0, h⟩ ?_
    refine entX [((6, 0), ⟨5, 1, List.map byteV v1_0, true, true⟩, some (6, 0))] [] ⟨⟨rfl, _, rfl, rfl, rfl, rfl, id, rowsCv_eq rfl (allFree_map byteV_free), rowsZ_map byteV_len⟩, trivial⟩ trivial rfl rfl ?_
    exact ⟨(.ref rfl), trivial⟩
 ·rintro ⟨j0_0, h⟩
  replace h : s_Fold_j0 j0_0 = some r0 := h
  unfold s_Fold_j0 at h
  show Tri _ _ _ (inv_s_Fold_0 j0_0)
  refine tri_sr ?_
  refine m1 ?_
  refine s_toString rfl (src_refL rfl rfl) byt22 iss9 rfl rfl rfl rfl ?_
  refine m2 ?_
  refine rt_nil ?_
  refine tri_ret ?_
  have e0 := (some1 h); subst e0
  exact endY [] [] (rvC (resTmp rfl) rvN) trivial trivial rfl rfl rfl rfl (.free rfl)

/- spec.GetLabel -/
def inv_s_GetLabel_1 (p0 : List Int) (p1 : Int) (x2 : Int) (j1_0 : Bool) : St := mkT 52 [(0, .lst 1 (List.map byteV p0)), (1, .sc (.int .i64 p1)), (7, .sc (.int .i64 (IntKind.i64.wrap x2))), (33, .sc (.bool j1_0))] []
def inv_s_GetLabel_0 (p0 : List Int) (p1 : Int) (j0_0 : Bool) : St := mkT 52 [(0, .lst 1 (List.map byteV p0)), (1, .sc (.int .i64 p1)), (16, .sc (.bool j0_0))] []
set_option maxRecDepth 4000 in
set_option maxHeartbeats 800000 in
theorem ws_GetLabel (p0 : List Int) (p1 : Int) (r0 : ByteArray) (r1 : Int) (r2 : Bool) (h : s_GetLabel p0 p1 = some (r0, r1, r2)) : Runs Tryz.prog 130 [.lst 1 (List.map byteV p0), .sc (.int .i64 p1)] [] (.tup [.sc (.string r0), .sc (.int .i64 r1), .sc (.bool r2)]) [] := by
 unfold s_GetLabel at h
 refine runsR [.tmp 4, .tmp 5, .tmp 6] Tryz.func130 rfl rfl rfl rfl ?_
 rw [Tryz.ntmps130]
 refine tri_sr ?_
 refine s_mv (.inr rfl) (v := .sc (.string (⟨#[]⟩ : ByteArray))) rfl rfl rfl rfl ?_
 refine s_mv (.inr rfl) (v := .sc (.int .i64 0)) rfl rfl rfl rfl ?_
 refine s_mv (.inr rfl) (v := .sc (.bool false)) rfl rfl rfl rfl ?_
 refine rt_nil ?_
 refine tri_seq ?_
 refine tri_cutI (ι := { p : Bool // s_GetLabel_j0 p0 p1 p = some (r0, r1, r2) }) (fun p => inv_s_GetLabel_0 p0 p1 p.1) ?_ ?_
 ·skip
  refine tri_region ?_
  refine m1 ?_
  refine s_of (st_lss rfl rfl rfl) rfl rfl rfl rfl ?_
  refine m1 ?_
  refine s_split (t := 11) rfl (fun b1 => ?_) (fun b1 => ?_)
  ·replace h := cond_t h b1
   refine s_skip rfl rfl rfl ?_
   refine s_skip rfl rfl rfl ?_
   refine s_skip rfl rfl rfl ?_
   refine s_skip rfl rfl rfl ?_
   refine s_pickT rfl rfl (v := .sc (.bool true)) rfl rfl rfl rfl ?_
   refine rt_nil ?_
   refine Exists.intro ⟨true, h⟩ ?_
   refine entX [] [] trivial trivial rfl rfl ?_
   exact ⟨(.free rfl), (.free rfl), (.free rfl), trivial⟩
  ·replace h := cond_f h b1
   refine m1 ?_
   refine m1 ?_
   refine s_lenL rfl sl22 rfl rfl rfl rfl ?_
   refine s_of (st_geq rfl rfl rfl) rfl rfl rfl rfl ?_
   refine s_pickF rfl rfl (by conv => lhs; whnf) rfl rfl rfl ?_
   refine rt_nil ?_
   refine Exists.intro ⟨decide ((p0.length : Int) ≤ p1), h⟩ ?_
   refine entX [] [] trivial trivial rfl rfl ?_
   exact ⟨(.free rfl), (.free rfl), (.free rfl), trivial⟩
 ·rintro ⟨j0_0, h⟩
  replace h : s_GetLabel_j0 p0 p1 j0_0 = some (r0, r1, r2) := h
  unfold s_GetLabel_j0 at h
  show Tri _ _ _ (inv_s_GetLabel_0 p0 p1 j0_0)
  refine tri_cond rfl (fun c1 => ?_) (fun c1 => ?_)
  ·replace h := cond_t h c1
   refine tri_sr ?_
   refine s_mv (.inr rfl) (v := .sc (.string (⟨#[]⟩ : ByteArray))) rfl rfl rfl rfl ?_
   refine s_mv (.inr rfl) (v := .sc (.int .i64 0)) rfl rfl rfl rfl ?_
   refine s_mv (.inr rfl) (v := .sc (.bool false)) rfl rfl rfl rfl ?_
   refine rt_nil ?_
   refine tri_ret ?_
   have e0 := (some3 h).1; have e1 := (some3 h).2.1; have e2 := (some3 h).2.2; subst e0; subst e1; subst e2
   exact endY [] [] (rvC (resTmp rfl) (rvC (resTmp rfl) (rvC (resTmp rfl) rvN))) trivial trivial rfl rfl rfl rfl (CvL.tup (.cons (.free rfl) (.cons (.free rfl) (.cons (.free rfl) .nil))))
  ·replace h := cond_f h c1
   refine tri_skip ?_
   refine tri_sr ?_
   refine m1 ?_
   refine m1 ?_
   refine bnd1_elim h fun x2 q3 h => ?_
   have q3a := (idx_some q3).1; have q3b := (idx_some q3).2
   refine s_indexFZ rfl rfl rfl sl22 q3a (get_ltM q3b) rfl rfl rfl ?_
   refine s_loadF rfl rfl (rowG q3b) ty5 rfl (.inr rfl) (by conv => lhs; whnf) rfl rfl rfl ?_
   refine s_of (st_conv ik5 ik3 rfl rfl) rfl rfl rfl rfl ?_
   refine m2 ?_
   refine rt_nil ?_
   refine tri_seq ?_
   refine tri_cutI (ι := { p : Bool // s_GetLabel_j1 p0 p1 x2 p = some (r0, r1, r2) }) (fun p => inv_s_GetLabel_1 p0 p1 x2 p.1) ?_ ?_
   ·skip
    refine tri_region ?_
    refine m1 ?_
    refine bnd1_elim h fun x4 q5 h => ?_
    refine s_callN (kb := []) (ns := []) (v := .sc (.bool x4)) rfl rfl cl82 (ws_l1In (IntKind.i64.wrap x2) 1 12 x4 q5) rfl (.cons (.free rfl) (.cons (.free rfl) (.cons (.free rfl) .nil))) trivial memNil .nil memNil rfl trivial memNil rfl rfl rfl rfl rfl rfl ?_
    refine s_of (st_not rfl rfl) rfl rfl rfl rfl ?_
    refine m1 ?_
    refine s_split (t := 25) rfl (fun b6 => ?_) (fun b6 => ?_)
    ·replace h := cond_t h b6
     refine s_skip rfl rfl rfl ?_
     refine s_skip rfl rfl rfl ?_
     refine s_skip rfl rfl rfl ?_
     refine s_skip rfl rfl rfl ?_
     refine s_skip rfl rfl rfl ?_
     refine s_skip rfl rfl rfl ?_
     refine s_skip rfl rfl rfl ?_
     refine s_pickT rfl rfl (v := .sc (.bool true)) rfl rfl rfl rfl ?_
     refine rt_nil ?_
     refine Exists.intro ⟨true, h⟩ ?_
     refine entX [] [] trivial trivial rfl rfl ?_
     exact ⟨(.free rfl), (.free rfl), (.free rfl), (.free rfl), trivial⟩
    ·replace h := cond_f h b6
     refine m1 ?_
     refine m1 ?_
     refine s_lenL rfl sl22 rfl rfl rfl rfl ?_
     refine m1 ?_
     refine grd_elim h fun g7 h => ?_
     refine s_subI rfl rfl rfl rfl g7 rfl rfl rfl ?_
     refine grd_elim h fun g8 h => ?_
     refine s_subI rfl rfl rfl rfl g8 rfl rfl rfl ?_
     refine s_of (st_gtr rfl rfl rfl) rfl rfl rfl rfl ?_
     refine s_pickF rfl rfl (by conv => lhs; whnf) rfl rfl rfl ?_
     refine rt_nil ?_
     refine Exists.intro ⟨decide (((p0.length : Int) - p1) - 1 < IntKind.i64.wrap x2), h⟩ ?_
     refine entX [] [] trivial trivial rfl rfl ?_
     exact ⟨(.free rfl), (.free rfl), (.free rfl), (.free rfl), trivial⟩
   ·rintro ⟨j1_0, h⟩
    replace h : s_GetLabel_j1 p0 p1 x2 j1_0 = some (r0, r1, r2) := h
    unfold s_GetLabel_j1 at h
    show Tri _ _ _ (inv_s_GetLabel_1 p0 p1 x2 j1_0)
    refine tri_cond rfl (fun c4 => ?_) (fun c4 => ?_)
    ·replace h := cond_t h c4
     refine tri_sr ?_
     refine s_mv (.inr rfl) (v := .sc (.string (⟨#[]⟩ : ByteArray))) rfl rfl rfl rfl ?_
     refine s_mv (.inr rfl) (v := .sc (.int .i64 0)) rfl rfl rfl rfl ?_
     refine s_mv (.inr rfl) (v := .sc (.bool false)) rfl rfl rfl rfl ?_
     refine rt_nil ?_
     refine tri_ret ?_
     have e0 := (some3 h).1; have e1 := (some3 h).2.1; have e2 := (some3 h).2.2; subst e0; subst e1; subst e2
     exact endY [] [] (rvC (resTmp rfl) (rvC (resTmp rfl) (rvC (resTmp rfl) rvN))) trivial trivial rfl rfl rfl rfl (CvL.tup (.cons (.free rfl) (.cons (.free rfl) (.cons (.free rfl) .nil))))
    ·replace h := cond_f h c4
     refine tri_skip ?_
     refine tri_sr ?_
     refine m1 ?_
     refine m1 ?_
     refine grd_elim h fun g5 h => ?_
     refine s_addI rfl rfl rfl rfl g5 rfl rfl rfl ?_
     refine m1 ?_
     refine grd_elim h fun g6 h => ?_
     refine s_addI rfl rfl rfl rfl g6 rfl rfl rfl ?_
     refine m1 ?_
     refine grd_elim h fun g7 h => ?_
     refine s_addI rfl rfl rfl rfl g7 rfl rfl rfl ?_
     refine grd_elim h fun g8 h => ?_
     refine s_sliceFZ (a := p1 + 1) (b := (p1 + 1) + (IntKind.i64.wrap x2)) rfl rfl sl22 ⟨_, rfl⟩ ⟨_, rfl⟩ g8 rfl rfl rfl ?_
     refine s_toString rfl src_lst byt22 iss9 rfl rfl rfl rfl ?_
     refine bnd1_elim h fun x9 q10 h => ?_
     refine s_callN (kb := []) (ns := []) (v := .sc (.string x9)) rfl rfl cl142 (ws_Fold (strOfNums ((p0.drop (p1 + 1).toNat).take (((p1 + 1) + (IntKind.i64.wrap x2)).toNat - (p1 + 1).toNat))) x9 q10) rfl (.cons (.free rfl) .nil) trivial memNil .nil memNil rfl trivial memNil rfl rfl rfl rfl rfl rfl ?_
     refine m2 ?_
     refine rt_nil ?_
     refine tri_seq ?_
     refine tri_sr ?_
     refine m1 ?_
     refine bnd1_elim h fun x11 q12 h => ?_
     refine s_callN (kb := []) (ns := []) (v := .sc (.bool x11)) rfl rfl cl120 (ws_LabelOk x9 x11 q12) rfl (.cons (.free rfl) .nil) trivial memNil .nil memNil rfl trivial memNil rfl rfl rfl rfl rfl rfl ?_
     refine s_of (st_not rfl rfl) rfl rfl rfl rfl ?_
     refine rt_nil ?_
     refine tri_cond rfl (fun c13 => ?_) (fun c13 => ?_)
     ·replace h := cond_t h c13
      refine tri_sr ?_
      refine s_mv (.inr rfl) (v := .sc (.string (⟨#[]⟩ : ByteArray))) rfl rfl rfl rfl ?_
      refine s_mv (.inr rfl) (v := .sc (.int .i64 0)) rfl rfl rfl rfl ?_
      refine s_mv (.inr rfl) (v := .sc (.bool false)) rfl rfl rfl rfl ?_
      refine rt_nil ?_
      refine tri_ret ?_
      have e0 := (some3 h).1; have e1 := (some3 h).2.1; have e2 := (some3 h).2.2; subst e0; subst e1; subst e2
      exact endY [] [] (rvC (resTmp rfl) (rvC (resTmp rfl) (rvC (resTmp rfl) rvN))) trivial trivial rfl rfl rfl rfl (CvL.tup (.cons (.free rfl) (.cons (.free rfl) (.cons (.free rfl) .nil))))
     ·replace h := cond_f h c13
      refine tri_skip ?_
      refine tri_sr ?_
      refine m1 ?_
      refine m1 ?_
      refine grd_elim h fun g14 h => ?_
      refine s_addI rfl rfl rfl rfl g14 rfl rfl rfl ?_
      refine m1 ?_
      refine grd_elim h fun g15 h => ?_
      refine s_addI rfl rfl rfl rfl g15 rfl rfl rfl ?_
      refine m2 ?_
      refine m2 ?_
      refine s_mv (.inr rfl) (v := .sc (.bool true)) rfl rfl rfl rfl ?_
      refine rt_nil ?_
      refine tri_ret ?_
      have e0 := (some3 h).1; have e1 := (some3 h).2.1; have e2 := (some3 h).2.2; subst e0; subst e1; subst e2
      exact endY [] [] (rvC (resTmp rfl) (rvC (resTmp rfl) (rvC (resTmp rfl) rvN))) trivial trivial rfl rfl rfl rfl (CvL.tup (.cons (.free rfl) (.cons (.free rfl) (.cons (.free rfl) .nil))))

/- spec.l4Walk -/
def inv_s_l4Walk_2 (v0_1 : ByteArray) (v0_4 : Int) (j2_0 : Int) : St := mkT 105 [(8, .sc (.string v0_1)), (9, .sc (.int .i64 j2_0)), (11, .sc (.int .i64 v0_4))] []
def inv_s_l4Walk_3 (p0 : List Int) (v0_1 : ByteArray) (v0_4 : Int) (x2 : Int) (x13 : Int) (j3_0 : Int) : St := mkT 105 [(0, .lst 1 (List.map byteV p0)), (8, .sc (.string v0_1)), (9, .sc (.int .i64 j3_0)), (11, .sc (.int .i64 v0_4)), (13, .sc (.int .i64 ((256 * ((IntKind.i64.wrap x2) - 192)) + (IntKind.i64.wrap x13))))] []
def inv_s_l4Walk_5 (p0 : List Int) (v0_2 : Int) (v0_3 : Int) (v0_4 : Int) (x20 : ByteArray) (x21 : Int) (j5_0 : ByteArray) : St := mkT 105 [(0, .lst 1 (List.map byteV p0)), (8, .sc (.string j5_0)), (9, .sc (.int .i64 v0_2)), (10, .sc (.int .i64 v0_3)), (11, .sc (.int .i64 v0_4)), (14, .sc (.string x20)), (15, .sc (.int .i64 x21))] []
def inv_s_l4Walk_4 (p0 : List Int) (v0_0 : Int) (v0_1 : ByteArray) (v0_2 : Int) (v0_3 : Int) (v0_4 : Int) (j4_0 : Bool) : St := mkT 105 [(0, .lst 1 (List.map byteV p0)), (1, .sc (.int .i64 v0_0)), (8, .sc (.string v0_1)), (9, .sc (.int .i64 v0_2)), (10, .sc (.int .i64 v0_3)), (11, .sc (.int .i64 v0_4)), (81, .sc (.bool j4_0))] []
def inv_s_l4Walk_1 (p0 : List Int) (v0_0 : Int) (v0_1 : ByteArray) (v0_2 : Int) (v0_3 : Int) (v0_4 : Int) (j1_0 : Bool) : St := mkT 105 [(0, .lst 1 (List.map byteV p0)), (1, .sc (.int .i64 v0_0)), (8, .sc (.string v0_1)), (9, .sc (.int .i64 v0_2)), (10, .sc (.int .i64 v0_3)), (11, .sc (.int .i64 v0_4)), (25, .sc (.bool j1_0))] []
def inv_s_l4Walk_0 (p0 : List Int) (v0_0 : Int) (v0_1 : ByteArray) (v0_2 : Int) (v0_3 : Int) (v0_4 : Int) : St := mkT 105 [(0, .lst 1 (List.map byteV p0)), (1, .sc (.int .i64 v0_0)), (8, .sc (.string v0_1)), (9, .sc (.int .i64 v0_2)), (10, .sc (.int .i64 v0_3)), (11, .sc (.int .i64 v0_4))] []
set_option maxRecDepth 4000 in
set_option maxHeartbeats 800000 in
theorem ws_l4Walk (p0 : List Int) (p1 : Int) (r0 : ByteArray) (r1 : Int) (r2 : Int) (r3 : Int) (h : s_l4Walk p0 p1 = some (r0, r1, r2, r3)) : Runs Tryz.prog 96 [.lst 1 (List.map byteV p0), .sc (.int .i64 p1)] [] (.tup [.sc (.string r0), .sc (.int .i64 r1), .sc (.int .i64 r2), .sc (.int .i64 r3)]) [] := by
 unfold s_l4Walk at h
 refine runsR [.tmp 4, .tmp 5, .tmp 6, .tmp 7] Tryz.func96 rfl rfl rfl rfl ?_
 rw [Tryz.ntmps96]
 refine tri_sr ?_
 refine s_mv (.inr rfl) (v := .sc (.string (⟨#[]⟩ : ByteArray))) rfl rfl rfl rfl ?_
 refine s_mv (.inr rfl) (v := .sc (.int .i64 0)) rfl rfl rfl rfl ?_
 refine s_mv (.inr rfl) (v := .sc (.int .i64 0)) rfl rfl rfl rfl ?_
 refine s_mv (.inr rfl) (v := .sc (.int .i64 0)) rfl rfl rfl rfl ?_
 refine rt_nil ?_
 refine tri_sr ?_
 refine s_mv (.inr rfl) (v := .sc (.string (⟨#[]⟩ : ByteArray))) rfl rfl rfl rfl ?_
 refine rt_nil ?_
 refine tri_sr ?_
 refine s_mv (.inr rfl) (v := .sc (.int .i64 (-1))) rfl rfl rfl rfl ?_
 refine rt_nil ?_
 refine tri_sr ?_
 refine m1 ?_
 refine m2 ?_
 refine rt_nil ?_
 refine tri_sr ?_
 refine s_mv (.inr rfl) (v := .sc (.int .i64 0)) rfl rfl rfl rfl ?_
 refine rt_nil ?_
 refine tri_block ?_
 refine tri_loop (ι := { p : Nat × Int × ByteArray × Int × Int × Int // s_l4Walk_l0 p0 p.1 p.2.1 p.2.2.1 p.2.2.2.1 p.2.2.2.2.1 p.2.2.2.2.2 = some (r0, r1, r2, r3) }) (fun p => inv_s_l4Walk_0 p0 p.1.2.1 p.1.2.2.1 p.1.2.2.2.1 p.1.2.2.2.2.1 p.1.2.2.2.2.2) (fun p => p.1.1) ⟨(fuel0, p1, (⟨#[]⟩ : ByteArray), (-1), p1, 0), h⟩ ?_ ?_
 ·skip
  refine entX [] [] trivial trivial rfl rfl ?_
  exact ⟨(.free rfl), (.free rfl), (.free rfl), (.free rfl), (.free rfl), (.free rfl), trivial⟩
 ·rintro ⟨⟨f0, v0_0, v0_1, v0_2, v0_3, v0_4⟩, h⟩
  replace h : s_l4Walk_l0 p0 f0 v0_0 v0_1 v0_2 v0_3 v0_4 = some (r0, r1, r2, r3) := h
  cases f0 with
  | zero => cases h
  | succ f0 =>
  rw [s_l4Walk_l0] at h
  show Tri _ _ _ (inv_s_l4Walk_0 p0 v0_0 v0_1 v0_2 v0_3 v0_4)
  refine tri_block ?_
  refine tri_seq ?_
  refine tri_cutI (ι := { p : Bool // s_l4Walk_j1 p0 v0_0 v0_1 v0_2 v0_3 v0_4 (s_l4Walk_l0 p0 f0) p = some (r0, r1, r2, r3) }) (fun p => inv_s_l4Walk_1 p0 v0_0 v0_1 v0_2 v0_3 v0_4 p.1) ?_ ?_
  ·skip
   refine tri_region ?_
   refine m1 ?_
   refine s_of (st_lss rfl rfl rfl) rfl rfl rfl rfl ?_
   refine m1 ?_
   refine s_split (t := 20) rfl (fun b1 => ?_) (fun b1 => ?_)
   ·replace h := cond_t h b1
    refine s_skip rfl rfl rfl ?_
    refine s_skip rfl rfl rfl ?_
    refine s_skip rfl rfl rfl ?_
    refine s_skip rfl rfl rfl ?_
    refine s_pickT rfl rfl (v := .sc (.bool true)) rfl rfl rfl rfl ?_
    refine rt_nil ?_
    refine Exists.intro ⟨true, h⟩ ?_
    refine entX [] [] trivial trivial rfl rfl ?_
    exact ⟨(.free rfl), (.free rfl), (.free rfl), (.free rfl), (.free rfl), (.free rfl), (.free rfl), trivial⟩
   ·replace h := cond_f h b1
    refine m1 ?_
    refine m1 ?_
    refine s_lenL rfl sl22 rfl rfl rfl rfl ?_
    refine s_of (st_geq rfl rfl rfl) rfl rfl rfl rfl ?_
    refine s_pickF rfl rfl (by conv => lhs; whnf) rfl rfl rfl ?_
    refine rt_nil ?_
    refine Exists.intro ⟨decide ((p0.length : Int) ≤ v0_0), h⟩ ?_
    refine entX [] [] trivial trivial rfl rfl ?_
    exact ⟨(.free rfl), (.free rfl), (.free rfl), (.free rfl), (.free rfl), (.free rfl), (.free rfl), trivial⟩
  ·rintro ⟨j1_0, h⟩
   replace h : s_l4Walk_j1 p0 v0_0 v0_1 v0_2 v0_3 v0_4 (s_l4Walk_l0 p0 f0) j1_0 = some (r0, r1, r2, r3) := h
   unfold s_l4Walk_j1 at h
   show Tri _ _ _ (inv_s_l4Walk_1 p0 v0_0 v0_1 v0_2 v0_3 v0_4 j1_0)
   refine tri_cond rfl (fun c1 => ?_) (fun c1 => ?_)
   ·replace h := cond_t h c1
    refine tri_sr ?_
    refine m1 ?_
    refine s_mv (.inr rfl) (v := .sc (.string (⟨#[]⟩ : ByteArray))) rfl rfl rfl rfl ?_
    refine s_mv (.inr rfl) (v := .sc (.int .i64 0)) rfl rfl rfl rfl ?_
    refine s_mv (.inr rfl) (v := .sc (.int .i64 1)) rfl rfl rfl rfl ?_
    refine m2 ?_
    refine rt_nil ?_
    refine tri_ret ?_
    have e0 := (some4 h).1; have e1 := (some4 h).2.1; have e2 := (some4 h).2.2.1; have e3 := (some4 h).2.2.2; subst e0; subst e1; subst e2; subst e3
    exact endY [] [] (rvC (resTmp rfl) (rvC (resTmp rfl) (rvC (resTmp rfl) (rvC (resTmp rfl) rvN)))) trivial trivial rfl rfl rfl rfl (CvL.tup (.cons (.free rfl) (.cons (.free rfl) (.cons (.free rfl) (.cons (.free rfl) .nil)))))
   ·replace h := cond_f h c1
    refine tri_skip ?_
    refine tri_sr ?_
    refine m1 ?_
    refine m1 ?_
    refine bnd1_elim h fun x2 q3 h => ?_
    have q3a := (idx_some q3).1; have q3b := (idx_some q3).2
    refine s_indexFZ rfl rfl rfl sl22 q3a (get_ltM q3b) rfl rfl rfl ?_
    refine s_loadF rfl rfl (rowG q3b) ty5 rfl (.inr rfl) (by conv => lhs; whnf) rfl rfl rfl ?_
    refine s_of (st_conv ik5 ik3 rfl rfl) rfl rfl rfl rfl ?_
    refine m2 ?_
    refine rt_nil ?_
    refine tri_seq ?_
    refine tri_sr ?_
    refine m1 ?_
    refine s_of (st_eqI rfl rfl rfl) rfl rfl rfl rfl ?_
    refine rt_nil ?_
    refine tri_cond rfl (fun c4 => ?_) (fun c4 => ?_)
    ·replace h := cond_t h c4
     refine tri_cutI (ι := { p : Int // s_l4Walk_j2 v0_1 v0_4 p = some (r0, r1, r2, r3) }) (fun p => inv_s_l4Walk_2 v0_1 v0_4 p.1) ?_ ?_
     ·skip
      refine tri_sr ?_
      refine m1 ?_
      refine s_of (st_lss rfl rfl rfl) rfl rfl rfl rfl ?_
      refine rt_nil ?_
      refine tri_cond rfl (fun c5 => ?_) (fun c5 => ?_)
      ·replace h := cond_t h c5
       refine tri_region ?_
       refine m1 ?_
       refine grd_elim h fun g6 h => ?_
       refine s_addI rfl rfl rfl rfl g6 rfl rfl rfl ?_
       refine m2 ?_
       refine rt_nil ?_
       refine Exists.intro ⟨v0_0 + 1, h⟩ ?_
       refine entX [] [] trivial trivial rfl rfl ?_
       exact ⟨(.free rfl), (.free rfl), (.free rfl), trivial⟩
      ·replace h := cond_f h c5
       refine tri_skip ?_
       refine Exists.intro ⟨v0_2, h⟩ ?_
       refine entX [] [] trivial trivial rfl rfl ?_
       exact ⟨(.free rfl), (.free rfl), (.free rfl), trivial⟩
     ·rintro ⟨j2_0, h⟩
      replace h : s_l4Walk_j2 v0_1 v0_4 j2_0 = some (r0, r1, r2, r3) := h
      unfold s_l4Walk_j2 at h
      show Tri _ _ _ (inv_s_l4Walk_2 v0_1 v0_4 j2_0)
      refine tri_sr ?_
      refine m1 ?_
      refine m1 ?_
      refine m1 ?_
      refine m2 ?_
      refine m2 ?_
      refine s_mv (.inr rfl) (v := .sc (.int .i64 0)) rfl rfl rfl rfl ?_
      refine m2 ?_
      refine rt_nil ?_
      refine tri_ret ?_
      have e0 := (some4 h).1; have e1 := (some4 h).2.1; have e2 := (some4 h).2.2.1; have e3 := (some4 h).2.2.2; subst e0; subst e1; subst e2; subst e3
      exact endY [] [] (rvC (resTmp rfl) (rvC (resTmp rfl) (rvC (resTmp rfl) (rvC (resTmp rfl) rvN)))) trivial trivial rfl rfl rfl rfl (CvL.tup (.cons (.free rfl) (.cons (.free rfl) (.cons (.free rfl) (.cons (.free rfl) .nil)))))
    ·replace h := cond_f h c4
     refine tri_skip ?_
     refine tri_seq ?_
     refine tri_sr ?_
     refine m1 ?_
     refine s_of (st_geq rfl rfl rfl) rfl rfl rfl rfl ?_
     refine rt_nil ?_
     refine tri_cond rfl (fun c7 => ?_) (fun c7 => ?_)
     ·replace h := cond_t h c7
      refine tri_seq ?_
      refine tri_sr ?_
      refine m1 ?_
      refine grd_elim h fun g8 h => ?_
      refine s_addI rfl rfl rfl rfl g8 rfl rfl rfl ?_
      refine m1 ?_
      refine s_lenL rfl sl22 rfl rfl rfl rfl ?_
      refine s_of (st_geq rfl rfl rfl) rfl rfl rfl rfl ?_
      refine rt_nil ?_
      refine tri_cond rfl (fun c9 => ?_) (fun c9 => ?_)
      ·replace h := cond_t h c9
       refine tri_sr ?_
       refine m1 ?_
       refine s_mv (.inr rfl) (v := .sc (.string (⟨#[]⟩ : ByteArray))) rfl rfl rfl rfl ?_
       refine s_mv (.inr rfl) (v := .sc (.int .i64 0)) rfl rfl rfl rfl ?_
       refine s_mv (.inr rfl) (v := .sc (.int .i64 1)) rfl rfl rfl rfl ?_
       refine m2 ?_
       refine rt_nil ?_
       refine tri_ret ?_
       have e0 := (some4 h).1; have e1 := (some4 h).2.1; have e2 := (some4 h).2.2.1; have e3 := (some4 h).2.2.2; subst e0; subst e1; subst e2; subst e3
       exact endY [] [] (rvC (resTmp rfl) (rvC (resTmp rfl) (rvC (resTmp rfl) (rvC (resTmp rfl) rvN)))) trivial trivial rfl rfl rfl rfl (CvL.tup (.cons (.free rfl) (.cons (.free rfl) (.cons (.free rfl) (.cons (.free rfl) .nil)))))
      ·replace h := cond_f h c9
       refine tri_skip ?_
       refine tri_sr ?_
       refine m1 ?_
       refine grd_elim h fun g10 h => ?_
       refine s_subI rfl rfl rfl rfl g10 rfl rfl rfl ?_
       refine grd_elim h fun g11 h => ?_
       refine s_mulI rfl rfl rfl rfl g11 rfl rfl rfl ?_
       refine m1 ?_
       refine m1 ?_
       refine grd_elim h fun g12 h => ?_
       refine s_addI rfl rfl rfl rfl g12 rfl rfl rfl ?_
       refine bnd1_elim h fun x13 q14 h => ?_
       have q14a := (idx_some q14).1; have q14b := (idx_some q14).2
       refine s_indexFZ rfl rfl rfl sl22 q14a (get_ltM q14b) rfl rfl rfl ?_
       refine s_loadF rfl rfl (rowG q14b) ty5 rfl (.inr rfl) (by conv => lhs; whnf) rfl rfl rfl ?_
       refine s_of (st_conv ik5 ik3 rfl rfl) rfl rfl rfl rfl ?_
       refine grd_elim h fun g15 h => ?_
       refine s_addI rfl rfl rfl rfl g15 rfl rfl rfl ?_
       refine m2 ?_
       refine rt_nil ?_
       refine tri_seq ?_
       refine tri_sr ?_
       refine m1 ?_
       refine m1 ?_
       refine s_of (st_geq rfl rfl rfl) rfl rfl rfl rfl ?_
       refine rt_nil ?_
       refine tri_cond rfl (fun c16 => ?_) (fun c16 => ?_)
       ·replace h := cond_t h c16
        refine tri_sr ?_
        refine m1 ?_
        refine s_mv (.inr rfl) (v := .sc (.string (⟨#[]⟩ : ByteArray))) rfl rfl rfl rfl ?_
        refine s_mv (.inr rfl) (v := .sc (.int .i64 0)) rfl rfl rfl rfl ?_
        refine s_mv (.inr rfl) (v := .sc (.int .i64 3)) rfl rfl rfl rfl ?_
        refine m2 ?_
        refine rt_nil ?_
        refine tri_ret ?_
        have e0 := (some4 h).1; have e1 := (some4 h).2.1; have e2 := (some4 h).2.2.1; have e3 := (some4 h).2.2.2; subst e0; subst e1; subst e2; subst e3
        exact endY [] [] (rvC (resTmp rfl) (rvC (resTmp rfl) (rvC (resTmp rfl) (rvC (resTmp rfl) rvN)))) trivial trivial rfl rfl rfl rfl (CvL.tup (.cons (.free rfl) (.cons (.free rfl) (.cons (.free rfl) (.cons (.free rfl) .nil)))))
       ·replace h := cond_f h c16
        refine tri_skip ?_
        refine tri_cutI (ι := { p : Int // s_l4Walk_j3 v0_1 v0_4 x2 x13 (s_l4Walk_l0 p0 f0) p = some (r0, r1, r2, r3) }) (fun p => inv_s_l4Walk_3 p0 v0_1 v0_4 x2 x13 p.1) ?_ ?_
        ·skip
         refine tri_sr ?_
         refine m1 ?_
         refine s_of (st_lss rfl rfl rfl) rfl rfl rfl rfl ?_
         refine rt_nil ?_
         refine tri_cond rfl (fun c17 => ?_) (fun c17 => ?_)
         ·replace h := cond_t h c17
          refine tri_region ?_
          refine m1 ?_
          refine grd_elim h fun g18 h => ?_
          refine s_addI rfl rfl rfl rfl g18 rfl rfl rfl ?_
          refine m2 ?_
          refine rt_nil ?_
          refine Exists.intro ⟨v0_0 + 2, h⟩ ?_
          refine entX [] [] trivial trivial rfl rfl ?_
          exact ⟨(.free rfl), (.free rfl), (.free rfl), (.free rfl), (.free rfl), trivial⟩
         ·replace h := cond_f h c17
          refine tri_skip ?_
          refine Exists.intro ⟨v0_2, h⟩ ?_
          refine entX [] [] trivial trivial rfl rfl ?_
          exact ⟨(.free rfl), (.free rfl), (.free rfl), (.free rfl), (.free rfl), trivial⟩
        ·rintro ⟨j3_0, h⟩
         replace h : s_l4Walk_j3 v0_1 v0_4 x2 x13 (s_l4Walk_l0 p0 f0) j3_0 = some (r0, r1, r2, r3) := h
         unfold s_l4Walk_j3 at h
         show Tri _ _ _ (inv_s_l4Walk_3 p0 v0_1 v0_4 x2 x13 j3_0)
         refine tri_sr ?_
         refine m1 ?_
         refine grd_elim h fun g17 h => ?_
         refine s_addI rfl rfl rfl rfl g17 rfl rfl rfl ?_
         refine m2 ?_
         refine rt_nil ?_
         refine tri_sr ?_
         refine m1 ?_
         refine m2 ?_
         refine rt_nil ?_
         refine tri_sr ?_
         refine m1 ?_
         refine m2 ?_
         refine rt_nil ?_
         refine tri_exit ?_
         refine Exists.intro ⟨(f0, (256 * ((IntKind.i64.wrap x2) - 192)) + (IntKind.i64.wrap x13), v0_1, j3_0, (256 * ((IntKind.i64.wrap x2) - 192)) + (IntKind.i64.wrap x13), v0_4 + 1), h⟩ (And.intro (Nat.lt_succ_self _) ?_)
         refine entX [] [] trivial trivial rfl rfl ?_
         exact ⟨(.free rfl), (.free rfl), (.free rfl), (.free rfl), (.free rfl), (.free rfl), trivial⟩
     ·replace h := cond_f h c7
      refine tri_skip ?_
      refine tri_seq ?_
      refine tri_cutI (ι := { p : Bool // s_l4Walk_j4 p0 v0_0 v0_1 v0_2 v0_3 v0_4 (s_l4Walk_l0 p0 f0) p = some (r0, r1, r2, r3) }) (fun p => inv_s_l4Walk_4 p0 v0_0 v0_1 v0_2 v0_3 v0_4 p.1) ?_ ?_
      ·skip
       refine tri_region ?_
       refine m1 ?_
       refine s_of (st_leq rfl rfl rfl) rfl rfl rfl rfl ?_
       refine m1 ?_
       refine s_split (t := 73) rfl (fun b19 => ?_) (fun b19 => ?_)
       ·replace h := cond_t h b19
        refine m1 ?_
        refine m1 ?_
        refine s_lenL rfl sl22 rfl rfl rfl rfl ?_
        refine m1 ?_
        refine grd_elim h fun g20 h => ?_
        refine s_subI rfl rfl rfl rfl g20 rfl rfl rfl ?_
        refine grd_elim h fun g21 h => ?_
        refine s_subI rfl rfl rfl rfl g21 rfl rfl rfl ?_
        refine s_of (st_gtr rfl rfl rfl) rfl rfl rfl rfl ?_
        refine s_pickT rfl rfl (by conv => lhs; whnf) rfl rfl rfl ?_
        refine rt_nil ?_
        refine Exists.intro ⟨decide (((p0.length : Int) - v0_0) - 1 < IntKind.i64.wrap x2), h⟩ ?_
        refine entX [] [] trivial trivial rfl rfl ?_
        exact ⟨(.free rfl), (.free rfl), (.free rfl), (.free rfl), (.free rfl), (.free rfl), (.free rfl), trivial⟩
       ·replace h := cond_f h b19
        refine s_skip rfl rfl rfl ?_
        refine s_skip rfl rfl rfl ?_
        refine s_skip rfl rfl rfl ?_
        refine s_skip rfl rfl rfl ?_
        refine s_skip rfl rfl rfl ?_
        refine s_skip rfl rfl rfl ?_
        refine s_skip rfl rfl rfl ?_
        refine s_pickF rfl rfl (v := .sc (.bool false)) rfl rfl rfl rfl ?_
        refine rt_nil ?_
        refine Exists.intro ⟨false, h⟩ ?_
        refine entX [] [] trivial trivial rfl rfl ?_
        exact ⟨(.free rfl), (.free rfl), (.free rfl), (.free rfl), (.free rfl), (.free rfl), (.free rfl), trivial⟩
      ·rintro ⟨j4_0, h⟩
       replace h : s_l4Walk_j4 p0 v0_0 v0_1 v0_2 v0_3 v0_4 (s_l4Walk_l0 p0 f0) j4_0 = some (r0, r1, r2, r3) := h
       unfold s_l4Walk_j4 at h
       show Tri _ _ _ (inv_s_l4Walk_4 p0 v0_0 v0_1 v0_2 v0_3 v0_4 j4_0)
       refine tri_cond rfl (fun c19 => ?_) (fun c19 => ?_)
       ·replace h := cond_t h c19
        refine tri_sr ?_
        refine m1 ?_
        refine s_mv (.inr rfl) (v := .sc (.string (⟨#[]⟩ : ByteArray))) rfl rfl rfl rfl ?_
        refine s_mv (.inr rfl) (v := .sc (.int .i64 0)) rfl rfl rfl rfl ?_
        refine s_mv (.inr rfl) (v := .sc (.int .i64 1)) rfl rfl rfl rfl ?_
        refine m2 ?_
        refine rt_nil ?_
        refine tri_ret ?_
        have e0 := (some4 h).1; have e1 := (some4 h).2.1; have e2 := (some4 h).2.2.1; have e3 := (some4 h).2.2.2; subst e0; subst e1; subst e2; subst e3
        exact endY [] [] (rvC (resTmp rfl) (rvC (resTmp rfl) (rvC (resTmp rfl) (rvC (resTmp rfl) rvN)))) trivial trivial rfl rfl rfl rfl (CvL.tup (.cons (.free rfl) (.cons (.free rfl) (.cons (.free rfl) (.cons (.free rfl) .nil)))))
       ·replace h := cond_f h c19
        refine tri_skip ?_
        refine tri_sr ?_
        refine m1 ?_
        refine m1 ?_
        refine bnd3_elim h fun x20 x21 x22 q23 h => ?_
        refine s_callN (kb := []) (ns := []) (v := .tup [.sc (.string x20), .sc (.int .i64 x21), .sc (.bool x22)]) rfl rfl cl130 (ws_GetLabel p0 v0_0 x20 x21 x22 q23) rfl (.cons (.free rfl) (.cons (.free rfl) .nil)) trivial memNil .nil memNil rfl trivial memNil rfl rfl rfl rfl rfl rfl ?_
        refine m1 ?_
        refine s_extract rfl rfl rfl rfl rfl rfl ?_
        refine s_extract rfl rfl rfl rfl rfl rfl ?_
        refine s_extract rfl rfl rfl rfl rfl rfl ?_
        refine m2 ?_
        refine m2 ?_
        refine m2 ?_
        refine rt_nil ?_
        refine tri_seq ?_
        refine tri_sr ?_
        refine m1 ?_
        refine s_of (st_not rfl rfl) rfl rfl rfl rfl ?_
        refine rt_nil ?_
        refine tri_cond rfl (fun c24 => ?_) (fun c24 => ?_)
        ·replace h := cond_t h c24
         refine tri_sr ?_
         refine m1 ?_
         refine s_mv (.inr rfl) (v := .sc (.string (⟨#[]⟩ : ByteArray))) rfl rfl rfl rfl ?_
         refine s_mv (.inr rfl) (v := .sc (.int .i64 0)) rfl rfl rfl rfl ?_
         refine s_mv (.inr rfl) (v := .sc (.int .i64 2)) rfl rfl rfl rfl ?_
         refine m2 ?_
         refine rt_nil ?_
         refine tri_ret ?_
         have e0 := (some4 h).1; have e1 := (some4 h).2.1; have e2 := (some4 h).2.2.1; have e3 := (some4 h).2.2.2; subst e0; subst e1; subst e2; subst e3
         exact endY [] [] (rvC (resTmp rfl) (rvC (resTmp rfl) (rvC (resTmp rfl) (rvC (resTmp rfl) rvN)))) trivial trivial rfl rfl rfl rfl (CvL.tup (.cons (.free rfl) (.cons (.free rfl) (.cons (.free rfl) (.cons (.free rfl) .nil)))))
        ·replace h := cond_f h c24
         refine tri_skip ?_
         refine tri_cutI (ι := { p : ByteArray // s_l4Walk_j5 v0_2 v0_3 v0_4 x20 x21 (s_l4Walk_l0 p0 f0) p = some (r0, r1, r2, r3) }) (fun p => inv_s_l4Walk_5 p0 v0_2 v0_3 v0_4 x20 x21 p.1) ?_ ?_
         ·skip
          refine tri_sr ?_
          refine m1 ?_
          refine s_of (st_neS rfl rfl rfl) rfl rfl rfl rfl ?_
          refine rt_nil ?_
          refine tri_cond rfl (fun c25 => ?_) (fun c25 => ?_)
          ·replace h := cond_t h c25
           refine tri_region ?_
           refine m1 ?_
           refine grd_elim h fun g26 h => ?_
           refine s_of (st_catS g26 rfl rfl rfl) rfl rfl rfl rfl ?_
           refine m2 ?_
           refine rt_nil ?_
           refine Exists.intro ⟨v0_1 ++ (⟨#[46]⟩ : ByteArray), h⟩ ?_
           refine entX [] [] trivial trivial rfl rfl ?_
           exact ⟨(.free rfl), (.free rfl), (.free rfl), (.free rfl), (.free rfl), (.free rfl), (.free rfl), trivial⟩
          ·replace h := cond_f h c25
           refine tri_skip ?_
           refine Exists.intro ⟨v0_1, h⟩ ?_
           refine entX [] [] trivial trivial rfl rfl ?_
           exact ⟨(.free rfl), (.free rfl), (.free rfl), (.free rfl), (.free rfl), (.free rfl), (.free rfl), trivial⟩
         ·rintro ⟨j5_0, h⟩
          replace h : s_l4Walk_j5 v0_2 v0_3 v0_4 x20 x21 (s_l4Walk_l0 p0 f0) j5_0 = some (r0, r1, r2, r3) := h
          unfold s_l4Walk_j5 at h
          show Tri _ _ _ (inv_s_l4Walk_5 p0 v0_2 v0_3 v0_4 x20 x21 j5_0)
          refine tri_sr ?_
          refine m1 ?_
          refine m1 ?_
          refine grd_elim h fun g25 h => ?_
          refine s_of (st_catS g25 rfl rfl rfl) rfl rfl rfl rfl ?_
          refine m2 ?_
          refine rt_nil ?_
          refine tri_seq ?_
          refine tri_sr ?_
          refine m1 ?_
          refine bnd1_elim h fun x26 q27 h => ?_
          refine s_callN (kb := []) (ns := []) (v := .sc (.bool x26)) rfl rfl cl84 (ws_NameOk (j5_0 ++ x20) x26 q27) rfl (.cons (.free rfl) .nil) trivial memNil .nil memNil rfl trivial memNil rfl rfl rfl rfl rfl rfl ?_
          refine s_of (st_not rfl rfl) rfl rfl rfl rfl ?_
          refine rt_nil ?_
          refine tri_cond rfl (fun c28 => ?_) (fun c28 => ?_)
          ·replace h := cond_t h c28
           refine tri_sr ?_
           refine m1 ?_
           refine s_mv (.inr rfl) (v := .sc (.string (⟨#[]⟩ : ByteArray))) rfl rfl rfl rfl ?_
           refine s_mv (.inr rfl) (v := .sc (.int .i64 0)) rfl rfl rfl rfl ?_
           refine s_mv (.inr rfl) (v := .sc (.int .i64 4)) rfl rfl rfl rfl ?_
           refine m2 ?_
           refine rt_nil ?_
           refine tri_ret ?_
           have e0 := (some4 h).1; have e1 := (some4 h).2.1; have e2 := (some4 h).2.2.1; have e3 := (some4 h).2.2.2; subst e0; subst e1; subst e2; subst e3
           exact endY [] [] (rvC (resTmp rfl) (rvC (resTmp rfl) (rvC (resTmp rfl) (rvC (resTmp rfl) rvN)))) trivial trivial rfl rfl rfl rfl (CvL.tup (.cons (.free rfl) (.cons (.free rfl) (.cons (.free rfl) (.cons (.free rfl) .nil)))))
          ·replace h := cond_f h c28
           refine tri_skip ?_
           refine tri_region ?_
           refine m1 ?_
           refine m2 ?_
           refine rt_nil ?_
           refine Exists.intro ⟨(f0, x21, j5_0 ++ x20, v0_2, v0_3, v0_4), h⟩ (And.intro (Nat.lt_succ_self _) ?_)
           refine entX [] [] trivial trivial rfl rfl ?_
           exact ⟨(.free rfl), (.free rfl), (.free rfl), (.free rfl), (.free rfl), (.free rfl), trivial⟩

/- spec.GetName -/

set_option maxRecDepth 4000 in
set_option maxHeartbeats 800000 in
theorem ws_GetName (p0 : List Int) (p1 : Int) (r0 : ByteArray) (r1 : Int) (r2 : Int) (h : s_GetName p0 p1 = some (r0, r1, r2)) : Runs Tryz.prog 56 [.lst 1 (List.map byteV p0), .sc (.int .i64 p1)] [] (.tup [.sc (.string r0), .sc (.int .i64 r1), .sc (.int .i64 r2)]) [] := by
 unfold s_GetName at h
 refine runsR [.tmp 4, .tmp 5, .tmp 6] Tryz.func56 rfl rfl rfl rfl ?_
 rw [Tryz.ntmps56]
 refine tri_sr ?_
 refine s_mv (.inr rfl) (v := .sc (.string (⟨#[]⟩ : ByteArray))) rfl rfl rfl rfl ?_
 refine s_mv (.inr rfl) (v := .sc (.int .i64 0)) rfl rfl rfl rfl ?_
 refine s_mv (.inr rfl) (v := .sc (.int .i64 0)) rfl rfl rfl rfl ?_
 refine rt_nil ?_
 refine tri_sr ?_
 refine m1 ?_
 refine m1 ?_
 refine bnd4_elim h fun x1 x2 x3 x4 q5 h => ?_
 refine s_callN (kb := []) (ns := []) (v := .tup [.sc (.string x1), .sc (.int .i64 x2), .sc (.int .i64 x3), .sc (.int .i64 x4)]) rfl rfl cl96 (ws_l4Walk p0 p1 x1 x2 x3 x4 q5) rfl (.cons (.free rfl) (.cons (.free rfl) .nil)) trivial memNil .nil memNil rfl trivial memNil rfl rfl rfl rfl rfl rfl ?_
 refine m1 ?_
 refine s_extract rfl rfl rfl rfl rfl rfl ?_
 refine s_extract rfl rfl rfl rfl rfl rfl ?_
 refine s_extract rfl rfl rfl rfl rfl rfl ?_
 refine s_extract rfl rfl rfl rfl rfl rfl ?_
 refine m2 ?_
 refine m2 ?_
 refine m2 ?_
 refine m2 ?_
 refine rt_nil ?_
 refine tri_sr ?_
 refine m1 ?_
 refine m1 ?_
 refine m1 ?_
 refine m2 ?_
 refine m2 ?_
 refine m2 ?_
 refine rt_nil ?_
 refine tri_ret ?_
 have e0 := (some3 h).1; have e1 := (some3 h).2.1; have e2 := (some3 h).2.2; subst e0; subst e1; subst e2
 exact endY [] [] (rvC (resTmp rfl) (rvC (resTmp rfl) (rvC (resTmp rfl) rvN))) trivial trivial rfl rfl rfl rfl (CvL.tup (.cons (.free rfl) (.cons (.free rfl) (.cons (.free rfl) .nil))))

/- spec.PlaceOf -/
def inv_s_PlaceOf_2 (p0 : List Int) (p1 : ByteArray) (v0_0 : Int) (j2_0 : Bool) : St := mkT 34 [(0, .lst 1 (List.map byteV p0)), (1, .sc (.string p1)), (5, .sc (.int .i64 v0_0)), (32, .sc (.bool j2_0))] []
def inv_s_PlaceOf_1 (p0 : List Int) (p1 : ByteArray) (v0_0 : Int) (j1_0 : Bool) : St := mkT 34 [(0, .lst 1 (List.map byteV p0)), (1, .sc (.string p1)), (5, .sc (.int .i64 v0_0)), (16, .sc (.bool j1_0))] []
def inv_s_PlaceOf_0 (p0 : List Int) (p1 : ByteArray) (v0_0 : Int) : St := mkT 34 [(0, .lst 1 (List.map byteV p0)), (1, .sc (.string p1)), (5, .sc (.int .i64 v0_0))] []
set_option maxRecDepth 4000 in
set_option maxHeartbeats 800000 in
theorem ws_PlaceOf (p0 : List Int) (p1 : ByteArray) (r0 : Int) (h : s_PlaceOf p0 p1 = some r0) : Runs Tryz.prog 87 [.lst 1 (List.map byteV p0), .sc (.string p1)] [] (.sc (.int .i64 r0)) [] := by
 unfold s_PlaceOf at h
 refine runsR [.tmp 4] Tryz.func87 rfl rfl rfl rfl ?_
 rw [Tryz.ntmps87]
 refine tri_sr ?_
 refine s_mv (.inr rfl) (v := .sc (.int .i64 0)) rfl rfl rfl rfl ?_
 refine rt_nil ?_
 refine tri_seq ?_
 refine tri_sr ?_
 refine s_mv (.inr rfl) (v := .sc (.int .i64 0)) rfl rfl rfl rfl ?_
 refine rt_nil ?_
 refine tri_block ?_
 refine tri_loop (ι := { p : Nat × Int // s_PlaceOf_l0 p0 p1 p.1 p.2 = some r0 }) (fun p => inv_s_PlaceOf_0 p0 p1 p.1.2) (fun p => p.1.1) ⟨(fuel0, 0), h⟩ ?_ ?_
 ·skip
  refine entX [] [] trivial trivial rfl rfl ?_
  exact ⟨(.free rfl), (.free rfl), (.free rfl), trivial⟩
 ·rintro ⟨⟨f0, v0_0⟩, h⟩
  replace h : s_PlaceOf_l0 p0 p1 f0 v0_0 = some r0 := h
  cases f0 with
  | zero => cases h
  | succ f0 =>
  rw [s_PlaceOf_l0] at h
  show Tri _ _ _ (inv_s_PlaceOf_0 p0 p1 v0_0)
  refine tri_seq ?_
  refine tri_cutI (ι := { p : Bool // s_PlaceOf_j1 p0 p1 v0_0 (s_PlaceOf_l0 p0 p1 f0) p = some r0 }) (fun p => inv_s_PlaceOf_1 p0 p1 v0_0 p.1) ?_ ?_
  ·skip
   refine tri_region ?_
   refine m1 ?_
   refine m1 ?_
   refine s_lenL rfl sl22 rfl rfl rfl rfl ?_
   refine s_of (st_lss rfl rfl rfl) rfl rfl rfl rfl ?_
   refine m1 ?_
   refine s_split (t := 13) rfl (fun b1 => ?_) (fun b1 => ?_)
   ·replace h := cond_t h b1
    refine m1 ?_
    refine s_of (st_leq rfl rfl rfl) rfl rfl rfl rfl ?_
    refine s_pickT rfl rfl (by conv => lhs; whnf) rfl rfl rfl ?_
    refine rt_nil ?_
    refine Exists.intro ⟨decide (v0_0 ≤ 16383), h⟩ ?_
    refine entX [] [] trivial trivial rfl rfl ?_
    exact ⟨(.free rfl), (.free rfl), (.free rfl), (.free rfl), trivial⟩
   ·replace h := cond_f h b1
    refine s_skip rfl rfl rfl ?_
    refine s_skip rfl rfl rfl ?_
    refine s_pickF rfl rfl (v := .sc (.bool false)) rfl rfl rfl rfl ?_
    refine rt_nil ?_
    refine Exists.intro ⟨false, h⟩ ?_
    refine entX [] [] trivial trivial rfl rfl ?_
    exact ⟨(.free rfl), (.free rfl), (.free rfl), (.free rfl), trivial⟩
  ·rintro ⟨j1_0, h⟩
   replace h : s_PlaceOf_j1 p0 p1 v0_0 (s_PlaceOf_l0 p0 p1 f0) j1_0 = some r0 := h
   unfold s_PlaceOf_j1 at h
   show Tri _ _ _ (inv_s_PlaceOf_1 p0 p1 v0_0 j1_0)
   refine tri_cond rfl (fun c1 => ?_) (fun c1 => ?_)
   ·replace h := cond_t h c1
    refine tri_skip ?_
    refine tri_seq ?_
    refine tri_block ?_
    refine tri_sr ?_
    refine m1 ?_
    refine m1 ?_
    refine bnd3_elim h fun x2 x3 x4 q5 h => ?_
    refine s_callN (kb := []) (ns := []) (v := .tup [.sc (.string x2), .sc (.int .i64 x3), .sc (.int .i64 x4)]) rfl rfl cl56 (ws_GetName p0 v0_0 x2 x3 x4 q5) rfl (.cons (.free rfl) (.cons (.free rfl) .nil)) trivial memNil .nil memNil rfl trivial memNil rfl rfl rfl rfl rfl rfl ?_
    refine m1 ?_
    refine s_extract rfl rfl rfl rfl rfl rfl ?_
    refine s_extract rfl rfl rfl rfl rfl rfl ?_
    refine s_extract rfl rfl rfl rfl rfl rfl ?_
    refine m2 ?_
    refine m2 ?_
    refine m2 ?_
    refine rt_nil ?_
    refine tri_cutI (ι := { p : Bool // s_PlaceOf_j2 v0_0 (s_PlaceOf_l0 p0 p1 f0) p = some r0 }) (fun p => inv_s_PlaceOf_2 p0 p1 v0_0 p.1) ?_ ?_
    ·skip
     refine tri_region ?_
     refine m1 ?_
     refine s_of (st_eqI rfl rfl rfl) rfl rfl rfl rfl ?_
     refine m1 ?_
     refine s_split (t := 28) rfl (fun b6 => ?_) (fun b6 => ?_)
     ·replace h := cond_t h b6
      refine m1 ?_
      refine m1 ?_
      refine s_of (st_eqS rfl rfl rfl) rfl rfl rfl rfl ?_
      refine s_pickT rfl rfl (by conv => lhs; whnf) rfl rfl rfl ?_
      refine rt_nil ?_
      refine Exists.intro ⟨decide (x2 = p1), h⟩ ?_
      refine entX [] [] trivial trivial rfl rfl ?_
      exact ⟨(.free rfl), (.free rfl), (.free rfl), (.free rfl), trivial⟩
     ·replace h := cond_f h b6
      refine s_skip rfl rfl rfl ?_
      refine s_skip rfl rfl rfl ?_
      refine s_skip rfl rfl rfl ?_
      refine s_pickF rfl rfl (v := .sc (.bool false)) rfl rfl rfl rfl ?_
      refine rt_nil ?_
      refine Exists.intro ⟨false, h⟩ ?_
      refine entX [] [] trivial trivial rfl rfl ?_
      exact ⟨(.free rfl), (.free rfl), (.free rfl), (.free rfl), trivial⟩
    ·rintro ⟨j2_0, h⟩
     replace h : s_PlaceOf_j2 v0_0 (s_PlaceOf_l0 p0 p1 f0) j2_0 = some r0 := h
     unfold s_PlaceOf_j2 at h
     show Tri _ _ _ (inv_s_PlaceOf_2 p0 p1 v0_0 j2_0)
     refine tri_cond rfl (fun c6 => ?_) (fun c6 => ?_)
     ·replace h := cond_t h c6
      refine tri_sr ?_
      refine m1 ?_
      refine m2 ?_
      refine rt_nil ?_
      refine tri_ret ?_
      have e0 := (some1 h); subst e0
      exact endY [] [] (rvC (resTmp rfl) rvN) trivial trivial rfl rfl rfl rfl (.free rfl)
     ·replace h := cond_f h c6
      refine tri_skip ?_
      refine tri_region ?_
      refine m1 ?_
      refine grd_elim h fun g7 h => ?_
      refine s_addI rfl rfl rfl rfl g7 rfl rfl rfl ?_
      refine m2 ?_
      refine rt_nil ?_
      refine Exists.intro ⟨(f0, v0_0 + 1), h⟩ (And.intro (Nat.lt_succ_self _) ?_)
      refine entX [] [] trivial trivial rfl rfl ?_
      exact ⟨(.free rfl), (.free rfl), (.free rfl), trivial⟩
   ·replace h := cond_f h c1
    refine tri_exit ?_
    refine tri_sr ?_
    refine s_mv (.inr rfl) (v := .sc (.int .i64 (-1))) rfl rfl rfl rfl ?_
    refine rt_nil ?_
    refine tri_ret ?_
    have e0 := (some1 h); subst e0
    exact endY [] [] (rvC (resTmp rfl) rvN) trivial trivial rfl rfl rfl rfl (.free rfl)

/- spec.PutLabel -/

set_option maxRecDepth 4000 in
set_option maxHeartbeats 800000 in
theorem ws_PutLabel (p0 : List Int) (p1 : ByteArray) (r0 : List Int) (h : s_PutLabel p0 p1 = some r0) : Runs Tryz.prog 88 [.lst 1 (List.map byteV p0), .sc (.string p1)] [] (.own 5 1 (List.map byteV r0)) [] := by
 unfold s_PutLabel at h
 refine runsR [.tmp 4] Tryz.func88 rfl rfl rfl rfl ?_
 rw [Tryz.ntmps88]
 refine tri_sr ?_
 refine s_mv (.inr rfl) (v := .nils) rfl rfl rfl rfl ?_
 refine rt_nil ?_
 refine tri_sr ?_
 refine s_buildSlice (rows' := List.map byteV ([] : List Int)) rfl rfl rfl sl22 zc5 rfl rfl rfl rfl rfl rfl rfl rfl rfl ?_
 refine m1 ?_
 refine grd_elim h fun g1 h => ?_
 refine s_appL rfl rfl rfl sl22 zc5 rfl rfl rfl rfl rfl rfl src_lst g1 rfl rfl ?_
 refine m2 ?_
 refine rt_nil ?_
 refine tri_seq ?_
 refine tri_sr ?_
 refine m1 ?_
 refine bnd1_elim h fun x2 q3 h => ?_
 refine s_callN (kb := []) (ns := []) (v := .sc (.bool x2)) rfl rfl cl120 (ws_LabelOk p1 x2 q3) rfl (.cons (.free rfl) .nil) trivial memNil .nil memNil rfl trivial memNil rfl rfl rfl rfl rfl rfl ?_
 refine s_of (st_not rfl rfl) rfl rfl rfl rfl ?_
 refine rt_nil ?_
 refine tri_cond rfl (fun c4 => ?_) (fun c4 => ?_)
 ·replace h := cond_t h c4
  refine tri_sr ?_
  refine m1 ?_
  refine m2 ?_
  refine rt_nil ?_
  refine tri_ret ?_
  have e0 := (some1 h); subst e0
  exact endY (v' := .ref (2000, 0) 0 ((([] : List Int) ++ p0).length)) [((2000, 0), ⟨5, 1, List.map byteV (([] : List Int) ++ p0), false, true⟩, some (8, 0))] [] (rvC (resTmp rfl) rvN) ⟨⟨rfl, _, rfl, rfl, rfl, rfl, id, rowsCv_eq rfl (allFree_map byteV_free), rowsZ_map byteV_len⟩, trivial⟩ trivial rfl rfl (by kernel_rfl) (by simp only [V.mat, V.mat1, V.mat0, matL, matT, List.length_map] <;> rfl) (.ref rfl)
 ·replace h := cond_f h c4
  refine tri_skip ?_
  refine tri_sr ?_
  refine m1 ?_
  refine m1 ?_
  refine s_of (st_lenS rfl rfl iss9) rfl rfl rfl rfl ?_
  refine s_of (st_conv ik3 ik5 rfl rfl) rfl rfl rfl rfl ?_
  refine s_buildSlice (rows' := List.map byteV [IntKind.u8.wrap (p1.size : Int)]) rfl rfl rfl sl22 zc5 rfl rfl rfl rfl rfl rfl rfl rfl rfl ?_
  refine grd_elim h fun g5 h => ?_
  refine s_appL rfl rfl rfl sl22 zc5 rfl rfl rfl rfl rfl rfl (src_refL rfl rfl) g5 rfl rfl ?_
  refine m1 ?_
  refine grd_elim h fun g6 h => ?_
  refine s_appS rfl rfl rfl sl22 zc5 iss9 rfl rfl rfl rfl rfl rfl g6 rfl rfl ?_
  refine m2 ?_
  refine rt_nil ?_
  refine tri_ret ?_
  have e0 := (some1 h); subst e0
  exact endY (v' := .ref (2000, 0) 0 ((((([] : List Int) ++ p0) ++ [IntKind.u8.wrap (p1.size : Int)]) ++ (bytesOf p1)).length)) [((2000, 0), ⟨5, 1, List.map byteV (((([] : List Int) ++ p0) ++ [IntKind.u8.wrap (p1.size : Int)]) ++ (bytesOf p1)), false, true⟩, some (20, 0))] [] (rvC (resTmp rfl) rvN) ⟨⟨rfl, _, rfl, rfl, rfl, rfl, id, rowsCv_eq rfl (allFree_map byteV_free), rowsZ_map byteV_len⟩, trivial⟩ trivial rfl rfl (by kernel_rfl) (by simp only [V.mat, V.mat1, V.mat0, matL, matT, List.length_map] <;> rfl) (by show Cv _ _ _ _ (.ref (20, 0) 0 ((((([] : List Int) ++ p0) ++ [IntKind.u8.wrap (p1.size : Int)]) ++ (bytesOf p1)).length)) (.ref (2000, 0) 0 ((((([] : List Int) ++ p0) ++ [IntKind.u8.wrap (p1.size : Int)]) ++ (bytesOf p1)).length)); exact .ref rfl)

/- spec.PutName -/
def inv_s_PutName_1 (p0 : List Int) (x5 : List ByteArray) (x7 : List ByteArray) (v1_0 : List Int) (v1_1 : Nat) : St := mkT 54 [(0, .lst 1 (List.map byteV p0)), (5, .ref (2005, 0) 0 v1_0.length), (6, .ref (18, 0) 0 x5.length), (7, .ref (20, 0) 0 x7.length), (8, .sc (.int .i64 (v1_1 : Int)))] [((2005, 0), some ⟨5, 1, List.map byteV v1_0, false, true⟩), ((18, 0), some ⟨9, 1, List.map strV x5, false, true⟩), ((20, 0), some ⟨9, 1, List.map strV x7, false, true⟩)]
def inv_s_PutName_0  (j0_0 : List Int) : St := mkT 54 [(5, .ref (2005, 0) 0 j0_0.length)] [((2005, 0), some ⟨5, 1, List.map byteV j0_0, false, true⟩)]
set_option maxRecDepth 4000 in
set_option maxHeartbeats 800000 in
theorem ws_PutName (p0 : List Int) (p1 : ByteArray) (r0 : List Int) (h : s_PutName p0 p1 = some r0) : Runs Tryz.prog 44 [.lst 1 (List.map byteV p0), .sc (.string p1)] [] (.own 5 1 (List.map byteV r0)) [] := by
 unfold s_PutName at h
 refine runsR [.tmp 4] Tryz.func44 rfl rfl rfl rfl ?_
 rw [Tryz.ntmps44]
 refine tri_sr ?_
 refine s_mv (.inr rfl) (v := .nils) rfl rfl rfl rfl ?_
 refine rt_nil ?_
 refine tri_sr ?_
 refine s_buildSlice (rows' := List.map byteV ([] : List Int)) rfl rfl rfl sl22 zc5 rfl rfl rfl rfl rfl rfl rfl rfl rfl ?_
 refine m1 ?_
 refine grd_elim h fun g1 h => ?_
 refine s_appL rfl rfl rfl sl22 zc5 rfl rfl rfl rfl rfl rfl src_lst g1 rfl rfl ?_
 refine m2 ?_
 refine rt_nil ?_
 refine tri_seq ?_
 refine tri_sr ?_
 refine m1 ?_
 refine bnd1_elim h fun x2 q3 h => ?_
 refine s_callN (kb := []) (ns := []) (v := .sc (.bool x2)) rfl rfl cl84 (ws_NameOk p1 x2 q3) rfl (.cons (.free rfl) .nil) trivial memNil .nil memNil rfl trivial memNil rfl rfl rfl rfl rfl rfl ?_
 refine s_of (st_not rfl rfl) rfl rfl rfl rfl ?_
 refine rt_nil ?_
 refine tri_cond rfl (fun c4 => ?_) (fun c4 => ?_)
 ·replace h := cond_t h c4
  refine tri_sr ?_
  refine m1 ?_
  refine m2 ?_
  refine rt_nil ?_
  refine tri_ret ?_
  have e0 := (some1 h); subst e0
  exact endY (v' := .ref (2000, 0) 0 ((([] : List Int) ++ p0).length)) [((2000, 0), ⟨5, 1, List.map byteV (([] : List Int) ++ p0), false, true⟩, some (12, 0))] [] (rvC (resTmp rfl) rvN) ⟨⟨rfl, _, rfl, rfl, rfl, rfl, id, rowsCv_eq rfl (allFree_map byteV_free), rowsZ_map byteV_len⟩, trivial⟩ trivial rfl rfl (by kernel_rfl) (by simp only [V.mat, V.mat1, V.mat0, matL, matT, List.length_map] <;> rfl) (.ref rfl)
 ·replace h := cond_f h c4
  refine tri_skip ?_
  refine tri_sr ?_
  refine m1 ?_
  refine bnd1_elim h fun x5 q6 h => ?_
  refine s_callN (kb := []) (ns := []) (v := .ref (18, 0) 0 x5.length) rfl rfl cl85 (ws_Above p1 x5 q6) rfl (.cons (.free rfl) .nil) trivial memNil .nil memNil rfl ⟨(allSc_map strV_sc), trivial⟩ memNil rfl (by simp only [V.mat, V.mat1, V.mat0, matL, matT, List.length_map] <;> rfl) rfl rfl rfl rfl ?_
  refine m2 ?_
  refine rt_nil ?_
  refine tri_sr ?_
  refine m1 ?_
  refine bnd1_elim h fun x7 q8 h => ?_
  refine s_callN (kb := []) (ns := []) (v := .ref (20, 0) 0 x7.length) rfl rfl cl86 (ws_Labels p1 x7 q8) rfl (.cons (.free rfl) .nil) trivial memNil .nil memNil rfl ⟨(allSc_map strV_sc), trivial⟩ memNil rfl (by simp only [V.mat, V.mat1, V.mat0, matL, matT, List.length_map] <;> rfl) rfl rfl rfl rfl ?_
  refine m2 ?_
  refine rt_nil ?_
  refine tri_cutI (ι := { p : (List Int) // s_PutName_j0 p = some r0 }) (fun p => inv_s_PutName_0 p.1) ?_ ?_
  ·skip
   refine tri_sr ?_
   refine s_mv (.inr rfl) (v := .sc (.int .i64 0)) rfl rfl rfl rfl ?_
   refine rt_nil ?_
   refine tri_block ?_
   refine tri_ownM (20, 0) rfl (fun hl1 => ?_)
   refine tri_loop (ι := { p : (List ByteArray) × (List Int) × Nat // x7.drop p.2.2 = p.1 ∧ s_PutName_l1 p0 x5 p.1 p.2.1 p.2.2 = some r0 }) (fun p => inv_s_PutName_1 p0 x5 x7 p.1.2.1 p.1.2.2) (fun p => p.1.1.length) ⟨(x7, ([] : List Int) ++ p0, 0), rfl, h⟩ ?_ ?_
   ·skip
    refine entX [((2005, 0), ⟨5, 1, List.map byteV (([] : List Int) ++ p0), false, true⟩, some (12, 0)), ((18, 0), ⟨9, 1, List.map strV x5, false, true⟩, some (18, 0)), ((20, 0), ⟨9, 1, List.map strV x7, false, true⟩, some (20, 0))] [] ⟨⟨rfl, _, rfl, rfl, rfl, rfl, id, rowsCv_eq rfl (allFree_map byteV_free), rowsZ_map byteV_len⟩, ⟨rfl, _, rfl, rfl, rfl, rfl, id, rowsCv_eq rfl (allFree_map strV_free), rowsZ_map strV_len⟩, ⟨rfl, _, rfl, rfl, rfl, rfl, id, rowsCv_eq rfl (allFree_map strV_free), rowsZ_map strV_len⟩, trivial⟩ trivial rfl rfl ?_
    exact ⟨(.free rfl), (.ref rfl), (.ref rfl), (.ref rfl), (.free rfl), trivial⟩
   ·rintro ⟨⟨lrs1, v1_0, v1_1⟩, hd1, h⟩
    replace hd1 : x7.drop v1_1 = lrs1 := hd1
    replace h : s_PutName_l1 p0 x5 lrs1 v1_0 v1_1 = some r0 := h
    show Tri _ _ _ (inv_s_PutName_1 p0 x5 x7 v1_0 v1_1)
    refine tri_seq ?_
    refine tri_sr ?_
    refine m1 ?_
    refine m1 ?_
    refine s_len (m := x7.length) rfl sl91 rfl rfl rfl rfl ?_
    refine s_of (st_lss rfl rfl rfl) rfl rfl rfl rfl ?_
    refine rt_nil ?_
    refine tri_cond rfl (fun c9 => ?_) (fun c9 => ?_)
    ·refine drop_elim hd1 c9 fun e1 rs1 he hx1 hn1 => ?_
     subst he
     rw [s_PutName_l1] at h
     refine tri_skip ?_
     refine tri_seq ?_
     refine tri_block ?_
     refine tri_sr ?_
     refine m1 ?_
     refine m1 ?_
     refine m1 ?_
     refine bnd1_elim h fun x10 q11 h => ?_
     have q11a := (idx_some q11).1; have q11b := (idx_some q11).2
     refine s_indexZ rfl rfl rfl rfl sl91 rfl q11a (get_lt q11b) rfl rfl rfl ?_
     refine s_load rfl rfl rfl (rowG q11b) ty9 rfl (.inr rfl) (by conv => lhs; whnf) rfl rfl rfl ?_
     refine bnd1_elim h fun x12 q13 h => ?_
     refine s_callN (kb := []) (ns := []) (v := .sc (.int .i64 x12)) rfl rfl cl87 (ws_PlaceOf p0 x10 x12 q13) rfl (.cons (.free rfl) (.cons (.free rfl) .nil)) trivial memNil .nil memNil rfl trivial memNil rfl rfl rfl rfl rfl rfl ?_
     refine m2 ?_
     refine rt_nil ?_
     refine tri_seq ?_
     refine tri_sr ?_
     refine m1 ?_
     refine s_of (st_geq rfl rfl rfl) rfl rfl rfl rfl ?_
     refine rt_nil ?_
     refine tri_cond rfl (fun c14 => ?_) (fun c14 => ?_)
     ·replace h := cond_t h c14
      refine tri_sr ?_
      refine m1 ?_
      refine m1 ?_
      refine s_of (st_quo rfl rfl rfl (by decide)) rfl rfl rfl rfl ?_
      refine grd_elim h fun g15 h => ?_
      refine s_addI rfl rfl rfl rfl g15 rfl rfl rfl ?_
      refine s_of (st_conv ik3 ik5 rfl rfl) rfl rfl rfl rfl ?_
      refine m1 ?_
      refine s_of (st_rem rfl rfl rfl (by decide)) rfl rfl rfl rfl ?_
      refine s_of (st_conv ik3 ik5 rfl rfl) rfl rfl rfl rfl ?_
      refine s_buildSlice (rows' := List.map byteV [IntKind.u8.wrap (192 + (IntKind.i64.wrap (Int.tdiv x12 256))), IntKind.u8.wrap (Int.tmod x12 256)]) rfl rfl rfl sl22 zc5 rfl rfl rfl rfl rfl rfl rfl rfl rfl ?_
      refine grd_elim h fun g16 h => ?_
      refine s_appL rfl rfl rfl sl22 zc5 rfl rfl rfl rfl rfl rfl (src_refL rfl rfl) g16 rfl rfl ?_
      refine m2 ?_
      refine rt_nil ?_
      refine tri_ret ?_
      have e0 := (some1 h); subst e0
      exact endY (v' := .ref (2000, 0) 0 ((v1_0 ++ [IntKind.u8.wrap (192 + (IntKind.i64.wrap (Int.tdiv x12 256))), IntKind.u8.wrap (Int.tmod x12 256)]).length)) [((2000, 0), ⟨5, 1, List.map byteV (v1_0 ++ [IntKind.u8.wrap (192 + (IntKind.i64.wrap (Int.tdiv x12 256))), IntKind.u8.wrap (Int.tmod x12 256)]), false, true⟩, some (44, 0))] [] (rvC (resTmp rfl) rvN) ⟨⟨rfl, _, rfl, rfl, rfl, rfl, id, rowsCv_eq rfl (allFree_map byteV_free), rowsZ_map byteV_len⟩, trivial⟩ trivial rfl rfl (by kernel_rfl) (by simp only [V.mat, V.mat1, V.mat0, matL, matT, List.length_map] <;> rfl) (by show Cv _ _ _ _ (.ref (44, 0) 0 ((v1_0 ++ [IntKind.u8.wrap (192 + (IntKind.i64.wrap (Int.tdiv x12 256))), IntKind.u8.wrap (Int.tmod x12 256)]).length)) (.ref (2000, 0) 0 ((v1_0 ++ [IntKind.u8.wrap (192 + (IntKind.i64.wrap (Int.tdiv x12 256))), IntKind.u8.wrap (Int.tmod x12 256)]).length)); exact .ref rfl)
     ·replace h := cond_f h c14
      refine tri_skip ?_
      refine tri_region ?_
      refine m1 ?_
      refine m1 ?_
      refine m1 ?_
      refine s_index0 (i := v1_1) rfl rfl rfl rfl sl91 rfl (get_lt hx1) rfl rfl rfl ?_
      refine s_load rfl rfl rfl (rowG hx1) ty9 rfl (.inr rfl) (by conv => lhs; whnf) rfl rfl rfl ?_
      refine bnd1_elim h fun x17 q18 h => ?_
      refine s_callN (kb := [(2005, 0)]) (ns := []) (v := .ref (50, 0) 0 x17.length) rfl rfl cl88 (ws_PutLabel v1_0 e1 x17 q18) rfl (.cons (lendL rfl (.head _) rfl byteV_free byteV_len) (.cons (.free rfl) .nil)) trivial memNil .nil (fun _ _ => List.not_mem_nil) rfl ⟨(allSc_map byteV_sc), trivial⟩ memNil rfl (by simp only [V.mat, V.mat1, V.mat0, matL, matT, List.length_map] <;> rfl) rfl rfl rfl rfl ?_
      refine m2 ?_
      refine rt_nil ?_
      refine tri_region ?_
      refine m1 ?_
      refine s_inc (a := v1_1) (b := 1) rfl rfl rfl rfl (by have := get_lt hx1; have := hl1; omega) rfl rfl rfl ?_
      refine m2 ?_
      refine rt_nil ?_
      refine Exists.intro ⟨(rs1, x17, (v1_1 + 1)), hn1, h⟩ (And.intro (Nat.lt_succ_self _) ?_)
      refine entX [((2005, 0), ⟨5, 1, List.map byteV x17, false, true⟩, some (50, 0)), ((18, 0), ⟨9, 1, List.map strV x5, false, true⟩, some (18, 0)), ((20, 0), ⟨9, 1, List.map strV x7, false, true⟩, some (20, 0))] [] ⟨⟨rfl, _, rfl, rfl, rfl, rfl, id, rowsCv_eq rfl (allFree_map byteV_free), rowsZ_map byteV_len⟩, ⟨rfl, _, rfl, rfl, rfl, rfl, id, rowsCv_eq rfl (allFree_map strV_free), rowsZ_map strV_len⟩, ⟨rfl, _, rfl, rfl, rfl, rfl, id, rowsCv_eq rfl (allFree_map strV_free), rowsZ_map strV_len⟩, trivial⟩ trivial rfl rfl ?_
      exact ⟨(.free rfl), (.ref rfl), (.ref rfl), (.ref rfl), (.free rfl), trivial⟩
    ·have he := drop_f hd1 c9; subst he
     rw [s_PutName_l1] at h
     refine tri_exit ?_
     refine Exists.intro ⟨v1_0, h⟩ ?_
     refine entX [((2005, 0), ⟨5, 1, List.map byteV v1_0, false, true⟩, some (2005, 0))] [] ⟨⟨rfl, _, rfl, rfl, rfl, rfl, id, rowsCv_eq rfl (allFree_map byteV_free), rowsZ_map byteV_len⟩, trivial⟩ trivial rfl rfl ?_
     exact ⟨(.ref rfl), trivial⟩
  ·rintro ⟨j0_0, h⟩
   replace h : s_PutName_j0 j0_0 = some r0 := h
   unfold s_PutName_j0 at h
   show Tri _ _ _ (inv_s_PutName_0 j0_0)
   refine tri_sr ?_
   refine m1 ?_
   refine s_buildSlice (rows' := List.map byteV [0]) rfl rfl rfl sl22 zc5 rfl rfl rfl rfl rfl rfl rfl rfl rfl ?_
   refine grd_elim h fun g9 h => ?_
   refine s_appL rfl rfl rfl sl22 zc5 rfl rfl rfl rfl rfl rfl (src_refL rfl rfl) g9 rfl rfl ?_
   refine m2 ?_
   refine rt_nil ?_
   refine tri_ret ?_
   have e0 := (some1 h); subst e0
   exact endY (v' := .ref (2000, 0) 0 ((j0_0 ++ [0]).length)) [((2000, 0), ⟨5, 1, List.map byteV (j0_0 ++ [0]), false, true⟩, some (53, 0))] [] (rvC (resTmp rfl) rvN) ⟨⟨rfl, _, rfl, rfl, rfl, rfl, id, rowsCv_eq rfl (allFree_map byteV_free), rowsZ_map byteV_len⟩, trivial⟩ trivial rfl rfl (by kernel_rfl) (by simp only [V.mat, V.mat1, V.mat0, matL, matT, List.length_map] <;> rfl) (by show Cv _ _ _ _ (.ref (53, 0) 0 ((j0_0 ++ [0]).length)) (.ref (2000, 0) 0 ((j0_0 ++ [0]).length)); exact .ref rfl)

/- spec.Put4 -/

set_option maxRecDepth 4000 in
set_option maxHeartbeats 800000 in
theorem ws_Put4 (p0 : List Int) (p1 : Int) (r0 : List Int) (h : s_Put4 p0 p1 = some r0) : Runs Tryz.prog 122 [.lst 1 (List.map byteV p0), .sc (.int .i64 p1)] [] (.own 5 1 (List.map byteV r0)) [] := by
 unfold s_Put4 at h
 refine runsR [.tmp 4] Tryz.func122 rfl rfl rfl rfl ?_
 rw [Tryz.ntmps122]
 refine tri_sr ?_
 refine s_mv (.inr rfl) (v := .nils) rfl rfl rfl rfl ?_
 refine rt_nil ?_
 refine tri_sr ?_
 refine s_buildSlice (rows' := List.map byteV ([] : List Int)) rfl rfl rfl sl22 zc5 rfl rfl rfl rfl rfl rfl rfl rfl rfl ?_
 refine m1 ?_
 refine grd_elim h fun g1 h => ?_
 refine s_appL rfl rfl rfl sl22 zc5 rfl rfl rfl rfl rfl rfl src_lst g1 rfl rfl ?_
 refine m2 ?_
 refine rt_nil ?_
 refine tri_seq ?_
 refine tri_sr ?_
 refine m1 ?_
 refine bnd1_elim h fun x2 q3 h => ?_
 refine s_callN (kb := []) (ns := []) (v := .sc (.bool x2)) rfl rfl cl82 (ws_l1In p1 0 2147483647 x2 q3) rfl (.cons (.free rfl) (.cons (.free rfl) (.cons (.free rfl) .nil))) trivial memNil .nil memNil rfl trivial memNil rfl rfl rfl rfl rfl rfl ?_
 refine s_of (st_not rfl rfl) rfl rfl rfl rfl ?_
 refine rt_nil ?_
 refine tri_cond rfl (fun c4 => ?_) (fun c4 => ?_)
 ·replace h := cond_t h c4
  refine tri_sr ?_
  refine m1 ?_
  refine m2 ?_
  refine rt_nil ?_
  refine tri_ret ?_
  have e0 := (some1 h); subst e0
  exact endY (v' := .ref (2000, 0) 0 ((([] : List Int) ++ p0).length)) [((2000, 0), ⟨5, 1, List.map byteV (([] : List Int) ++ p0), false, true⟩, some (8, 0))] [] (rvC (resTmp rfl) rvN) ⟨⟨rfl, _, rfl, rfl, rfl, rfl, id, rowsCv_eq rfl (allFree_map byteV_free), rowsZ_map byteV_len⟩, trivial⟩ trivial rfl rfl (by kernel_rfl) (by simp only [V.mat, V.mat1, V.mat0, matL, matT, List.length_map] <;> rfl) (.ref rfl)
 ·replace h := cond_f h c4
  refine tri_skip ?_
  refine tri_sr ?_
  refine m1 ?_
  refine m1 ?_
  refine s_of (st_shrD (b := 24) rfl rfl rfl) rfl rfl rfl rfl ?_
  refine s_of (st_conv ik3 ik5 rfl rfl) rfl rfl rfl rfl ?_
  refine m1 ?_
  refine s_of (st_shrD (b := 16) rfl rfl rfl) rfl rfl rfl rfl ?_
  refine s_of (st_andD rfl rfl rfl) rfl rfl rfl rfl ?_
  refine s_of (st_conv ik3 ik5 rfl rfl) rfl rfl rfl rfl ?_
  refine m1 ?_
  refine s_of (st_shrD (b := 8) rfl rfl rfl) rfl rfl rfl rfl ?_
  refine s_of (st_andD rfl rfl rfl) rfl rfl rfl rfl ?_
  refine s_of (st_conv ik3 ik5 rfl rfl) rfl rfl rfl rfl ?_
  refine m1 ?_
  refine s_of (st_andD rfl rfl rfl) rfl rfl rfl rfl ?_
  refine s_of (st_conv ik3 ik5 rfl rfl) rfl rfl rfl rfl ?_
  refine s_buildSlice (rows' := List.map byteV [IntKind.u8.wrap (ishr .i64 p1 24), IntKind.u8.wrap (iand .i64 (ishr .i64 p1 16) 255), IntKind.u8.wrap (iand .i64 (ishr .i64 p1 8) 255), IntKind.u8.wrap (iand .i64 p1 255)]) rfl rfl rfl sl22 zc5 rfl rfl rfl rfl rfl rfl rfl rfl rfl ?_
  refine grd_elim h fun g5 h => ?_
  refine s_appL rfl rfl rfl sl22 zc5 rfl rfl rfl rfl rfl rfl (src_refL rfl rfl) g5 rfl rfl ?_
  refine m2 ?_
  refine rt_nil ?_
  refine tri_ret ?_
  have e0 := (some1 h); subst e0
  exact endY (v' := .ref (2000, 0) 0 (((([] : List Int) ++ p0) ++ [IntKind.u8.wrap (ishr .i64 p1 24), IntKind.u8.wrap (iand .i64 (ishr .i64 p1 16) 255), IntKind.u8.wrap (iand .i64 (ishr .i64 p1 8) 255), IntKind.u8.wrap (iand .i64 p1 255)]).length)) [((2000, 0), ⟨5, 1, List.map byteV ((([] : List Int) ++ p0) ++ [IntKind.u8.wrap (ishr .i64 p1 24), IntKind.u8.wrap (iand .i64 (ishr .i64 p1 16) 255), IntKind.u8.wrap (iand .i64 (ishr .i64 p1 8) 255), IntKind.u8.wrap (iand .i64 p1 255)]), false, true⟩, some (29, 0))] [] (rvC (resTmp rfl) rvN) ⟨⟨rfl, _, rfl, rfl, rfl, rfl, id, rowsCv_eq rfl (allFree_map byteV_free), rowsZ_map byteV_len⟩, trivial⟩ trivial rfl rfl (by kernel_rfl) (by simp only [V.mat, V.mat1, V.mat0, matL, matT, List.length_map] <;> rfl) (by show Cv _ _ _ _ (.ref (29, 0) 0 (((([] : List Int) ++ p0) ++ [IntKind.u8.wrap (ishr .i64 p1 24), IntKind.u8.wrap (iand .i64 (ishr .i64 p1 16) 255), IntKind.u8.wrap (iand .i64 (ishr .i64 p1 8) 255), IntKind.u8.wrap (iand .i64 p1 255)]).length)) (.ref (2000, 0) 0 (((([] : List Int) ++ p0) ++ [IntKind.u8.wrap (ishr .i64 p1 24), IntKind.u8.wrap (iand .i64 (ishr .i64 p1 16) 255), IntKind.u8.wrap (iand .i64 (ishr .i64 p1 8) 255), IntKind.u8.wrap (iand .i64 p1 255)]).length)); exact .ref rfl)

end Go.Abs.M
