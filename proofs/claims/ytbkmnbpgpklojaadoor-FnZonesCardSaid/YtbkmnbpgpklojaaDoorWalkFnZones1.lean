/- Walks of the functions that the law of FnZones reaches: what each of them computes, where its pure function does not fail. -/
import Derived.Test.YtbkmnbpgpklojaaDoorWalkFnZones0
set_option linter.unusedSimpArgs false
set_option linter.unusedVariables false
namespace Go.Abs.M
open Go Go.Abs Go.Proofs
theorem cl100 : callable Tryd.prog 100 = true := by kernel_rfl
theorem cl126 : callable Tryd.prog 126 = true := by kernel_rfl
theorem cl13 : callable Tryd.prog 13 = true := by kernel_rfl
theorem cl149 : callable Tryd.prog 149 = true := by kernel_rfl
theorem cl150 : callable Tryd.prog 150 = true := by kernel_rfl
theorem cl172 : callable Tryd.prog 172 = true := by kernel_rfl
theorem cl173 : callable Tryd.prog 173 = true := by kernel_rfl
theorem cl174 : callable Tryd.prog 174 = true := by kernel_rfl
theorem cl175 : callable Tryd.prog 175 = true := by kernel_rfl
theorem cl183 : callable Tryd.prog 183 = true := by kernel_rfl
theorem cl184 : callable Tryd.prog 184 = true := by kernel_rfl
theorem cl185 : callable Tryd.prog 185 = true := by kernel_rfl
theorem cl198 : callable Tryd.prog 198 = true := by kernel_rfl
theorem cl199 : callable Tryd.prog 199 = true := by kernel_rfl
theorem cl200 : callable Tryd.prog 200 = true := by kernel_rfl
theorem cl21 : callable Tryd.prog 21 = true := by kernel_rfl
theorem cl213 : callable Tryd.prog 213 = true := by kernel_rfl
theorem cl214 : callable Tryd.prog 214 = true := by kernel_rfl
theorem cl93 : callable Tryd.prog 93 = true := by kernel_rfl
theorem cl94 : callable Tryd.prog 94 = true := by kernel_rfl
theorem cl95 : callable Tryd.prog 95 = true := by kernel_rfl
theorem cl98 : callable Tryd.prog 98 = true := by kernel_rfl
theorem cl99 : callable Tryd.prog 99 = true := by kernel_rfl
/- impl.isTtl -/

set_option maxRecDepth 4000 in
set_option maxHeartbeats 800000 in
theorem wi_isTtl (p0 : Int) (r0 : Bool) (h : i_isTtl p0 = some r0) : Runs Tryd.prog 183 [.sc (.int .i64 p0)] [] (.sc (.bool r0)) [] := by
  unfold i_isTtl at h
  refine runsR [.tmp 2] Tryd.func183 rfl rfl rfl rfl ?_
  rw [Tryd.ntmps183]
  refine tri_seq ?_
  refine tri_region ?_
  refine s_mv (.inr rfl) (v := .sc (.bool false)) rfl rfl rfl rfl ?_
  refine rt_nil ?_
  refine tri_seq ?_
  refine tri_region ?_
  refine s_mv (.inl rfl) (by conv => lhs; whnf) rfl rfl rfl ?_
  refine s_of (st_geq rfl rfl rfl) rfl rfl rfl rfl ?_
  refine s_mv (.inl rfl) (by conv => lhs; whnf) rfl rfl rfl ?_
  refine s_split (t := 5) rfl (fun b1 => ?_) (fun b1 => ?_)
  · replace h := cond_t h b1
    refine s_mv (.inl rfl) (by conv => lhs; whnf) rfl rfl rfl ?_
    refine s_of (st_leq rfl rfl rfl) rfl rfl rfl rfl ?_
    refine s_pickT rfl rfl (by conv => lhs; whnf) rfl rfl rfl ?_
    refine s_mv (.inr rfl) (by conv => lhs; whnf) rfl rfl rfl ?_
    refine rt_nil ?_
    refine tri_ret ?_
    have e0 := (some1 h); subst e0
    exact endY [] [] (rvC (resTmp rfl) rvN) trivial trivial rfl rfl rfl rfl (.free rfl)
  · replace h := cond_f h b1
    refine s_skip rfl rfl rfl ?_
    refine s_skip rfl rfl rfl ?_
    refine s_pickF rfl rfl (v := .sc (.bool false)) rfl rfl rfl rfl ?_
    refine s_mv (.inr rfl) (by conv => lhs; whnf) rfl rfl rfl ?_
    refine rt_nil ?_
    refine tri_ret ?_
    have e0 := (some1 h); subst e0
    exact endY [] [] (rvC (resTmp rfl) rvN) trivial trivial rfl rfl rfl rfl (.free rfl)

/- impl.isFour -/

set_option maxRecDepth 4000 in
set_option maxHeartbeats 800000 in
theorem wi_isFour (p0 : Int) (r0 : Bool) (h : i_isFour p0 = some r0) : Runs Tryd.prog 184 [.sc (.int .i64 p0)] [] (.sc (.bool r0)) [] := by
  unfold i_isFour at h
  refine runsR [.tmp 2] Tryd.func184 rfl rfl rfl rfl ?_
  rw [Tryd.ntmps184]
  refine tri_seq ?_
  refine tri_region ?_
  refine s_mv (.inr rfl) (v := .sc (.bool false)) rfl rfl rfl rfl ?_
  refine rt_nil ?_
  refine tri_seq ?_
  refine tri_region ?_
  refine s_mv (.inl rfl) (by conv => lhs; whnf) rfl rfl rfl ?_
  refine s_of (st_geq rfl rfl rfl) rfl rfl rfl rfl ?_
  refine s_mv (.inl rfl) (by conv => lhs; whnf) rfl rfl rfl ?_
  refine s_split (t := 5) rfl (fun b1 => ?_) (fun b1 => ?_)
  · replace h := cond_t h b1
    refine s_mv (.inl rfl) (by conv => lhs; whnf) rfl rfl rfl ?_
    refine s_of (st_leq rfl rfl rfl) rfl rfl rfl rfl ?_
    refine s_pickT rfl rfl (by conv => lhs; whnf) rfl rfl rfl ?_
    refine s_mv (.inr rfl) (by conv => lhs; whnf) rfl rfl rfl ?_
    refine rt_nil ?_
    refine tri_ret ?_
    have e0 := (some1 h); subst e0
    exact endY [] [] (rvC (resTmp rfl) rvN) trivial trivial rfl rfl rfl rfl (.free rfl)
  · replace h := cond_f h b1
    refine s_skip rfl rfl rfl ?_
    refine s_skip rfl rfl rfl ?_
    refine s_pickF rfl rfl (v := .sc (.bool false)) rfl rfl rfl rfl ?_
    refine s_mv (.inr rfl) (by conv => lhs; whnf) rfl rfl rfl ?_
    refine rt_nil ?_
    refine tri_ret ?_
    have e0 := (some1 h); subst e0
    exact endY [] [] (rvC (resTmp rfl) rvN) trivial trivial rfl rfl rfl rfl (.free rfl)

/- impl.isText -/
def inv_i_isText_2 (p0 : ByteArray) (v1_0 : Int) (j2_0 : Bool) : St := mkT 23 [(0, .sc (.string p0)), (5, .sc (.int .i64 (p0.size : Int))), (6, .sc (.int .i64 v1_0)), (18, .sc (.bool j2_0))] []
def inv_i_isText_1 (p0 : ByteArray) (v1_0 : Int) : St := mkT 23 [(0, .sc (.string p0)), (5, .sc (.int .i64 (p0.size : Int))), (6, .sc (.int .i64 v1_0))] []
def inv_i_isText_0 (p0 : ByteArray) : St := mkT 23 [(0, .sc (.string p0))] []
set_option maxRecDepth 4000 in
set_option maxHeartbeats 800000 in
theorem wi_isText (p0 : ByteArray) (r0 : Bool) (h : i_isText p0 = some r0) : Runs Tryd.prog 185 [.sc (.string p0)] [] (.sc (.bool r0)) [] := by
  unfold i_isText at h
  refine runsR [.tmp 2] Tryd.func185 rfl rfl rfl rfl ?_
  rw [Tryd.ntmps185]
  refine tri_seq ?_
  refine tri_region ?_
  refine s_mv (.inr rfl) (v := .sc (.bool false)) rfl rfl rfl rfl ?_
  refine rt_nil ?_
  refine tri_cutI (ι := { p : Unit // i_isText_j0 p0 = some r0 }) (fun p => inv_i_isText_0 p0) ?_ ?_
  · skip
    refine tri_seq ?_
    refine tri_region ?_
    refine s_mv (.inl rfl) (by conv => lhs; whnf) rfl rfl rfl ?_
    refine s_of (st_lenS rfl rfl iss9) rfl rfl rfl rfl ?_
    refine s_mv (.inl rfl) (v := .sc (.int .i64 0)) rfl rfl rfl rfl ?_
    refine rt_nil ?_
    refine tri_block ?_
    refine tri_loop (ι := { p : Nat × Int // i_isText_l1 p0 p.1 p.2 = some r0 }) (fun p => inv_i_isText_1 p0 p.1.2) (fun p => p.1.1) ⟨(fuel0, 0), h⟩ ?_ ?_
    · skip
      refine entX [] [] trivial trivial rfl rfl ?_
      exact ⟨(.free rfl), (.free rfl), (.free rfl), trivial⟩
    · rintro ⟨⟨f1, v1_0⟩, h⟩
      replace h : i_isText_l1 p0 f1 v1_0 = some r0 := h
      cases f1 with
      | zero => cases h
      | succ f1 =>
      rw [i_isText_l1] at h
      show Tri _ _ _ (inv_i_isText_1 p0 v1_0)
      refine tri_seq ?_
      refine tri_region ?_
      refine s_of (st_lss rfl rfl rfl) rfl rfl rfl rfl ?_
      refine rt_nil ?_
      refine tri_seq ?_
      refine tri_cond rfl (fun c1 => ?_) (fun c1 => ?_)
      · replace h := cond_t h c1
        refine tri_skip ?_
        refine tri_seq ?_
        refine tri_block ?_
        refine tri_seq ?_
        refine tri_region ?_
        refine s_mv (.inl rfl) (by conv => lhs; whnf) rfl rfl rfl ?_
        refine s_mv (.inr rfl) (by conv => lhs; whnf) rfl rfl rfl ?_
        refine rt_nil ?_
        refine tri_cutI (ι := { p : Bool // i_isText_j2 v1_0 (i_isText_l1 p0 f1) p = some r0 }) (fun p => inv_i_isText_2 p0 v1_0 p.1) ?_ ?_
        · skip
          refine tri_region ?_
          refine s_mv (.inl rfl) (by conv => lhs; whnf) rfl rfl rfl ?_
          refine s_mv (.inl rfl) (by conv => lhs; whnf) rfl rfl rfl ?_
          refine bnd1_elim h fun x2 q3 h => ?_
          refine s_idxS rfl rfl rfl iss9 q3 rfl rfl rfl ?_
          refine s_of (st_lss rfl rfl rfl) rfl rfl rfl rfl ?_
          refine s_mv (.inl rfl) (by conv => lhs; whnf) rfl rfl rfl ?_
          refine s_split (t := 13) rfl (fun b4 => ?_) (fun b4 => ?_)
          · replace h := cond_t h b4
            refine s_skip rfl rfl rfl ?_
            refine s_skip rfl rfl rfl ?_
            refine s_skip rfl rfl rfl ?_
            refine s_skip rfl rfl rfl ?_
            refine s_pickT rfl rfl (v := .sc (.bool true)) rfl rfl rfl rfl ?_
            refine rt_nil ?_
            refine Exists.intro ⟨true, h⟩ ?_
            refine entX [] [] trivial trivial rfl rfl ?_
            exact ⟨(.free rfl), (.free rfl), (.free rfl), (.free rfl), trivial⟩
          · replace h := cond_f h b4
            refine s_mv (.inl rfl) (by conv => lhs; whnf) rfl rfl rfl ?_
            refine s_mv (.inl rfl) (by conv => lhs; whnf) rfl rfl rfl ?_
            refine bnd1_elim h fun x5 q6 h => ?_
            refine s_idxS rfl rfl rfl iss9 q6 rfl rfl rfl ?_
            refine s_of (st_gtr rfl rfl rfl) rfl rfl rfl rfl ?_
            refine s_pickF rfl rfl (by conv => lhs; whnf) rfl rfl rfl ?_
            refine rt_nil ?_
            refine Exists.intro ⟨decide (126 < x5), h⟩ ?_
            refine entX [] [] trivial trivial rfl rfl ?_
            exact ⟨(.free rfl), (.free rfl), (.free rfl), (.free rfl), trivial⟩
        · rintro ⟨j2_0, h⟩
          replace h : i_isText_j2 v1_0 (i_isText_l1 p0 f1) j2_0 = some r0 := h
          unfold i_isText_j2 at h
          show Tri _ _ _ (inv_i_isText_2 p0 v1_0 j2_0)
          refine tri_cond rfl (fun c2 => ?_) (fun c2 => ?_)
          · replace h := cond_t h c2
            refine tri_seq ?_
            refine tri_region ?_
            refine s_mv (.inr rfl) (v := .sc (.bool false)) rfl rfl rfl rfl ?_
            refine rt_nil ?_
            refine tri_ret ?_
            have e0 := (some1 h); subst e0
            exact endY [] [] (rvC (resTmp rfl) rvN) trivial trivial rfl rfl rfl rfl (.free rfl)
          · replace h := cond_f h c2
            refine tri_skip ?_
            refine tri_region ?_
            refine grd_elim h fun g3 h => ?_
            refine s_addI rfl rfl rfl rfl g3 rfl rfl rfl ?_
            refine s_mv (.inl rfl) (by conv => lhs; whnf) rfl rfl rfl ?_
            refine rt_nil ?_
            refine Exists.intro ⟨(f1, v1_0 + 1), h⟩ (And.intro (Nat.lt_succ_self _) ?_)
            refine entX [] [] trivial trivial rfl rfl ?_
            exact ⟨(.free rfl), (.free rfl), (.free rfl), trivial⟩
      · replace h := cond_f h c1
        refine tri_exit ?_
        refine Exists.intro ⟨(), h⟩ ?_
        refine entX [] [] trivial trivial rfl rfl ?_
        exact ⟨(.free rfl), trivial⟩
  · rintro ⟨u, h⟩
    replace h : i_isText_j0 p0 = some r0 := h
    unfold i_isText_j0 at h
    show Tri _ _ _ (inv_i_isText_0 p0)
    refine tri_seq ?_
    refine tri_region ?_
    refine s_mv (.inl rfl) (by conv => lhs; whnf) rfl rfl rfl ?_
    refine s_of (st_lenS rfl rfl iss9) rfl rfl rfl rfl ?_
    refine s_of (st_leq rfl rfl rfl) rfl rfl rfl rfl ?_
    refine s_mv (.inr rfl) (by conv => lhs; whnf) rfl rfl rfl ?_
    refine rt_nil ?_
    refine tri_ret ?_
    have e0 := (some1 h); subst e0
    exact endY [] [] (rvC (resTmp rfl) rvN) trivial trivial rfl rfl rfl rfl (.free rfl)

/- impl.RecordOk -/
def inv_i_RecordOk_1 (p0 : Rec) (j1_0 : Bool) : St := mkT 76 [(1, .ptr (1, 0) 0 0), (14, .sc (.int .i64 p0.ty)), (30, .sc (.bool j1_0))] [((1, 0), some ⟨39, 6, [[.sc (.string p0.name), .sc (.int .i64 p0.ty), .sc (.int .i64 p0.ttl), .sc (.int .i64 p0.n), .sc (.string p0.host), .sc (.string p0.text)]], false, true⟩)]
def inv_i_RecordOk_0 (p0 : Rec) (j0_0 : Bool) : St := mkT 76 [(1, .ptr (1, 0) 0 0), (12, .sc (.bool j0_0))] [((1, 0), some ⟨39, 6, [[.sc (.string p0.name), .sc (.int .i64 p0.ty), .sc (.int .i64 p0.ttl), .sc (.int .i64 p0.n), .sc (.string p0.host), .sc (.string p0.text)]], false, true⟩)]
set_option maxRecDepth 4000 in
set_option maxHeartbeats 800000 in
theorem wi_RecordOk (p0 : Rec) (r0 : Bool) (h : i_RecordOk p0 = some r0) : Runs Tryd.prog 150 [.agg (recV p0)] [] (.sc (.bool r0)) [] := by
  unfold i_RecordOk at h
  refine runsR [.tmp 2] Tryd.func150 rfl rfl rfl rfl ?_
  rw [Tryd.ntmps150]
  refine tri_seq ?_
  refine tri_region ?_
  refine s_box rfl rfl rfl rfl rfl rfl rfl ?_
  refine s_mv (.inr rfl) (v := .sc (.bool false)) rfl rfl rfl rfl ?_
  refine rt_nil ?_
  refine tri_seq ?_
  refine tri_cutI (ι := { p : Bool // i_RecordOk_j0 p0 p = some r0 }) (fun p => inv_i_RecordOk_0 p0 p.1) ?_ ?_
  · skip
    refine tri_region ?_
    refine s_fieldAddr rfl rfl fd39_0 rfl rfl rfl rfl ?_
    refine s_load rfl rfl rfl rfl ty9 rfl (.inr rfl) (by conv => lhs; whnf) rfl rfl rfl ?_
    refine bnd1_elim h fun x1 q2 h => ?_
    refine s_callN (kb := []) (ns := []) (v := .sc (.bool x1)) rfl rfl cl93 (wi_NameOk p0.name x1 q2) rfl (.cons (.free rfl) .nil) trivial memNil .nil memNil rfl trivial memNil rfl rfl rfl rfl rfl rfl ?_
    refine s_of (st_not rfl rfl) rfl rfl rfl rfl ?_
    refine s_mv (.inl rfl) (by conv => lhs; whnf) rfl rfl rfl ?_
    refine s_split (t := 7) rfl (fun b3 => ?_) (fun b3 => ?_)
    · replace h := cond_t h b3
      refine s_skip rfl rfl rfl ?_
      refine s_skip rfl rfl rfl ?_
      refine s_skip rfl rfl rfl ?_
      refine s_skip rfl rfl rfl ?_
      refine s_pickT rfl rfl (v := .sc (.bool true)) rfl rfl rfl rfl ?_
      refine rt_nil ?_
      refine Exists.intro ⟨true, h⟩ ?_
      refine entX [((1, 0), ⟨39, 6, [[.sc (.string p0.name), .sc (.int .i64 p0.ty), .sc (.int .i64 p0.ttl), .sc (.int .i64 p0.n), .sc (.string p0.host), .sc (.string p0.text)]], false, true⟩, some (1, 0))] [] ⟨⟨rfl, _, rfl, rfl, rfl, rfl, id, rowsCv_one (.cons (.free rfl) (.cons (.free rfl) (.cons (.free rfl) (.cons (.free rfl) (.cons (.free rfl) (.cons (.free rfl) .nil)))))), rowsZ_one rfl⟩, trivial⟩ trivial rfl rfl ?_
      exact ⟨(.ptr rfl), (.free rfl), trivial⟩
    · replace h := cond_f h b3
      refine s_fieldAddr rfl rfl fd39_2 rfl rfl rfl rfl ?_
      refine s_load rfl rfl rfl rfl ty3 rfl (.inr rfl) (by conv => lhs; whnf) rfl rfl rfl ?_
      refine bnd1_elim h fun x4 q5 h => ?_
      refine s_callN (kb := []) (ns := []) (v := .sc (.bool x4)) rfl rfl cl183 (wi_isTtl p0.ttl x4 q5) rfl (.cons (.free rfl) .nil) trivial memNil .nil memNil rfl trivial memNil rfl rfl rfl rfl rfl rfl ?_
      refine s_of (st_not rfl rfl) rfl rfl rfl rfl ?_
      refine s_pickF rfl rfl (by conv => lhs; whnf) rfl rfl rfl ?_
      refine rt_nil ?_
      refine Exists.intro ⟨!x4, h⟩ ?_
      refine entX [((1, 0), ⟨39, 6, [[.sc (.string p0.name), .sc (.int .i64 p0.ty), .sc (.int .i64 p0.ttl), .sc (.int .i64 p0.n), .sc (.string p0.host), .sc (.string p0.text)]], false, true⟩, some (1, 0))] [] ⟨⟨rfl, _, rfl, rfl, rfl, rfl, id, rowsCv_one (.cons (.free rfl) (.cons (.free rfl) (.cons (.free rfl) (.cons (.free rfl) (.cons (.free rfl) (.cons (.free rfl) .nil)))))), rowsZ_one rfl⟩, trivial⟩ trivial rfl rfl ?_
      exact ⟨(.ptr rfl), (.free rfl), trivial⟩
  · rintro ⟨j0_0, h⟩
    replace h : i_RecordOk_j0 p0 j0_0 = some r0 := h
    unfold i_RecordOk_j0 at h
    show Tri _ _ _ (inv_i_RecordOk_0 p0 j0_0)
    refine tri_cond rfl (fun c1 => ?_) (fun c1 => ?_)
    · replace h := cond_t h c1
      refine tri_seq ?_
      refine tri_region ?_
      refine s_mv (.inr rfl) (v := .sc (.bool false)) rfl rfl rfl rfl ?_
      refine rt_nil ?_
      refine tri_ret ?_
      have e0 := (some1 h); subst e0
      exact endY [] [] (rvC (resTmp rfl) rvN) trivial trivial rfl rfl rfl rfl (.free rfl)
    · replace h := cond_f h c1
      refine tri_skip ?_
      refine tri_seq ?_
      refine tri_seq ?_
      refine tri_region ?_
      refine s_fieldAddr rfl rfl fd39_1 rfl rfl rfl rfl ?_
      refine s_load rfl rfl rfl rfl ty3 rfl (.inr rfl) (by conv => lhs; whnf) rfl rfl rfl ?_
      refine rt_nil ?_
      refine tri_block ?_
      refine tri_seq ?_
      refine tri_region ?_
      refine s_of (st_eqI rfl rfl rfl) rfl rfl rfl rfl ?_
      refine s_mv (.inr rfl) (by conv => lhs; whnf) rfl rfl rfl ?_
      refine rt_nil ?_
      refine tri_cond rfl (fun c2 => ?_) (fun c2 => ?_)
      · replace h := cond_t h c2
        refine tri_seq ?_
        refine tri_region ?_
        refine s_fieldAddr rfl rfl fd39_3 rfl rfl rfl rfl ?_
        refine s_load rfl rfl rfl rfl ty3 rfl (.inr rfl) (by conv => lhs; whnf) rfl rfl rfl ?_
        refine bnd1_elim h fun x3 q4 h => ?_
        refine s_callN (kb := []) (ns := []) (v := .sc (.bool x3)) rfl rfl cl184 (wi_isFour p0.n x3 q4) rfl (.cons (.free rfl) .nil) trivial memNil .nil memNil rfl trivial memNil rfl rfl rfl rfl rfl rfl ?_
        refine s_mv (.inl rfl) (by conv => lhs; whnf) rfl rfl rfl ?_
        refine s_split (t := 20) rfl (fun b5 => ?_) (fun b5 => ?_)
        · replace h := cond_t h b5
          refine s_fieldAddr rfl rfl fd39_4 rfl rfl rfl rfl ?_
          refine s_load rfl rfl rfl rfl ty9 rfl (.inr rfl) (by conv => lhs; whnf) rfl rfl rfl ?_
          refine s_of (st_eqS rfl rfl rfl) rfl rfl rfl rfl ?_
          refine s_pickT rfl rfl (by conv => lhs; whnf) rfl rfl rfl ?_
          refine s_mv (.inl rfl) (by conv => lhs; whnf) rfl rfl rfl ?_
          refine s_split (t := 25) rfl (fun b6 => ?_) (fun b6 => ?_)
          · replace h := cond_t h b6
            refine s_fieldAddr rfl rfl fd39_5 rfl rfl rfl rfl ?_
            refine s_load rfl rfl rfl rfl ty9 rfl (.inr rfl) (by conv => lhs; whnf) rfl rfl rfl ?_
            refine s_of (st_eqS rfl rfl rfl) rfl rfl rfl rfl ?_
            refine s_pickT rfl rfl (by conv => lhs; whnf) rfl rfl rfl ?_
            refine s_mv (.inr rfl) (by conv => lhs; whnf) rfl rfl rfl ?_
            refine rt_nil ?_
            refine tri_ret ?_
            have e0 := (some1 h); subst e0
            exact endY [] [] (rvC (resTmp rfl) rvN) trivial trivial rfl rfl rfl rfl (.free rfl)
          · replace h := cond_f h b6
            refine s_skip rfl rfl rfl ?_
            refine s_skip rfl rfl rfl ?_
            refine s_skip rfl rfl rfl ?_
            refine s_pickF rfl rfl (v := .sc (.bool false)) rfl rfl rfl rfl ?_
            refine s_mv (.inr rfl) (by conv => lhs; whnf) rfl rfl rfl ?_
            refine rt_nil ?_
            refine tri_ret ?_
            have e0 := (some1 h); subst e0
            exact endY [] [] (rvC (resTmp rfl) rvN) trivial trivial rfl rfl rfl rfl (.free rfl)
        · replace h := cond_f h b5
          refine s_skip rfl rfl rfl ?_
          refine s_skip rfl rfl rfl ?_
          refine s_skip rfl rfl rfl ?_
          refine s_pickF rfl rfl (v := .sc (.bool false)) rfl rfl rfl rfl ?_
          refine s_mv (.inl rfl) (by conv => lhs; whnf) rfl rfl rfl ?_
          refine s_skip rfl rfl rfl ?_
          refine s_skip rfl rfl rfl ?_
          refine s_skip rfl rfl rfl ?_
          refine s_pickF rfl rfl (v := .sc (.bool false)) rfl rfl rfl rfl ?_
          refine s_mv (.inr rfl) (by conv => lhs; whnf) rfl rfl rfl ?_
          refine rt_nil ?_
          refine tri_ret ?_
          have e0 := (some1 h); subst e0
          exact endY [] [] (rvC (resTmp rfl) rvN) trivial trivial rfl rfl rfl rfl (.free rfl)
      · replace h := cond_f h c2
        refine tri_cutI (ι := { p : Bool // i_RecordOk_j1 p0 p = some r0 }) (fun p => inv_i_RecordOk_1 p0 p.1) ?_ ?_
        · skip
          refine tri_seq ?_
          refine tri_region ?_
          refine s_of (st_eqI rfl rfl rfl) rfl rfl rfl rfl ?_
          refine s_mv (.inr rfl) (by conv => lhs; whnf) rfl rfl rfl ?_
          refine rt_nil ?_
          refine tri_cond rfl (fun c7 => ?_) (fun c7 => ?_)
          · replace h := cond_t h c7
            refine tri_skip ?_
            refine Exists.intro ⟨decide (p0.ty = 2), h⟩ ?_
            refine entX [((1, 0), ⟨39, 6, [[.sc (.string p0.name), .sc (.int .i64 p0.ty), .sc (.int .i64 p0.ttl), .sc (.int .i64 p0.n), .sc (.string p0.host), .sc (.string p0.text)]], false, true⟩, some (1, 0))] [] ⟨⟨rfl, _, rfl, rfl, rfl, rfl, id, rowsCv_one (.cons (.free rfl) (.cons (.free rfl) (.cons (.free rfl) (.cons (.free rfl) (.cons (.free rfl) (.cons (.free rfl) .nil)))))), rowsZ_one rfl⟩, trivial⟩ trivial rfl rfl ?_
            exact ⟨(.ptr rfl), (.free rfl), (.free rfl), trivial⟩
          · replace h := cond_f h c7
            refine tri_region ?_
            refine s_of (st_eqI rfl rfl rfl) rfl rfl rfl rfl ?_
            refine s_mv (.inr rfl) (by conv => lhs; whnf) rfl rfl rfl ?_
            refine rt_nil ?_
            refine Exists.intro ⟨decide (p0.ty = 5), h⟩ ?_
            refine entX [((1, 0), ⟨39, 6, [[.sc (.string p0.name), .sc (.int .i64 p0.ty), .sc (.int .i64 p0.ttl), .sc (.int .i64 p0.n), .sc (.string p0.host), .sc (.string p0.text)]], false, true⟩, some (1, 0))] [] ⟨⟨rfl, _, rfl, rfl, rfl, rfl, id, rowsCv_one (.cons (.free rfl) (.cons (.free rfl) (.cons (.free rfl) (.cons (.free rfl) (.cons (.free rfl) (.cons (.free rfl) .nil)))))), rowsZ_one rfl⟩, trivial⟩ trivial rfl rfl ?_
            exact ⟨(.ptr rfl), (.free rfl), (.free rfl), trivial⟩
        · rintro ⟨j1_0, h⟩
          replace h : i_RecordOk_j1 p0 j1_0 = some r0 := h
          unfold i_RecordOk_j1 at h
          show Tri _ _ _ (inv_i_RecordOk_1 p0 j1_0)
          refine tri_cond rfl (fun c7 => ?_) (fun c7 => ?_)
          · replace h := cond_t h c7
            refine tri_seq ?_
            refine tri_region ?_
            refine s_fieldAddr rfl rfl fd39_3 rfl rfl rfl rfl ?_
            refine s_load rfl rfl rfl rfl ty3 rfl (.inr rfl) (by conv => lhs; whnf) rfl rfl rfl ?_
            refine s_of (st_eqI rfl rfl rfl) rfl rfl rfl rfl ?_
            refine s_mv (.inl rfl) (by conv => lhs; whnf) rfl rfl rfl ?_
            refine s_split (t := 36) rfl (fun b8 => ?_) (fun b8 => ?_)
            · replace h := cond_t h b8
              refine s_fieldAddr rfl rfl fd39_4 rfl rfl rfl rfl ?_
              refine s_load rfl rfl rfl rfl ty9 rfl (.inr rfl) (by conv => lhs; whnf) rfl rfl rfl ?_
              refine bnd1_elim h fun x9 q10 h => ?_
              refine s_callN (kb := []) (ns := []) (v := .sc (.bool x9)) rfl rfl cl93 (wi_NameOk p0.host x9 q10) rfl (.cons (.free rfl) .nil) trivial memNil .nil memNil rfl trivial memNil rfl rfl rfl rfl rfl rfl ?_
              refine s_pickT rfl rfl (by conv => lhs; whnf) rfl rfl rfl ?_
              refine s_mv (.inl rfl) (by conv => lhs; whnf) rfl rfl rfl ?_
              refine s_split (t := 41) rfl (fun b11 => ?_) (fun b11 => ?_)
              · replace h := cond_t h b11
                refine s_fieldAddr rfl rfl fd39_5 rfl rfl rfl rfl ?_
                refine s_load rfl rfl rfl rfl ty9 rfl (.inr rfl) (by conv => lhs; whnf) rfl rfl rfl ?_
                refine s_of (st_eqS rfl rfl rfl) rfl rfl rfl rfl ?_
                refine s_pickT rfl rfl (by conv => lhs; whnf) rfl rfl rfl ?_
                refine s_mv (.inr rfl) (by conv => lhs; whnf) rfl rfl rfl ?_
                refine rt_nil ?_
                refine tri_ret ?_
                have e0 := (some1 h); subst e0
                exact endY [] [] (rvC (resTmp rfl) rvN) trivial trivial rfl rfl rfl rfl (.free rfl)
              · replace h := cond_f h b11
                refine s_skip rfl rfl rfl ?_
                refine s_skip rfl rfl rfl ?_
                refine s_skip rfl rfl rfl ?_
                refine s_pickF rfl rfl (v := .sc (.bool false)) rfl rfl rfl rfl ?_
                refine s_mv (.inr rfl) (by conv => lhs; whnf) rfl rfl rfl ?_
                refine rt_nil ?_
                refine tri_ret ?_
                have e0 := (some1 h); subst e0
                exact endY [] [] (rvC (resTmp rfl) rvN) trivial trivial rfl rfl rfl rfl (.free rfl)
            · replace h := cond_f h b8
              refine s_skip rfl rfl rfl ?_
              refine s_skip rfl rfl rfl ?_
              refine s_skip rfl rfl rfl ?_
              refine s_pickF rfl rfl (v := .sc (.bool false)) rfl rfl rfl rfl ?_
              refine s_mv (.inl rfl) (by conv => lhs; whnf) rfl rfl rfl ?_
              refine s_skip rfl rfl rfl ?_
              refine s_skip rfl rfl rfl ?_
              refine s_skip rfl rfl rfl ?_
              refine s_pickF rfl rfl (v := .sc (.bool false)) rfl rfl rfl rfl ?_
              refine s_mv (.inr rfl) (by conv => lhs; whnf) rfl rfl rfl ?_
              refine rt_nil ?_
              refine tri_ret ?_
              have e0 := (some1 h); subst e0
              exact endY [] [] (rvC (resTmp rfl) rvN) trivial trivial rfl rfl rfl rfl (.free rfl)
          · replace h := cond_f h c7
            refine tri_seq ?_
            refine tri_region ?_
            refine s_of (st_eqI rfl rfl rfl) rfl rfl rfl rfl ?_
            refine s_mv (.inr rfl) (by conv => lhs; whnf) rfl rfl rfl ?_
            refine rt_nil ?_
            refine tri_cond rfl (fun c12 => ?_) (fun c12 => ?_)
            · replace h := cond_t h c12
              refine tri_seq ?_
              refine tri_region ?_
              refine s_fieldAddr rfl rfl fd39_3 rfl rfl rfl rfl ?_
              refine s_load rfl rfl rfl rfl ty3 rfl (.inr rfl) (by conv => lhs; whnf) rfl rfl rfl ?_
              refine bnd1_elim h fun x13 q14 h => ?_
              refine s_callN (kb := []) (ns := []) (v := .sc (.bool x13)) rfl rfl cl183 (wi_isTtl p0.n x13 q14) rfl (.cons (.free rfl) .nil) trivial memNil .nil memNil rfl trivial memNil rfl rfl rfl rfl rfl rfl ?_
              refine s_mv (.inl rfl) (by conv => lhs; whnf) rfl rfl rfl ?_
              refine s_split (t := 51) rfl (fun b15 => ?_) (fun b15 => ?_)
              · replace h := cond_t h b15
                refine s_fieldAddr rfl rfl fd39_4 rfl rfl rfl rfl ?_
                refine s_load rfl rfl rfl rfl ty9 rfl (.inr rfl) (by conv => lhs; whnf) rfl rfl rfl ?_
                refine bnd1_elim h fun x16 q17 h => ?_
                refine s_callN (kb := []) (ns := []) (v := .sc (.bool x16)) rfl rfl cl93 (wi_NameOk p0.host x16 q17) rfl (.cons (.free rfl) .nil) trivial memNil .nil memNil rfl trivial memNil rfl rfl rfl rfl rfl rfl ?_
                refine s_pickT rfl rfl (by conv => lhs; whnf) rfl rfl rfl ?_
                refine s_mv (.inl rfl) (by conv => lhs; whnf) rfl rfl rfl ?_
                refine s_split (t := 56) rfl (fun b18 => ?_) (fun b18 => ?_)
                · replace h := cond_t h b18
                  refine s_fieldAddr rfl rfl fd39_5 rfl rfl rfl rfl ?_
                  refine s_load rfl rfl rfl rfl ty9 rfl (.inr rfl) (by conv => lhs; whnf) rfl rfl rfl ?_
                  refine s_of (st_eqS rfl rfl rfl) rfl rfl rfl rfl ?_
                  refine s_pickT rfl rfl (by conv => lhs; whnf) rfl rfl rfl ?_
                  refine s_mv (.inr rfl) (by conv => lhs; whnf) rfl rfl rfl ?_
                  refine rt_nil ?_
                  refine tri_ret ?_
                  have e0 := (some1 h); subst e0
                  exact endY [] [] (rvC (resTmp rfl) rvN) trivial trivial rfl rfl rfl rfl (.free rfl)
                · replace h := cond_f h b18
                  refine s_skip rfl rfl rfl ?_
                  refine s_skip rfl rfl rfl ?_
                  refine s_skip rfl rfl rfl ?_
                  refine s_pickF rfl rfl (v := .sc (.bool false)) rfl rfl rfl rfl ?_
                  refine s_mv (.inr rfl) (by conv => lhs; whnf) rfl rfl rfl ?_
                  refine rt_nil ?_
                  refine tri_ret ?_
                  have e0 := (some1 h); subst e0
                  exact endY [] [] (rvC (resTmp rfl) rvN) trivial trivial rfl rfl rfl rfl (.free rfl)
              · replace h := cond_f h b15
                refine s_skip rfl rfl rfl ?_
                refine s_skip rfl rfl rfl ?_
                refine s_skip rfl rfl rfl ?_
                refine s_pickF rfl rfl (v := .sc (.bool false)) rfl rfl rfl rfl ?_
                refine s_mv (.inl rfl) (by conv => lhs; whnf) rfl rfl rfl ?_
                refine s_skip rfl rfl rfl ?_
                refine s_skip rfl rfl rfl ?_
                refine s_skip rfl rfl rfl ?_
                refine s_pickF rfl rfl (v := .sc (.bool false)) rfl rfl rfl rfl ?_
                refine s_mv (.inr rfl) (by conv => lhs; whnf) rfl rfl rfl ?_
                refine rt_nil ?_
                refine tri_ret ?_
                have e0 := (some1 h); subst e0
                exact endY [] [] (rvC (resTmp rfl) rvN) trivial trivial rfl rfl rfl rfl (.free rfl)
            · replace h := cond_f h c12
              refine tri_seq ?_
              refine tri_region ?_
              refine s_of (st_eqI rfl rfl rfl) rfl rfl rfl rfl ?_
              refine s_mv (.inr rfl) (by conv => lhs; whnf) rfl rfl rfl ?_
              refine rt_nil ?_
              refine tri_cond rfl (fun c19 => ?_) (fun c19 => ?_)
              · replace h := cond_t h c19
                refine tri_seq ?_
                refine tri_region ?_
                refine s_fieldAddr rfl rfl fd39_3 rfl rfl rfl rfl ?_
                refine s_load rfl rfl rfl rfl ty3 rfl (.inr rfl) (by conv => lhs; whnf) rfl rfl rfl ?_
                refine s_of (st_eqI rfl rfl rfl) rfl rfl rfl rfl ?_
                refine s_mv (.inl rfl) (by conv => lhs; whnf) rfl rfl rfl ?_
                refine s_split (t := 66) rfl (fun b20 => ?_) (fun b20 => ?_)
                · replace h := cond_t h b20
                  refine s_fieldAddr rfl rfl fd39_4 rfl rfl rfl rfl ?_
                  refine s_load rfl rfl rfl rfl ty9 rfl (.inr rfl) (by conv => lhs; whnf) rfl rfl rfl ?_
                  refine s_of (st_eqS rfl rfl rfl) rfl rfl rfl rfl ?_
                  refine s_pickT rfl rfl (by conv => lhs; whnf) rfl rfl rfl ?_
                  refine s_mv (.inl rfl) (by conv => lhs; whnf) rfl rfl rfl ?_
                  refine s_split (t := 71) rfl (fun b21 => ?_) (fun b21 => ?_)
                  · replace h := cond_t h b21
                    refine s_fieldAddr rfl rfl fd39_5 rfl rfl rfl rfl ?_
                    refine s_load rfl rfl rfl rfl ty9 rfl (.inr rfl) (by conv => lhs; whnf) rfl rfl rfl ?_
                    refine bnd1_elim h fun x22 q23 h => ?_
                    refine s_callN (kb := []) (ns := []) (v := .sc (.bool x22)) rfl rfl cl185 (wi_isText p0.text x22 q23) rfl (.cons (.free rfl) .nil) trivial memNil .nil memNil rfl trivial memNil rfl rfl rfl rfl rfl rfl ?_
                    refine s_pickT rfl rfl (by conv => lhs; whnf) rfl rfl rfl ?_
                    refine s_mv (.inr rfl) (by conv => lhs; whnf) rfl rfl rfl ?_
                    refine rt_nil ?_
                    refine tri_ret ?_
                    have e0 := (some1 h); subst e0
                    exact endY [] [] (rvC (resTmp rfl) rvN) trivial trivial rfl rfl rfl rfl (.free rfl)
                  · replace h := cond_f h b21
                    refine s_skip rfl rfl rfl ?_
                    refine s_skip rfl rfl rfl ?_
                    refine s_skip rfl rfl rfl ?_
                    refine s_pickF rfl rfl (v := .sc (.bool false)) rfl rfl rfl rfl ?_
                    refine s_mv (.inr rfl) (by conv => lhs; whnf) rfl rfl rfl ?_
                    refine rt_nil ?_
                    refine tri_ret ?_
                    have e0 := (some1 h); subst e0
                    exact endY [] [] (rvC (resTmp rfl) rvN) trivial trivial rfl rfl rfl rfl (.free rfl)
                · replace h := cond_f h b20
                  refine s_skip rfl rfl rfl ?_
                  refine s_skip rfl rfl rfl ?_
                  refine s_skip rfl rfl rfl ?_
                  refine s_pickF rfl rfl (v := .sc (.bool false)) rfl rfl rfl rfl ?_
                  refine s_mv (.inl rfl) (by conv => lhs; whnf) rfl rfl rfl ?_
                  refine s_skip rfl rfl rfl ?_
                  refine s_skip rfl rfl rfl ?_
                  refine s_skip rfl rfl rfl ?_
                  refine s_pickF rfl rfl (v := .sc (.bool false)) rfl rfl rfl rfl ?_
                  refine s_mv (.inr rfl) (by conv => lhs; whnf) rfl rfl rfl ?_
                  refine rt_nil ?_
                  refine tri_ret ?_
                  have e0 := (some1 h); subst e0
                  exact endY [] [] (rvC (resTmp rfl) rvN) trivial trivial rfl rfl rfl rfl (.free rfl)
              · replace h := cond_f h c19
                refine tri_skip ?_
                refine tri_seq ?_
                refine tri_region ?_
                refine s_mv (.inr rfl) (v := .sc (.bool false)) rfl rfl rfl rfl ?_
                refine rt_nil ?_
                refine tri_ret ?_
                have e0 := (some1 h); subst e0
                exact endY [] [] (rvC (resTmp rfl) rvN) trivial trivial rfl rfl rfl rfl (.free rfl)

/- impl.allOk$1 -/

set_option maxRecDepth 4000 in
set_option maxHeartbeats 800000 in
theorem wi_allOk_1 (p0 : Rec) (r0 : Bool) (h : i_allOk_1 p0 = some r0) : Runs Tryd.prog 149 [.agg (recV p0)] [] (.sc (.bool r0)) [] := by
  unfold i_allOk_1 at h
  refine runsR [.tmp 2] Tryd.func149 rfl rfl rfl rfl ?_
  rw [Tryd.ntmps149]
  refine tri_seq ?_
  refine tri_region ?_
  refine s_box rfl rfl rfl rfl rfl rfl rfl ?_
  refine s_mv (.inr rfl) (v := .sc (.bool false)) rfl rfl rfl rfl ?_
  refine rt_nil ?_
  refine tri_seq ?_
  refine tri_region ?_
  refine s_loadR rfl rfl rfl rfl ty39 rfl rfl rfl ?_
  refine bnd1_elim h fun x1 q2 h => ?_
  refine s_callN (kb := []) (ns := []) (v := .sc (.bool x1)) rfl rfl cl150 (wi_RecordOk p0 x1 q2) rfl (.cons (relAgg rfl) .nil) trivial memNil .nil memNil rfl trivial memNil rfl rfl rfl rfl rfl rfl ?_
  refine s_of (st_not rfl rfl) rfl rfl rfl rfl ?_
  refine s_mv (.inr rfl) (by conv => lhs; whnf) rfl rfl rfl ?_
  refine rt_nil ?_
  refine tri_ret ?_
  have e0 := (some1 h); subst e0
  exact endY [] [] (rvC (resTmp rfl) rvN) trivial trivial rfl rfl rfl rfl (.free rfl)

/- impl.allOk -/

set_option maxRecDepth 4000 in
set_option maxHeartbeats 800000 in
theorem wi_allOk (p0 : List Rec) (p1 : Int) (r0 : Bool) (h : i_allOk p0 p1 = some r0) : Runs Tryd.prog 94 [.lst 6 (List.map recV p0), .sc (.int .i64 p1)] [] (.sc (.bool r0)) [] := by
  unfold i_allOk at h
  refine runsR [.tmp 4] Tryd.func94 rfl rfl rfl rfl ?_
  rw [Tryd.ntmps94]
  refine tri_seq ?_
  refine tri_region ?_
  refine s_mv (.inr rfl) (v := .sc (.bool false)) rfl rfl rfl rfl ?_
  refine rt_nil ?_
  refine tri_seq ?_
  refine tri_region ?_
  refine s_mv (.inl rfl) (by conv => lhs; whnf) rfl rfl rfl ?_
  refine s_lenL rfl sl24 rfl rfl rfl rfl ?_
  refine s_mv (.inl rfl) (by conv => lhs; whnf) rfl rfl rfl ?_
  refine s_of (st_leq rfl rfl rfl) rfl rfl rfl rfl ?_
  refine s_mv (.inl rfl) (by conv => lhs; whnf) rfl rfl rfl ?_
  refine s_split (t := 9) rfl (fun b1 => ?_) (fun b1 => ?_)
  · replace h := cond_t h b1
    refine s_mv (.inl rfl) (by conv => lhs; whnf) rfl rfl rfl ?_
    refine bnd1_elim h fun x2 q3 h => ?_
    refine s_callN (kb := []) (ns := []) (v := .sc (.bool x2)) rfl rfl cl98 (wslices_ContainsFunc_Record p0 149 [] rfl cl149 (fun a0 => i_allOk_1 a0) (fun a0 v0 hv => wi_allOk_1 a0 v0 hv) x2 q3) rfl (.cons (.free rfl) (.cons relFn0 .nil)) trivial memNil .nil memNil rfl trivial memNil rfl rfl rfl rfl rfl rfl ?_
    refine s_of (st_not rfl rfl) rfl rfl rfl rfl ?_
    refine s_pickT rfl rfl (by conv => lhs; whnf) rfl rfl rfl ?_
    refine s_mv (.inr rfl) (by conv => lhs; whnf) rfl rfl rfl ?_
    refine rt_nil ?_
    refine tri_ret ?_
    have e0 := (some1 h); subst e0
    exact endY [] [] (rvC (resTmp rfl) rvN) trivial trivial rfl rfl rfl rfl (.free rfl)
  · replace h := cond_f h b1
    refine s_skip rfl rfl rfl ?_
    refine s_skip rfl rfl rfl ?_
    refine s_skip rfl rfl rfl ?_
    refine s_pickF rfl rfl (v := .sc (.bool false)) rfl rfl rfl rfl ?_
    refine s_mv (.inr rfl) (by conv => lhs; whnf) rfl rfl rfl ?_
    refine rt_nil ?_
    refine tri_ret ?_
    have e0 := (some1 h); subst e0
    exact endY [] [] (rvC (resTmp rfl) rvN) trivial trivial rfl rfl rfl rfl (.free rfl)

/- slices.Reverse[[]string,string] -/
def inv_slices_Reverse_string_0  (v0_0 : List ByteArray) (v0_1 : Int) (v0_2 : Int) : St := mkT 28 [(0, .ref (1000, 0) 0 v0_0.length), (2, .sc (.int .i64 v0_1)), (3, .sc (.int .i64 v0_2))] [((1000, 0), some ⟨9, 1, List.map strV v0_0, false, false⟩)]
set_option maxRecDepth 4000 in
set_option maxHeartbeats 800000 in
theorem wslices_Reverse_string (p0 : List ByteArray) (r0 : List ByteArray) (h : slices_Reverse_string p0 = some r0) : Runs Tryd.prog 213 [.ref (1000, 0) 0 p0.length] [⟨9, 1, List.map strV p0, false, false⟩] (.tup []) [⟨9, 1, List.map strV r0, false, false⟩] := by
  unfold slices_Reverse_string at h
  refine runsR [] Tryd.func213 rfl rfl rfl rfl ?_
  rw [Tryd.ntmps213]
  refine tri_seq ?_
  refine tri_region ?_
  refine s_mv (.inl rfl) (by conv => lhs; whnf) rfl rfl rfl ?_
  refine s_len (m := p0.length) rfl sl33 rfl rfl rfl rfl ?_
  refine grd_elim h fun g1 h => ?_
  refine s_subI rfl rfl rfl rfl g1 rfl rfl rfl ?_
  refine s_mv (.inr rfl) (v := .sc (.int .i64 0)) rfl rfl rfl rfl ?_
  refine s_mv (.inr rfl) (by conv => lhs; whnf) rfl rfl rfl ?_
  refine rt_nil ?_
  refine tri_block ?_
  refine tri_loop (ι := { p : Nat × (List ByteArray) × Int × Int // slices_Reverse_string_l0 p.1 p.2.1 p.2.2.1 p.2.2.2 = some r0 }) (fun p => inv_slices_Reverse_string_0 p.1.2.1 p.1.2.2.1 p.1.2.2.2) (fun p => p.1.1) ⟨(fuel0, p0, 0, (p0.length : Int) - 1), h⟩ ?_ ?_
  · skip
    refine entX [((1000, 0), ⟨9, 1, List.map strV p0, false, false⟩, some (1000, 0))] [] ⟨⟨rfl, _, rfl, rfl, rfl, rfl, id, rowsCv_eq rfl (allFree_map strV_free), rowsZ_map strV_len⟩, trivial⟩ trivial rfl rfl ?_
    exact ⟨(.ref rfl), (.free rfl), (.free rfl), trivial⟩
  · rintro ⟨⟨f0, v0_0, v0_1, v0_2⟩, h⟩
    replace h : slices_Reverse_string_l0 f0 v0_0 v0_1 v0_2 = some r0 := h
    cases f0 with
    | zero => cases h
    | succ f0 =>
    rw [slices_Reverse_string_l0] at h
    show Tri _ _ _ (inv_slices_Reverse_string_0 v0_0 v0_1 v0_2)
    refine tri_seq ?_
    refine tri_seq ?_
    refine tri_region ?_
    refine s_mv (.inl rfl) (by conv => lhs; whnf) rfl rfl rfl ?_
    refine s_mv (.inl rfl) (by conv => lhs; whnf) rfl rfl rfl ?_
    refine s_of (st_lss rfl rfl rfl) rfl rfl rfl rfl ?_
    refine rt_nil ?_
    refine tri_cond rfl (fun c2 => ?_) (fun c2 => ?_)
    · replace h := cond_t h c2
      refine tri_skip ?_
      refine tri_seq ?_
      refine tri_block ?_
      refine tri_draw mixed ?_
      refine s_mv (.inl rfl) (by conv => lhs; whnf) rfl rfl rfl ?_
      refine s_mv (.inl rfl) (by conv => lhs; whnf) rfl rfl rfl ?_
      refine s_mv (.inl rfl) (by conv => lhs; whnf) rfl rfl rfl ?_
      refine s_mv (.inl rfl) (by conv => lhs; whnf) rfl rfl rfl ?_
      refine s_mv (.inl rfl) (by conv => lhs; whnf) rfl rfl rfl ?_
      refine s_mv (.inl rfl) (by conv => lhs; whnf) rfl rfl rfl ?_
      refine bnd1_elim h fun x3 q4 h => ?_
      have q4a := (idx_some q4).1; have q4b := (idx_some q4).2
      refine s_indexZ rfl rfl rfl rfl sl33 rfl q4a (get_lt q4b) rfl rfl rfl ?_
      refine s_load rfl rfl rfl (rowG q4b) ty9 rfl (.inr rfl) (by conv => lhs; whnf) rfl rfl rfl ?_
      refine s_mv (.inl rfl) (by conv => lhs; whnf) rfl rfl rfl ?_
      refine s_mv (.inl rfl) (by conv => lhs; whnf) rfl rfl rfl ?_
      refine bnd1_elim h fun x5 q6 h => ?_
      have q6a := (idx_some q6).1; have q6b := (idx_some q6).2
      refine s_indexZ rfl rfl rfl rfl sl33 rfl q6a (get_lt q6b) rfl rfl rfl ?_
      refine s_load rfl rfl rfl (rowG q6b) ty9 rfl (.inr rfl) (by conv => lhs; whnf) rfl rfl rfl ?_
      refine s_indexZ rfl rfl rfl rfl sl33 rfl q6a (get_lt q6b) rfl rfl rfl ?_
      refine s_storeL (x' := x3) rfl rfl rfl q6b ty9 rfl rfl rfl rfl rfl rfl ?_
      refine bnd1_elim h fun x7 q8 h => ?_
      have q8a := (idx_some q8).1; have q8b := (idx_some q8).2
      refine s_indexZ rfl rfl rfl rfl sl33 rfl q8a (by have q := get_lt q8b; simpa only [List.length_set] using q) rfl rfl rfl ?_
      refine s_storeL (x' := x5) rfl rfl rfl q8b ty9 rfl rfl rfl rfl rfl rfl ?_
      refine rt_nil ⟨by kernel_rfl, ?_⟩
      refine tri_region ?_
      refine s_mv (.inl rfl) (by conv => lhs; whnf) rfl rfl rfl ?_
      refine grd_elim h fun g9 h => ?_
      refine s_addI rfl rfl rfl rfl g9 rfl rfl rfl ?_
      refine s_mv (.inl rfl) (by conv => lhs; whnf) rfl rfl rfl ?_
      refine grd_elim h fun g10 h => ?_
      refine s_subI rfl rfl rfl rfl g10 rfl rfl rfl ?_
      refine s_mv (.inr rfl) (by conv => lhs; whnf) rfl rfl rfl ?_
      refine s_mv (.inr rfl) (by conv => lhs; whnf) rfl rfl rfl ?_
      refine rt_nil ?_
      refine Exists.intro ⟨(f0, (v0_0.set v0_1.toNat x3).set v0_2.toNat x5, v0_1 + 1, v0_2 - 1), h⟩ (And.intro (Nat.lt_succ_self _) ?_)
      refine entX [((1000, 0), ⟨9, 1, List.map strV ((v0_0.set v0_1.toNat x3).set v0_2.toNat x5), false, false⟩, some (1000, 0))] [] ⟨⟨rfl, _, rfl, rfl, rfl, rfl, id, rowsCv_eq rfl (allFree_map strV_free), rowsZ_map strV_len⟩, trivial⟩ trivial rfl rfl ?_
      exact ⟨(cvRefLen rfl (by simp only [List.length_set])), (.free rfl), (.free rfl), trivial⟩
    · replace h := cond_f h c2
      refine tri_exit ?_
      have e0 := (some1 h); subst e0
      exact endY [((1000, 0), ⟨9, 1, List.map strV v0_0, false, false⟩, some (1000, 0))] [] rvN ⟨⟨rfl, _, rfl, rfl, rfl, rfl, id, rowsCv_eq rfl (allFree_map strV_free), rowsZ_map strV_len⟩, trivial⟩ trivial rfl rfl (by kernel_rfl) rfl (CvL.tup .nil)

/- cmp.isNaN[string] -/

set_option maxRecDepth 4000 in
set_option maxHeartbeats 800000 in
theorem wcmp_isNaN_string (p0 : ByteArray) (r0 : Bool) (h : cmp_isNaN_string p0 = some r0) : Runs Tryd.prog 200 [.sc (.string p0)] [] (.sc (.bool r0)) [] := by
  unfold cmp_isNaN_string at h
  refine runsR [.tmp 2] Tryd.func200 rfl rfl rfl rfl ?_
  rw [Tryd.ntmps200]
  refine tri_seq ?_
  refine tri_region ?_
  refine s_mv (.inr rfl) (v := .sc (.bool false)) rfl rfl rfl rfl ?_
  refine rt_nil ?_
  refine tri_seq ?_
  refine tri_region ?_
  refine s_mv (.inl rfl) (by conv => lhs; whnf) rfl rfl rfl ?_
  refine s_mv (.inl rfl) (by conv => lhs; whnf) rfl rfl rfl ?_
  refine s_of (st_neS rfl rfl rfl) rfl rfl rfl rfl ?_
  refine s_mv (.inr rfl) (by conv => lhs; whnf) rfl rfl rfl ?_
  refine rt_nil ?_
  refine tri_ret ?_
  have e0 := (some1 h); subst e0
  exact endY [] [] (rvC (resTmp rfl) rvN) trivial trivial rfl rfl rfl rfl (.free rfl)

/- cmp.Compare[string] -/

set_option maxRecDepth 4000 in
set_option maxHeartbeats 800000 in
theorem wcmp_Compare_string (p0 : ByteArray) (p1 : ByteArray) (r0 : Int) (h : cmp_Compare_string p0 p1 = some r0) : Runs Tryd.prog 175 [.sc (.string p0), .sc (.string p1)] [] (.sc (.int .i64 r0)) [] := by
  unfold cmp_Compare_string at h
  refine runsR [.tmp 4] Tryd.func175 rfl rfl rfl rfl ?_
  rw [Tryd.ntmps175]
  refine tri_seq ?_
  refine tri_region ?_
  refine s_mv (.inr rfl) (v := .sc (.int .i64 0)) rfl rfl rfl rfl ?_
  refine rt_nil ?_
  refine tri_seq ?_
  refine tri_region ?_
  refine s_mv (.inl rfl) (by conv => lhs; whnf) rfl rfl rfl ?_
  refine bnd1_elim h fun x1 q2 h => ?_
  refine s_callN (kb := []) (ns := []) (v := .sc (.bool x1)) rfl rfl cl200 (wcmp_isNaN_string p0 x1 q2) rfl (.cons (.free rfl) .nil) trivial memNil .nil memNil rfl trivial memNil rfl rfl rfl rfl rfl rfl ?_
  refine s_mv (.inr rfl) (by conv => lhs; whnf) rfl rfl rfl ?_
  refine rt_nil ?_
  refine tri_seq ?_
  refine tri_region ?_
  refine s_mv (.inl rfl) (by conv => lhs; whnf) rfl rfl rfl ?_
  refine bnd1_elim h fun x3 q4 h => ?_
  refine s_callN (kb := []) (ns := []) (v := .sc (.bool x3)) rfl rfl cl200 (wcmp_isNaN_string p1 x3 q4) rfl (.cons (.free rfl) .nil) trivial memNil .nil memNil rfl trivial memNil rfl rfl rfl rfl rfl rfl ?_
  refine s_mv (.inr rfl) (by conv => lhs; whnf) rfl rfl rfl ?_
  refine rt_nil ?_
  refine tri_seq ?_
  refine tri_seq ?_
  refine tri_region ?_
  refine s_mv (.inl rfl) (by conv => lhs; whnf) rfl rfl rfl ?_
  refine rt_nil ?_
  refine tri_cond rfl (fun c5 => ?_) (fun c5 => ?_)
  · replace h := cond_t h c5
    refine tri_seq ?_
    refine tri_seq ?_
    refine tri_region ?_
    refine s_mv (.inl rfl) (by conv => lhs; whnf) rfl rfl rfl ?_
    refine rt_nil ?_
    refine tri_cond rfl (fun c6 => ?_) (fun c6 => ?_)
    · replace h := cond_t h c6
      refine tri_seq ?_
      refine tri_region ?_
      refine s_mv (.inr rfl) (v := .sc (.int .i64 0)) rfl rfl rfl rfl ?_
      refine rt_nil ?_
      refine tri_ret ?_
      have e0 := (some1 h); subst e0
      exact endY [] [] (rvC (resTmp rfl) rvN) trivial trivial rfl rfl rfl rfl (.free rfl)
    · replace h := cond_f h c6
      refine tri_skip ?_
      refine tri_seq ?_
      refine tri_region ?_
      refine s_mv (.inr rfl) (v := .sc (.int .i64 (-1))) rfl rfl rfl rfl ?_
      refine rt_nil ?_
      refine tri_ret ?_
      have e0 := (some1 h); subst e0
      exact endY [] [] (rvC (resTmp rfl) rvN) trivial trivial rfl rfl rfl rfl (.free rfl)
  · replace h := cond_f h c5
    refine tri_skip ?_
    refine tri_seq ?_
    refine tri_seq ?_
    refine tri_region ?_
    refine s_mv (.inl rfl) (by conv => lhs; whnf) rfl rfl rfl ?_
    refine rt_nil ?_
    refine tri_cond rfl (fun c7 => ?_) (fun c7 => ?_)
    · replace h := cond_t h c7
      refine tri_seq ?_
      refine tri_region ?_
      refine s_mv (.inr rfl) (v := .sc (.int .i64 1)) rfl rfl rfl rfl ?_
      refine rt_nil ?_
      refine tri_ret ?_
      have e0 := (some1 h); subst e0
      exact endY [] [] (rvC (resTmp rfl) rvN) trivial trivial rfl rfl rfl rfl (.free rfl)
    · replace h := cond_f h c7
      refine tri_skip ?_
      refine tri_seq ?_
      refine tri_seq ?_
      refine tri_region ?_
      refine s_mv (.inl rfl) (by conv => lhs; whnf) rfl rfl rfl ?_
      refine s_mv (.inl rfl) (by conv => lhs; whnf) rfl rfl rfl ?_
      refine s_of (st_ltS rfl rfl rfl) rfl rfl rfl rfl ?_
      refine rt_nil ?_
      refine tri_cond rfl (fun c8 => ?_) (fun c8 => ?_)
      · replace h := cond_t h c8
        refine tri_seq ?_
        refine tri_region ?_
        refine s_mv (.inr rfl) (v := .sc (.int .i64 (-1))) rfl rfl rfl rfl ?_
        refine rt_nil ?_
        refine tri_ret ?_
        have e0 := (some1 h); subst e0
        exact endY [] [] (rvC (resTmp rfl) rvN) trivial trivial rfl rfl rfl rfl (.free rfl)
      · replace h := cond_f h c8
        refine tri_skip ?_
        refine tri_seq ?_
        refine tri_seq ?_
        refine tri_region ?_
        refine s_mv (.inl rfl) (by conv => lhs; whnf) rfl rfl rfl ?_
        refine s_mv (.inl rfl) (by conv => lhs; whnf) rfl rfl rfl ?_
        refine s_of (st_gtS rfl rfl rfl) rfl rfl rfl rfl ?_
        refine rt_nil ?_
        refine tri_cond rfl (fun c9 => ?_) (fun c9 => ?_)
        · replace h := cond_t h c9
          refine tri_seq ?_
          refine tri_region ?_
          refine s_mv (.inr rfl) (v := .sc (.int .i64 1)) rfl rfl rfl rfl ?_
          refine rt_nil ?_
          refine tri_ret ?_
          have e0 := (some1 h); subst e0
          exact endY [] [] (rvC (resTmp rfl) rvN) trivial trivial rfl rfl rfl rfl (.free rfl)
        · replace h := cond_f h c9
          refine tri_skip ?_
          refine tri_seq ?_
          refine tri_region ?_
          refine s_mv (.inr rfl) (v := .sc (.int .i64 0)) rfl rfl rfl rfl ?_
          refine rt_nil ?_
          refine tri_ret ?_
          have e0 := (some1 h); subst e0
          exact endY [] [] (rvC (resTmp rfl) rvN) trivial trivial rfl rfl rfl rfl (.free rfl)

/- slices.Compare[[]string,string] -/
def inv_slices_Compare_string_1 (p0 : List ByteArray) (p1 : List ByteArray) (v1_0 : Nat) : St := mkT 36 [(0, .lst 1 (List.map strV p0)), (1, .lst 1 (List.map strV p1)), (9, .lst 1 (List.map strV p0)), (10, .sc (.int .i64 (p0.length : Int))), (11, .sc (.int .i64 (v1_0 : Int)))] []
def inv_slices_Compare_string_0 (p0 : List ByteArray) (p1 : List ByteArray) : St := mkT 36 [(0, .lst 1 (List.map strV p0)), (1, .lst 1 (List.map strV p1))] []
set_option maxRecDepth 4000 in
set_option maxHeartbeats 800000 in
theorem wslices_Compare_string (p0 : List ByteArray) (p1 : List ByteArray) (r0 : Int) (h : slices_Compare_string p0 p1 = some r0) : Runs Tryd.prog 214 [.lst 1 (List.map strV p0), .lst 1 (List.map strV p1)] [] (.sc (.int .i64 r0)) [] := by
  unfold slices_Compare_string at h
  refine runsR [.tmp 4] Tryd.func214 rfl rfl rfl rfl ?_
  rw [Tryd.ntmps214]
  refine tri_seq ?_
  refine tri_region ?_
  refine s_mv (.inr rfl) (v := .sc (.int .i64 0)) rfl rfl rfl rfl ?_
  refine rt_nil ?_
  refine tri_cutI (ι := { p : Unit // slices_Compare_string_j0 p0 p1 = some r0 }) (fun p => inv_slices_Compare_string_0 p0 p1) ?_ ?_
  · skip
    refine tri_seq ?_
    refine tri_region ?_
    refine s_mv (.inl rfl) (by conv => lhs; whnf) rfl rfl rfl ?_
    refine s_lenL rfl sl33 rfl rfl rfl rfl ?_
    refine s_mv (.inl rfl) (v := .sc (.int .i64 0)) rfl rfl rfl rfl ?_
    refine rt_nil ?_
    refine tri_block ?_
    refine tri_lstM 0 rfl (fun hl1 => ?_)
    refine tri_loop (ι := { p : (List ByteArray) × Nat // p0.drop p.2 = p.1 ∧ slices_Compare_string_l1 p0 p1 p.1 p.2 = some r0 }) (fun p => inv_slices_Compare_string_1 p0 p1 p.1.2) (fun p => p.1.1.length) ⟨(p0, 0), rfl, h⟩ ?_ ?_
    · skip
      refine entX [] [] trivial trivial rfl rfl ?_
      exact ⟨(.free rfl), (.free rfl), (.free rfl), (.free rfl), (.free rfl), trivial⟩
    · rintro ⟨⟨lrs1, v1_0⟩, hd1, h⟩
      replace hd1 : p0.drop v1_0 = lrs1 := hd1
      replace h : slices_Compare_string_l1 p0 p1 lrs1 v1_0 = some r0 := h
      show Tri _ _ _ (inv_slices_Compare_string_1 p0 p1 v1_0)
      refine tri_seq ?_
      refine tri_region ?_
      refine s_of (st_lss rfl rfl rfl) rfl rfl rfl rfl ?_
      refine rt_nil ?_
      refine tri_seq ?_
      refine tri_cond rfl (fun c1 => ?_) (fun c1 => ?_)
      · refine drop_elim hd1 c1 fun e1 rs1 he hx1 hn1 => ?_
        subst he
        rw [slices_Compare_string_l1] at h
        refine tri_skip ?_
        refine tri_seq ?_
        refine tri_block ?_
        refine tri_seq ?_
        refine tri_region ?_
        refine s_mv (.inl rfl) (by conv => lhs; whnf) rfl rfl rfl ?_
        refine s_indexF (i := v1_0) rfl rfl rfl sl33 (get_ltM hx1) rfl rfl rfl ?_
        refine s_loadF rfl rfl (rowG hx1) ty9 rfl (.inr rfl) (by conv => lhs; whnf) rfl rfl rfl ?_
        refine s_mv (.inr rfl) (by conv => lhs; whnf) rfl rfl rfl ?_
        refine s_mv (.inr rfl) (by conv => lhs; whnf) rfl rfl rfl ?_
        refine rt_nil ?_
        refine tri_seq ?_
        refine tri_seq ?_
        refine tri_region ?_
        refine s_mv (.inl rfl) (by conv => lhs; whnf) rfl rfl rfl ?_
        refine s_mv (.inl rfl) (by conv => lhs; whnf) rfl rfl rfl ?_
        refine s_lenL rfl sl33 rfl rfl rfl rfl ?_
        refine s_of (st_geq rfl rfl rfl) rfl rfl rfl rfl ?_
        refine rt_nil ?_
        refine tri_cond rfl (fun c2 => ?_) (fun c2 => ?_)
        · replace h := cond_t h c2
          refine tri_seq ?_
          refine tri_region ?_
          refine s_mv (.inr rfl) (v := .sc (.int .i64 1)) rfl rfl rfl rfl ?_
          refine rt_nil ?_
          refine tri_ret ?_
          have e0 := (some1 h); subst e0
          exact endY [] [] (rvC (resTmp rfl) rvN) trivial trivial rfl rfl rfl rfl (.free rfl)
        · replace h := cond_f h c2
          refine tri_skip ?_
          refine tri_seq ?_
          refine tri_region ?_
          refine s_mv (.inl rfl) (by conv => lhs; whnf) rfl rfl rfl ?_
          refine s_mv (.inl rfl) (by conv => lhs; whnf) rfl rfl rfl ?_
          refine bnd1_elim h fun x3 q4 h => ?_
          have q4a := (idx_some q4).1; have q4b := (idx_some q4).2
          refine s_indexFZ rfl rfl rfl sl33 q4a (get_ltM q4b) rfl rfl rfl ?_
          refine s_loadF rfl rfl (rowG q4b) ty9 rfl (.inr rfl) (by conv => lhs; whnf) rfl rfl rfl ?_
          refine s_mv (.inr rfl) (by conv => lhs; whnf) rfl rfl rfl ?_
          refine rt_nil ?_
          refine tri_seq ?_
          refine tri_region ?_
          refine s_mv (.inl rfl) (by conv => lhs; whnf) rfl rfl rfl ?_
          refine s_mv (.inl rfl) (by conv => lhs; whnf) rfl rfl rfl ?_
          refine bnd1_elim h fun x5 q6 h => ?_
          refine s_callN (kb := []) (ns := []) (v := .sc (.int .i64 x5)) rfl rfl cl175 (wcmp_Compare_string e1 x3 x5 q6) rfl (.cons (.free rfl) (.cons (.free rfl) .nil)) trivial memNil .nil memNil rfl trivial memNil rfl rfl rfl rfl rfl rfl ?_
          refine s_mv (.inr rfl) (by conv => lhs; whnf) rfl rfl rfl ?_
          refine rt_nil ?_
          refine tri_seq ?_
          refine tri_region ?_
          refine s_mv (.inl rfl) (by conv => lhs; whnf) rfl rfl rfl ?_
          refine s_of (st_neI rfl rfl rfl) rfl rfl rfl rfl ?_
          refine rt_nil ?_
          refine tri_cond rfl (fun c7 => ?_) (fun c7 => ?_)
          · replace h := cond_t h c7
            refine tri_seq ?_
            refine tri_region ?_
            refine s_mv (.inl rfl) (by conv => lhs; whnf) rfl rfl rfl ?_
            refine s_mv (.inr rfl) (by conv => lhs; whnf) rfl rfl rfl ?_
            refine rt_nil ?_
            refine tri_ret ?_
            have e0 := (some1 h); subst e0
            exact endY [] [] (rvC (resTmp rfl) rvN) trivial trivial rfl rfl rfl rfl (.free rfl)
          · replace h := cond_f h c7
            refine tri_skip ?_
            refine tri_region ?_
            refine s_inc (a := v1_0) (b := 1) rfl rfl rfl rfl (by have := get_lt hx1; have := hl1; omega) rfl rfl rfl ?_
            refine s_mv (.inl rfl) (by conv => lhs; whnf) rfl rfl rfl ?_
            refine rt_nil ?_
            refine Exists.intro ⟨(rs1, (v1_0 + 1)), hn1, h⟩ (And.intro (Nat.lt_succ_self _) ?_)
            refine entX [] [] trivial trivial rfl rfl ?_
            exact ⟨(.free rfl), (.free rfl), (.free rfl), (.free rfl), (.free rfl), trivial⟩
      · have he := drop_f hd1 c1; subst he
        rw [slices_Compare_string_l1] at h
        refine tri_exit ?_
        refine Exists.intro ⟨(), h⟩ ?_
        refine entX [] [] trivial trivial rfl rfl ?_
        exact ⟨(.free rfl), (.free rfl), trivial⟩
  · rintro ⟨u, h⟩
    replace h : slices_Compare_string_j0 p0 p1 = some r0 := h
    unfold slices_Compare_string_j0 at h
    show Tri _ _ _ (inv_slices_Compare_string_0 p0 p1)
    refine tri_seq ?_
    refine tri_seq ?_
    refine tri_region ?_
    refine s_mv (.inl rfl) (by conv => lhs; whnf) rfl rfl rfl ?_
    refine s_lenL rfl sl33 rfl rfl rfl rfl ?_
    refine s_mv (.inl rfl) (by conv => lhs; whnf) rfl rfl rfl ?_
    refine s_lenL rfl sl33 rfl rfl rfl rfl ?_
    refine s_of (st_lss rfl rfl rfl) rfl rfl rfl rfl ?_
    refine rt_nil ?_
    refine tri_cond rfl (fun c1 => ?_) (fun c1 => ?_)
    · replace h := cond_t h c1
      refine tri_seq ?_
      refine tri_region ?_
      refine s_mv (.inr rfl) (v := .sc (.int .i64 (-1))) rfl rfl rfl rfl ?_
      refine rt_nil ?_
      refine tri_ret ?_
      have e0 := (some1 h); subst e0
      exact endY [] [] (rvC (resTmp rfl) rvN) trivial trivial rfl rfl rfl rfl (.free rfl)
    · replace h := cond_f h c1
      refine tri_skip ?_
      refine tri_seq ?_
      refine tri_region ?_
      refine s_mv (.inr rfl) (v := .sc (.int .i64 0)) rfl rfl rfl rfl ?_
      refine rt_nil ?_
      refine tri_ret ?_
      have e0 := (some1 h); subst e0
      exact endY [] [] (rvC (resTmp rfl) rvN) trivial trivial rfl rfl rfl rfl (.free rfl)

/- impl.LessName -/

set_option maxRecDepth 4000 in
set_option maxHeartbeats 800000 in
theorem wi_LessName (p0 : ByteArray) (p1 : ByteArray) (r0 : Bool) (h : i_LessName p0 p1 = some r0) : Runs Tryd.prog 198 [.sc (.string p0), .sc (.string p1)] [] (.sc (.bool r0)) [] := by
  unfold i_LessName at h
  refine runsR [.tmp 4] Tryd.func198 rfl rfl rfl rfl ?_
  rw [Tryd.ntmps198]
  refine tri_seq ?_
  refine tri_region ?_
  refine s_mv (.inr rfl) (v := .sc (.bool false)) rfl rfl rfl rfl ?_
  refine rt_nil ?_
  refine tri_seq ?_
  refine tri_region ?_
  refine s_mv (.inl rfl) (by conv => lhs; whnf) rfl rfl rfl ?_
  refine bnd1_elim h fun x1 q2 h => ?_
  refine s_callN (kb := []) (ns := []) (v := .ref (8, 0) 0 x1.length) rfl rfl cl96 (wi_Labels p0 x1 q2) rfl (.cons (.free rfl) .nil) trivial memNil .nil memNil rfl ⟨(allSc_map strV_sc), trivial⟩ memNil rfl (by first | (simp only [V.mat, V.mat1, V.mat0, matL, matT, List.length_map]; done) | (simp only [V.mat, V.mat1, V.mat0, matL, matT, List.length_map]; rfl)) rfl rfl rfl rfl ?_
  refine s_mv (.inl rfl) (by conv => lhs; whnf) rfl rfl rfl ?_
  refine bnd1_elim h fun x3 q4 h => ?_
  refine s_callN (kb := []) (ns := []) (v := .ref (10, 0) 0 x3.length) rfl rfl cl96 (wi_Labels p1 x3 q4) rfl (.cons (.free rfl) .nil) trivial memNil .nil memNil rfl ⟨(allSc_map strV_sc), trivial⟩ memNil rfl (by first | (simp only [V.mat, V.mat1, V.mat0, matL, matT, List.length_map]; done) | (simp only [V.mat, V.mat1, V.mat0, matL, matT, List.length_map]; rfl)) rfl rfl rfl rfl ?_
  refine s_mv (.inr rfl) (by conv => lhs; whnf) rfl rfl rfl ?_
  refine s_mv (.inr rfl) (by conv => lhs; whnf) rfl rfl rfl ?_
  refine rt_nil ?_
  refine tri_seq ?_
  refine tri_region ?_
  refine s_mv (.inl rfl) (by conv => lhs; whnf) rfl rfl rfl ?_
  refine bnd1_elim h fun x5 q6 h => ?_
  refine grd_elim h fun g7 h => ?_
  refine s_callN (kb := []) (ns := [(8, 0)]) (v := .tup []) rfl rfl cl213 (wslices_Reverse_string x1 x5 q6) rfl (.cons (.refOwn rfl) .nil) ⟨⟨_, rfl, rfl⟩, trivial⟩ (memCons (allFree_map strV_free) memNil) (List.nodup_cons.2 ⟨List.not_mem_nil, .nil⟩) memNil rfl trivial (memCons (allSc_map strV_sc) memNil) rfl rfl rfl rfl rfl rfl ?_
  refine rt_nil ?_
  refine tri_seq ?_
  refine tri_region ?_
  refine s_mv (.inl rfl) (by conv => lhs; whnf) rfl rfl rfl ?_
  refine bnd1_elim h fun x8 q9 h => ?_
  refine grd_elim h fun g10 h => ?_
  refine s_callN (kb := []) (ns := [(10, 0)]) (v := .tup []) rfl rfl cl213 (wslices_Reverse_string x3 x8 q9) rfl (.cons (.refOwn rfl) .nil) ⟨⟨_, rfl, rfl⟩, trivial⟩ (memCons (allFree_map strV_free) memNil) (List.nodup_cons.2 ⟨List.not_mem_nil, .nil⟩) memNil rfl trivial (memCons (allSc_map strV_sc) memNil) rfl rfl rfl rfl rfl rfl ?_
  refine rt_nil ?_
  refine tri_seq ?_
  refine tri_region ?_
  refine s_mv (.inl rfl) (by conv => lhs; whnf) rfl rfl rfl ?_
  refine s_mv (.inl rfl) (by conv => lhs; whnf) rfl rfl rfl ?_
  refine bnd1_elim h fun x11 q12 h => ?_
  refine s_callN (kb := [(8, 0), (10, 0)]) (ns := []) (v := .sc (.int .i64 x11)) rfl rfl cl214 (wslices_Compare_string x5 x8 x11 q12) rfl (.cons (lendL rfl (.head _) (by simp only [List.length_set, g7]) strV_free strV_len) (.cons (lendL rfl (.tail _ (.head _)) (by simp only [List.length_set, g10]) strV_free strV_len) .nil)) trivial memNil .nil (fun _ _ => List.not_mem_nil) rfl trivial memNil rfl rfl rfl rfl rfl rfl ?_
  refine s_of (st_lss rfl rfl rfl) rfl rfl rfl rfl ?_
  refine s_mv (.inr rfl) (by conv => lhs; whnf) rfl rfl rfl ?_
  refine rt_nil ?_
  refine tri_ret ?_
  have e0 := (some1 h); subst e0
  exact endY [] [] (rvC (resTmp rfl) rvN) trivial trivial rfl rfl rfl rfl (.free rfl)

/- impl.byName -/

set_option maxRecDepth 4000 in
set_option maxHeartbeats 800000 in
theorem wi_byName (p0 : ByteArray) (p1 : ByteArray) (r0 : Int) (h : i_byName p0 p1 = some r0) : Runs Tryd.prog 173 [.sc (.string p0), .sc (.string p1)] [] (.sc (.int .i64 r0)) [] := by
  unfold i_byName at h
  refine runsR [.tmp 4] Tryd.func173 rfl rfl rfl rfl ?_
  rw [Tryd.ntmps173]
  refine tri_seq ?_
  refine tri_region ?_
  refine s_mv (.inr rfl) (v := .sc (.int .i64 0)) rfl rfl rfl rfl ?_
  refine rt_nil ?_
  refine tri_seq ?_
  refine tri_block ?_
  refine tri_seq ?_
  refine tri_region ?_
  refine s_mv (.inl rfl) (by conv => lhs; whnf) rfl rfl rfl ?_
  refine s_mv (.inl rfl) (by conv => lhs; whnf) rfl rfl rfl ?_
  refine bnd1_elim h fun x1 q2 h => ?_
  refine s_callN (kb := []) (ns := []) (v := .sc (.bool x1)) rfl rfl cl198 (wi_LessName p0 p1 x1 q2) rfl (.cons (.free rfl) (.cons (.free rfl) .nil)) trivial memNil .nil memNil rfl trivial memNil rfl rfl rfl rfl rfl rfl ?_
  refine s_mv (.inr rfl) (by conv => lhs; whnf) rfl rfl rfl ?_
  refine rt_nil ?_
  refine tri_cond rfl (fun c3 => ?_) (fun c3 => ?_)
  · replace h := cond_t h c3
    refine tri_seq ?_
    refine tri_region ?_
    refine s_mv (.inr rfl) (v := .sc (.int .i64 (-1))) rfl rfl rfl rfl ?_
    refine rt_nil ?_
    refine tri_ret ?_
    have e0 := (some1 h); subst e0
    exact endY [] [] (rvC (resTmp rfl) rvN) trivial trivial rfl rfl rfl rfl (.free rfl)
  · replace h := cond_f h c3
    refine tri_seq ?_
    refine tri_region ?_
    refine s_mv (.inl rfl) (by conv => lhs; whnf) rfl rfl rfl ?_
    refine s_mv (.inl rfl) (by conv => lhs; whnf) rfl rfl rfl ?_
    refine bnd1_elim h fun x4 q5 h => ?_
    refine s_callN (kb := []) (ns := []) (v := .sc (.bool x4)) rfl rfl cl198 (wi_LessName p1 p0 x4 q5) rfl (.cons (.free rfl) (.cons (.free rfl) .nil)) trivial memNil .nil memNil rfl trivial memNil rfl rfl rfl rfl rfl rfl ?_
    refine s_mv (.inr rfl) (by conv => lhs; whnf) rfl rfl rfl ?_
    refine rt_nil ?_
    refine tri_cond rfl (fun c6 => ?_) (fun c6 => ?_)
    · replace h := cond_t h c6
      refine tri_seq ?_
      refine tri_region ?_
      refine s_mv (.inr rfl) (v := .sc (.int .i64 1)) rfl rfl rfl rfl ?_
      refine rt_nil ?_
      refine tri_ret ?_
      have e0 := (some1 h); subst e0
      exact endY [] [] (rvC (resTmp rfl) rvN) trivial trivial rfl rfl rfl rfl (.free rfl)
    · replace h := cond_f h c6
      refine tri_skip ?_
      refine tri_seq ?_
      refine tri_region ?_
      refine s_mv (.inr rfl) (v := .sc (.int .i64 0)) rfl rfl rfl rfl ?_
      refine rt_nil ?_
      refine tri_ret ?_
      have e0 := (some1 h); subst e0
      exact endY [] [] (rvC (resTmp rfl) rvN) trivial trivial rfl rfl rfl rfl (.free rfl)

/- cmp.isNaN[int] -/

set_option maxRecDepth 4000 in
set_option maxHeartbeats 800000 in
theorem wcmp_isNaN_int (p0 : Int) (r0 : Bool) (h : cmp_isNaN_int p0 = some r0) : Runs Tryd.prog 199 [.sc (.int .i64 p0)] [] (.sc (.bool r0)) [] := by
  unfold cmp_isNaN_int at h
  refine runsR [.tmp 2] Tryd.func199 rfl rfl rfl rfl ?_
  rw [Tryd.ntmps199]
  refine tri_seq ?_
  refine tri_region ?_
  refine s_mv (.inr rfl) (v := .sc (.bool false)) rfl rfl rfl rfl ?_
  refine rt_nil ?_
  refine tri_seq ?_
  refine tri_region ?_
  refine s_mv (.inl rfl) (by conv => lhs; whnf) rfl rfl rfl ?_
  refine s_mv (.inl rfl) (by conv => lhs; whnf) rfl rfl rfl ?_
  refine s_of (st_neI rfl rfl rfl) rfl rfl rfl rfl ?_
  refine s_mv (.inr rfl) (by conv => lhs; whnf) rfl rfl rfl ?_
  refine rt_nil ?_
  refine tri_ret ?_
  have e0 := (some1 h); subst e0
  exact endY [] [] (rvC (resTmp rfl) rvN) trivial trivial rfl rfl rfl rfl (.free rfl)

/- cmp.Compare[int] -/

set_option maxRecDepth 4000 in
set_option maxHeartbeats 800000 in
theorem wcmp_Compare_int (p0 : Int) (p1 : Int) (r0 : Int) (h : cmp_Compare_int p0 p1 = some r0) : Runs Tryd.prog 174 [.sc (.int .i64 p0), .sc (.int .i64 p1)] [] (.sc (.int .i64 r0)) [] := by
  unfold cmp_Compare_int at h
  refine runsR [.tmp 4] Tryd.func174 rfl rfl rfl rfl ?_
  rw [Tryd.ntmps174]
  refine tri_seq ?_
  refine tri_region ?_
  refine s_mv (.inr rfl) (v := .sc (.int .i64 0)) rfl rfl rfl rfl ?_
  refine rt_nil ?_
  refine tri_seq ?_
  refine tri_region ?_
  refine s_mv (.inl rfl) (by conv => lhs; whnf) rfl rfl rfl ?_
  refine bnd1_elim h fun x1 q2 h => ?_
  refine s_callN (kb := []) (ns := []) (v := .sc (.bool x1)) rfl rfl cl199 (wcmp_isNaN_int p0 x1 q2) rfl (.cons (.free rfl) .nil) trivial memNil .nil memNil rfl trivial memNil rfl rfl rfl rfl rfl rfl ?_
  refine s_mv (.inr rfl) (by conv => lhs; whnf) rfl rfl rfl ?_
  refine rt_nil ?_
  refine tri_seq ?_
  refine tri_region ?_
  refine s_mv (.inl rfl) (by conv => lhs; whnf) rfl rfl rfl ?_
  refine bnd1_elim h fun x3 q4 h => ?_
  refine s_callN (kb := []) (ns := []) (v := .sc (.bool x3)) rfl rfl cl199 (wcmp_isNaN_int p1 x3 q4) rfl (.cons (.free rfl) .nil) trivial memNil .nil memNil rfl trivial memNil rfl rfl rfl rfl rfl rfl ?_
  refine s_mv (.inr rfl) (by conv => lhs; whnf) rfl rfl rfl ?_
  refine rt_nil ?_
  refine tri_seq ?_
  refine tri_seq ?_
  refine tri_region ?_
  refine s_mv (.inl rfl) (by conv => lhs; whnf) rfl rfl rfl ?_
  refine rt_nil ?_
  refine tri_cond rfl (fun c5 => ?_) (fun c5 => ?_)
  · replace h := cond_t h c5
    refine tri_seq ?_
    refine tri_seq ?_
    refine tri_region ?_
    refine s_mv (.inl rfl) (by conv => lhs; whnf) rfl rfl rfl ?_
    refine rt_nil ?_
    refine tri_cond rfl (fun c6 => ?_) (fun c6 => ?_)
    · replace h := cond_t h c6
      refine tri_seq ?_
      refine tri_region ?_
      refine s_mv (.inr rfl) (v := .sc (.int .i64 0)) rfl rfl rfl rfl ?_
      refine rt_nil ?_
      refine tri_ret ?_
      have e0 := (some1 h); subst e0
      exact endY [] [] (rvC (resTmp rfl) rvN) trivial trivial rfl rfl rfl rfl (.free rfl)
    · replace h := cond_f h c6
      refine tri_skip ?_
      refine tri_seq ?_
      refine tri_region ?_
      refine s_mv (.inr rfl) (v := .sc (.int .i64 (-1))) rfl rfl rfl rfl ?_
      refine rt_nil ?_
      refine tri_ret ?_
      have e0 := (some1 h); subst e0
      exact endY [] [] (rvC (resTmp rfl) rvN) trivial trivial rfl rfl rfl rfl (.free rfl)
  · replace h := cond_f h c5
    refine tri_skip ?_
    refine tri_seq ?_
    refine tri_seq ?_
    refine tri_region ?_
    refine s_mv (.inl rfl) (by conv => lhs; whnf) rfl rfl rfl ?_
    refine rt_nil ?_
    refine tri_cond rfl (fun c7 => ?_) (fun c7 => ?_)
    · replace h := cond_t h c7
      refine tri_seq ?_
      refine tri_region ?_
      refine s_mv (.inr rfl) (v := .sc (.int .i64 1)) rfl rfl rfl rfl ?_
      refine rt_nil ?_
      refine tri_ret ?_
      have e0 := (some1 h); subst e0
      exact endY [] [] (rvC (resTmp rfl) rvN) trivial trivial rfl rfl rfl rfl (.free rfl)
    · replace h := cond_f h c7
      refine tri_skip ?_
      refine tri_seq ?_
      refine tri_seq ?_
      refine tri_region ?_
      refine s_mv (.inl rfl) (by conv => lhs; whnf) rfl rfl rfl ?_
      refine s_mv (.inl rfl) (by conv => lhs; whnf) rfl rfl rfl ?_
      refine s_of (st_lss rfl rfl rfl) rfl rfl rfl rfl ?_
      refine rt_nil ?_
      refine tri_cond rfl (fun c8 => ?_) (fun c8 => ?_)
      · replace h := cond_t h c8
        refine tri_seq ?_
        refine tri_region ?_
        refine s_mv (.inr rfl) (v := .sc (.int .i64 (-1))) rfl rfl rfl rfl ?_
        refine rt_nil ?_
        refine tri_ret ?_
        have e0 := (some1 h); subst e0
        exact endY [] [] (rvC (resTmp rfl) rvN) trivial trivial rfl rfl rfl rfl (.free rfl)
      · replace h := cond_f h c8
        refine tri_skip ?_
        refine tri_seq ?_
        refine tri_seq ?_
        refine tri_region ?_
        refine s_mv (.inl rfl) (by conv => lhs; whnf) rfl rfl rfl ?_
        refine s_mv (.inl rfl) (by conv => lhs; whnf) rfl rfl rfl ?_
        refine s_of (st_gtr rfl rfl rfl) rfl rfl rfl rfl ?_
        refine rt_nil ?_
        refine tri_cond rfl (fun c9 => ?_) (fun c9 => ?_)
        · replace h := cond_t h c9
          refine tri_seq ?_
          refine tri_region ?_
          refine s_mv (.inr rfl) (v := .sc (.int .i64 1)) rfl rfl rfl rfl ?_
          refine rt_nil ?_
          refine tri_ret ?_
          have e0 := (some1 h); subst e0
          exact endY [] [] (rvC (resTmp rfl) rvN) trivial trivial rfl rfl rfl rfl (.free rfl)
        · replace h := cond_f h c9
          refine tri_skip ?_
          refine tri_seq ?_
          refine tri_region ?_
          refine s_mv (.inr rfl) (v := .sc (.int .i64 0)) rfl rfl rfl rfl ?_
          refine rt_nil ?_
          refine tri_ret ?_
          have e0 := (some1 h); subst e0
          exact endY [] [] (rvC (resTmp rfl) rvN) trivial trivial rfl rfl rfl rfl (.free rfl)

/- cmp.Or[int] -/
def inv_cmp_Or_int_0 (p0 : List Int) (v0_0 : Nat) : St := mkT 18 [(3, .sc (.int .i64 0)), (6, .lst 1 (List.map intV p0)), (7, .sc (.int .i64 (p0.length : Int))), (8, .sc (.int .i64 (v0_0 : Int)))] []
set_option maxRecDepth 4000 in
set_option maxHeartbeats 800000 in
theorem wcmp_Or_int (p0 : List Int) (r0 : Int) (h : cmp_Or_int p0 = some r0) : Runs Tryd.prog 172 [.lst 1 (List.map intV p0)] [] (.sc (.int .i64 r0)) [] := by
  unfold cmp_Or_int at h
  refine runsR [.tmp 2] Tryd.func172 rfl rfl rfl rfl ?_
  rw [Tryd.ntmps172]
  refine tri_seq ?_
  refine tri_region ?_
  refine s_mv (.inr rfl) (v := .sc (.int .i64 0)) rfl rfl rfl rfl ?_
  refine rt_nil ?_
  refine tri_seq ?_
  refine tri_region ?_
  refine s_mv (.inr rfl) (v := .sc (.int .i64 0)) rfl rfl rfl rfl ?_
  refine rt_nil ?_
  refine tri_seq ?_
  refine tri_seq ?_
  refine tri_region ?_
  refine s_mv (.inl rfl) (by conv => lhs; whnf) rfl rfl rfl ?_
  refine s_lenL rfl sl76 rfl rfl rfl rfl ?_
  refine s_mv (.inl rfl) (v := .sc (.int .i64 0)) rfl rfl rfl rfl ?_
  refine rt_nil ?_
  refine tri_block ?_
  refine tri_lstM 0 rfl (fun hl0 => ?_)
  refine tri_loop (ι := { p : (List Int) × Nat // p0.drop p.2 = p.1 ∧ cmp_Or_int_l0 p.1 p.2 = some r0 }) (fun p => inv_cmp_Or_int_0 p0 p.1.2) (fun p => p.1.1.length) ⟨(p0, 0), rfl, h⟩ ?_ ?_
  · skip
    refine entX [] [] trivial trivial rfl rfl ?_
    exact ⟨(.free rfl), (.free rfl), (.free rfl), (.free rfl), trivial⟩
  · rintro ⟨⟨lrs0, v0_0⟩, hd0, h⟩
    replace hd0 : p0.drop v0_0 = lrs0 := hd0
    replace h : cmp_Or_int_l0 lrs0 v0_0 = some r0 := h
    show Tri _ _ _ (inv_cmp_Or_int_0 p0 v0_0)
    refine tri_seq ?_
    refine tri_region ?_
    refine s_of (st_lss rfl rfl rfl) rfl rfl rfl rfl ?_
    refine rt_nil ?_
    refine tri_seq ?_
    refine tri_cond rfl (fun c1 => ?_) (fun c1 => ?_)
    · refine drop_elim hd0 c1 fun e0 rs0 he hx0 hn0 => ?_
      subst he
      rw [cmp_Or_int_l0] at h
      refine tri_skip ?_
      refine tri_seq ?_
      refine tri_block ?_
      refine tri_seq ?_
      refine tri_region ?_
      refine s_indexF (i := v0_0) rfl rfl rfl sl76 (get_ltM hx0) rfl rfl rfl ?_
      refine s_loadF rfl rfl (rowG hx0) ty3 rfl (.inr rfl) (by conv => lhs; whnf) rfl rfl rfl ?_
      refine s_mv (.inr rfl) (by conv => lhs; whnf) rfl rfl rfl ?_
      refine rt_nil ?_
      refine tri_seq ?_
      refine tri_region ?_
      refine s_mv (.inl rfl) (by conv => lhs; whnf) rfl rfl rfl ?_
      refine s_mv (.inl rfl) (by conv => lhs; whnf) rfl rfl rfl ?_
      refine s_of (st_neI rfl rfl rfl) rfl rfl rfl rfl ?_
      refine rt_nil ?_
      refine tri_cond rfl (fun c2 => ?_) (fun c2 => ?_)
      · replace h := cond_t h c2
        refine tri_seq ?_
        refine tri_region ?_
        refine s_mv (.inl rfl) (by conv => lhs; whnf) rfl rfl rfl ?_
        refine s_mv (.inr rfl) (by conv => lhs; whnf) rfl rfl rfl ?_
        refine rt_nil ?_
        refine tri_ret ?_
        have e0 := (some1 h); subst e0
        exact endY [] [] (rvC (resTmp rfl) rvN) trivial trivial rfl rfl rfl rfl (.free rfl)
      · replace h := cond_f h c2
        refine tri_skip ?_
        refine tri_region ?_
        refine s_inc (a := v0_0) (b := 1) rfl rfl rfl rfl (by have := get_lt hx0; have := hl0; omega) rfl rfl rfl ?_
        refine s_mv (.inl rfl) (by conv => lhs; whnf) rfl rfl rfl ?_
        refine rt_nil ?_
        refine Exists.intro ⟨(rs0, (v0_0 + 1)), hn0, h⟩ (And.intro (Nat.lt_succ_self _) ?_)
        refine entX [] [] trivial trivial rfl rfl ?_
        exact ⟨(.free rfl), (.free rfl), (.free rfl), (.free rfl), trivial⟩
    · have he := drop_f hd0 c1; subst he
      rw [cmp_Or_int_l0] at h
      refine tri_exit ?_
      refine tri_seq ?_
      refine tri_region ?_
      refine s_mv (.inl rfl) (by conv => lhs; whnf) rfl rfl rfl ?_
      refine s_mv (.inr rfl) (by conv => lhs; whnf) rfl rfl rfl ?_
      refine rt_nil ?_
      refine tri_ret ?_
      have e0 := (some1 h); subst e0
      exact endY [] [] (rvC (resTmp rfl) rvN) trivial trivial rfl rfl rfl rfl (.free rfl)

/- impl.byRecord -/

set_option maxRecDepth 4000 in
set_option maxHeartbeats 800000 in
theorem wi_byRecord (p0 : Rec) (p1 : Rec) (r0 : Int) (h : i_byRecord p0 p1 = some r0) : Runs Tryd.prog 126 [.agg (recV p0), .agg (recV p1)] [] (.sc (.int .i64 r0)) [] := by
  unfold i_byRecord at h
  refine runsR [.tmp 4] Tryd.func126 rfl rfl rfl rfl ?_
  rw [Tryd.ntmps126]
  refine tri_seq ?_
  refine tri_region ?_
  refine s_box rfl rfl rfl rfl rfl rfl rfl ?_
  refine s_box rfl rfl rfl rfl rfl rfl rfl ?_
  refine s_mv (.inr rfl) (v := .sc (.int .i64 0)) rfl rfl rfl rfl ?_
  refine rt_nil ?_
  refine tri_seq ?_
  refine tri_draw mixed ?_
  refine s_fieldAddr rfl rfl fd39_0 rfl rfl rfl rfl ?_
  refine s_load rfl rfl rfl rfl ty9 rfl (.inr rfl) (by conv => lhs; whnf) rfl rfl rfl ?_
  refine s_fieldAddr rfl rfl fd39_0 rfl rfl rfl rfl ?_
  refine s_load rfl rfl rfl rfl ty9 rfl (.inr rfl) (by conv => lhs; whnf) rfl rfl rfl ?_
  refine bnd1_elim h fun x1 q2 h => ?_
  refine s_callN (kb := []) (ns := []) (v := .sc (.int .i64 x1)) rfl rfl cl173 (wi_byName p0.name p1.name x1 q2) rfl (.cons (.free rfl) (.cons (.free rfl) .nil)) trivial memNil .nil memNil rfl trivial memNil rfl rfl rfl rfl rfl rfl ?_
  refine s_fieldAddr rfl rfl fd39_1 rfl rfl rfl rfl ?_
  refine s_load rfl rfl rfl rfl ty3 rfl (.inr rfl) (by conv => lhs; whnf) rfl rfl rfl ?_
  refine s_fieldAddr rfl rfl fd39_1 rfl rfl rfl rfl ?_
  refine s_load rfl rfl rfl rfl ty3 rfl (.inr rfl) (by conv => lhs; whnf) rfl rfl rfl ?_
  refine bnd1_elim h fun x3 q4 h => ?_
  refine s_callN (kb := []) (ns := []) (v := .sc (.int .i64 x3)) rfl rfl cl174 (wcmp_Compare_int p0.ty p1.ty x3 q4) rfl (.cons (.free rfl) (.cons (.free rfl) .nil)) trivial memNil .nil memNil rfl trivial memNil rfl rfl rfl rfl rfl rfl ?_
  refine s_fieldAddr rfl rfl fd39_3 rfl rfl rfl rfl ?_
  refine s_load rfl rfl rfl rfl ty3 rfl (.inr rfl) (by conv => lhs; whnf) rfl rfl rfl ?_
  refine s_fieldAddr rfl rfl fd39_3 rfl rfl rfl rfl ?_
  refine s_load rfl rfl rfl rfl ty3 rfl (.inr rfl) (by conv => lhs; whnf) rfl rfl rfl ?_
  refine bnd1_elim h fun x5 q6 h => ?_
  refine s_callN (kb := []) (ns := []) (v := .sc (.int .i64 x5)) rfl rfl cl174 (wcmp_Compare_int p0.n p1.n x5 q6) rfl (.cons (.free rfl) (.cons (.free rfl) .nil)) trivial memNil .nil memNil rfl trivial memNil rfl rfl rfl rfl rfl rfl ?_
  refine s_fieldAddr rfl rfl fd39_4 rfl rfl rfl rfl ?_
  refine s_load rfl rfl rfl rfl ty9 rfl (.inr rfl) (by conv => lhs; whnf) rfl rfl rfl ?_
  refine s_fieldAddr rfl rfl fd39_4 rfl rfl rfl rfl ?_
  refine s_load rfl rfl rfl rfl ty9 rfl (.inr rfl) (by conv => lhs; whnf) rfl rfl rfl ?_
  refine bnd1_elim h fun x7 q8 h => ?_
  refine s_callN (kb := []) (ns := []) (v := .sc (.int .i64 x7)) rfl rfl cl173 (wi_byName p0.host p1.host x7 q8) rfl (.cons (.free rfl) (.cons (.free rfl) .nil)) trivial memNil .nil memNil rfl trivial memNil rfl rfl rfl rfl rfl rfl ?_
  refine s_fieldAddr rfl rfl fd39_5 rfl rfl rfl rfl ?_
  refine s_load rfl rfl rfl rfl ty9 rfl (.inr rfl) (by conv => lhs; whnf) rfl rfl rfl ?_
  refine s_fieldAddr rfl rfl fd39_5 rfl rfl rfl rfl ?_
  refine s_load rfl rfl rfl rfl ty9 rfl (.inr rfl) (by conv => lhs; whnf) rfl rfl rfl ?_
  refine bnd1_elim h fun x9 q10 h => ?_
  refine s_callN (kb := []) (ns := []) (v := .sc (.int .i64 x9)) rfl rfl cl175 (wcmp_Compare_string p0.text p1.text x9 q10) rfl (.cons (.free rfl) (.cons (.free rfl) .nil)) trivial memNil .nil memNil rfl trivial memNil rfl rfl rfl rfl rfl rfl ?_
  refine s_fieldAddr rfl rfl fd39_2 rfl rfl rfl rfl ?_
  refine s_load rfl rfl rfl rfl ty3 rfl (.inr rfl) (by conv => lhs; whnf) rfl rfl rfl ?_
  refine s_fieldAddr rfl rfl fd39_2 rfl rfl rfl rfl ?_
  refine s_load rfl rfl rfl rfl ty3 rfl (.inr rfl) (by conv => lhs; whnf) rfl rfl rfl ?_
  refine bnd1_elim h fun x11 q12 h => ?_
  refine s_callN (kb := []) (ns := []) (v := .sc (.int .i64 x11)) rfl rfl cl174 (wcmp_Compare_int p0.ttl p1.ttl x11 q12) rfl (.cons (.free rfl) (.cons (.free rfl) .nil)) trivial memNil .nil memNil rfl trivial memNil rfl rfl rfl rfl rfl rfl ?_
  refine s_buildSlice (rows' := List.map intV [x1, x3, x5, x7, x9, x11]) rfl rfl rfl sl76 zc3 rfl rfl rfl rfl rfl rfl rfl rfl rfl ?_
  refine bnd1_elim h fun x13 q14 h => ?_
  refine s_callN (kb := [(35, 0)]) (ns := []) (v := .sc (.int .i64 x13)) rfl rfl cl172 (wcmp_Or_int [x1, x3, x5, x7, x9, x11] x13 q14) rfl (.cons (lendL rfl (.head _) rfl intV_free intV_len) .nil) trivial memNil .nil (fun _ _ => List.not_mem_nil) rfl trivial memNil rfl rfl rfl rfl rfl rfl ?_
  refine s_mv (.inr rfl) (by conv => lhs; whnf) rfl rfl rfl ?_
  refine rt_nil ⟨drawFast (by kernel_rfl), ?_⟩
  refine tri_ret ?_
  have e0 := (some1 h); subst e0
  exact endY [] [] (rvC (resTmp rfl) rvN) trivial trivial rfl rfl rfl rfl (.free rfl)

/- impl.LessRecord -/

set_option maxRecDepth 4000 in
set_option maxHeartbeats 800000 in
theorem wi_LessRecord (p0 : Rec) (p1 : Rec) (r0 : Bool) (h : i_LessRecord p0 p1 = some r0) : Runs Tryd.prog 95 [.agg (recV p0), .agg (recV p1)] [] (.sc (.bool r0)) [] := by
  unfold i_LessRecord at h
  refine runsR [.tmp 4] Tryd.func95 rfl rfl rfl rfl ?_
  rw [Tryd.ntmps95]
  refine tri_seq ?_
  refine tri_region ?_
  refine s_box rfl rfl rfl rfl rfl rfl rfl ?_
  refine s_box rfl rfl rfl rfl rfl rfl rfl ?_
  refine s_mv (.inr rfl) (v := .sc (.bool false)) rfl rfl rfl rfl ?_
  refine rt_nil ?_
  refine tri_seq ?_
  refine tri_region ?_
  refine s_loadR rfl rfl rfl rfl ty39 rfl rfl rfl ?_
  refine s_loadR rfl rfl rfl rfl ty39 rfl rfl rfl ?_
  refine bnd1_elim h fun x1 q2 h => ?_
  refine s_callN (kb := []) (ns := []) (v := .sc (.int .i64 x1)) rfl rfl cl126 (wi_byRecord p0 p1 x1 q2) rfl (.cons (relAgg rfl) (.cons (relAgg rfl) .nil)) trivial memNil .nil memNil rfl trivial memNil rfl rfl rfl rfl rfl rfl ?_
  refine s_of (st_lss rfl rfl rfl) rfl rfl rfl rfl ?_
  refine s_mv (.inr rfl) (by conv => lhs; whnf) rfl rfl rfl ?_
  refine rt_nil ?_
  refine tri_ret ?_
  have e0 := (some1 h); subst e0
  exact endY [] [] (rvC (resTmp rfl) rvN) trivial trivial rfl rfl rfl rfl (.free rfl)

/- impl.SetOf -/
def inv_i_SetOf_1 (p0 : List Rec) (p1 : ByteArray) (p2 : Int) (v0_0 : List Rec) (v0_1 : Nat) (e0 : Rec) (j1_0 : Bool) : St := mkT 33 [(1, .sc (.string p1)), (2, .sc (.int .i64 p2)), (7, .ref (2007, 0) 0 v0_0.length), (9, .ptr (9, 0) 0 0), (11, .lst 6 (List.map recV p0)), (12, .sc (.int .i64 (p0.length : Int))), (13, .sc (.int .i64 (v0_1 : Int))), (26, .sc (.bool j1_0))] [((2007, 0), some ⟨39, 6, List.map recV v0_0, false, true⟩), ((9, 0), some ⟨39, 6, [[.sc (.string e0.name), .sc (.int .i64 e0.ty), .sc (.int .i64 e0.ttl), .sc (.int .i64 e0.n), .sc (.string e0.host), .sc (.string e0.text)]], false, true⟩)]
def inv_i_SetOf_0 (p0 : List Rec) (p1 : ByteArray) (p2 : Int) (v0_0 : List Rec) (v0_1 : Nat) : St := mkT 33 [(1, .sc (.string p1)), (2, .sc (.int .i64 p2)), (7, .ref (2007, 0) 0 v0_0.length), (11, .lst 6 (List.map recV p0)), (12, .sc (.int .i64 (p0.length : Int))), (13, .sc (.int .i64 (v0_1 : Int)))] [((2007, 0), some ⟨39, 6, List.map recV v0_0, false, true⟩)]
set_option maxRecDepth 4000 in
set_option maxHeartbeats 800000 in
theorem wi_SetOf (p0 : List Rec) (p1 : ByteArray) (p2 : Int) (r0 : List Rec) (h : i_SetOf p0 p1 p2 = some r0) : Runs Tryd.prog 21 [.lst 6 (List.map recV p0), .sc (.string p1), .sc (.int .i64 p2)] [] (.own 39 6 (List.map recV r0)) [] := by
  unfold i_SetOf at h
  refine runsR [.tmp 6] Tryd.func21 rfl rfl rfl rfl ?_
  rw [Tryd.ntmps21]
  refine tri_seq ?_
  refine tri_region ?_
  refine s_mv (.inr rfl) (v := .nils) rfl rfl rfl rfl ?_
  refine rt_nil ?_
  refine tri_seq ?_
  refine tri_region ?_
  refine s_buildSlice (rows' := List.map recV ([] : List Rec)) rfl rfl rfl sl24 zc39 rfl rfl rfl rfl rfl rfl rfl rfl rfl ?_
  refine s_mv (.inr rfl) (by conv => lhs; whnf) rfl rfl rfl ?_
  refine rt_nil ?_
  refine tri_seq ?_
  refine tri_seq ?_
  refine tri_region ?_
  refine s_mv (.inl rfl) (by conv => lhs; whnf) rfl rfl rfl ?_
  refine s_lenL rfl sl24 rfl rfl rfl rfl ?_
  refine s_mv (.inl rfl) (v := .sc (.int .i64 0)) rfl rfl rfl rfl ?_
  refine rt_nil ?_
  refine tri_block ?_
  refine tri_lstM 0 rfl (fun hl0 => ?_)
  refine tri_loop (ι := { p : (List Rec) × (List Rec) × Nat // p0.drop p.2.2 = p.1 ∧ i_SetOf_l0 p1 p2 p.1 p.2.1 p.2.2 = some r0 }) (fun p => inv_i_SetOf_0 p0 p1 p2 p.1.2.1 p.1.2.2) (fun p => p.1.1.length) ⟨(p0, ([] : List Rec), 0), rfl, h⟩ ?_ ?_
  · skip
    refine entX [((2007, 0), ⟨39, 6, List.map recV ([] : List Rec), false, true⟩, some (10, 0))] [] ⟨⟨rfl, _, rfl, rfl, rfl, rfl, id, rowsCv_eq rfl (allFree_map recV_free), rowsZ_map recV_len⟩, trivial⟩ trivial rfl rfl ?_
    exact ⟨(.free rfl), (.free rfl), (.ref rfl), (.free rfl), (.free rfl), (.free rfl), trivial⟩
  · rintro ⟨⟨lrs0, v0_0, v0_1⟩, hd0, h⟩
    replace hd0 : p0.drop v0_1 = lrs0 := hd0
    replace h : i_SetOf_l0 p1 p2 lrs0 v0_0 v0_1 = some r0 := h
    show Tri _ _ _ (inv_i_SetOf_0 p0 p1 p2 v0_0 v0_1)
    refine tri_seq ?_
    refine tri_region ?_
    refine s_of (st_lss rfl rfl rfl) rfl rfl rfl rfl ?_
    refine rt_nil ?_
    refine tri_seq ?_
    refine tri_cond rfl (fun c1 => ?_) (fun c1 => ?_)
    · refine drop_elim hd0 c1 fun e0 rs0 he hx0 hn0 => ?_
      subst he
      rw [i_SetOf_l0] at h
      refine tri_skip ?_
      refine tri_seq ?_
      refine tri_block ?_
      refine tri_seq ?_
      refine tri_region ?_
      refine s_indexF (i := v0_1) rfl rfl rfl sl24 (get_ltM hx0) rfl rfl rfl ?_
      refine s_loadFR rfl rfl (rowG hx0) ty39 rfl rfl rfl ?_
      refine s_alloc rfl rfl rfl zc39 rfl rfl rfl rfl rfl ?_
      refine s_storeB rfl rfl rfl ty39 rfl rfl rfl rfl rfl ?_
      refine rt_nil ?_
      refine tri_cutI (ι := { p : Bool // i_SetOf_j1 v0_0 v0_1 e0 (i_SetOf_l0 p1 p2 rs0) p = some r0 }) (fun p => inv_i_SetOf_1 p0 p1 p2 v0_0 v0_1 e0 p.1) ?_ ?_
      · skip
        refine tri_region ?_
        refine s_fieldAddr rfl rfl fd39_0 rfl rfl rfl rfl ?_
        refine s_load rfl rfl rfl rfl ty9 rfl (.inr rfl) (by conv => lhs; whnf) rfl rfl rfl ?_
        refine s_mv (.inl rfl) (by conv => lhs; whnf) rfl rfl rfl ?_
        refine s_of (st_eqS rfl rfl rfl) rfl rfl rfl rfl ?_
        refine s_mv (.inl rfl) (by conv => lhs; whnf) rfl rfl rfl ?_
        refine s_split (t := 21) rfl (fun b2 => ?_) (fun b2 => ?_)
        · replace h := cond_t h b2
          refine s_fieldAddr rfl rfl fd39_1 rfl rfl rfl rfl ?_
          refine s_load rfl rfl rfl rfl ty3 rfl (.inr rfl) (by conv => lhs; whnf) rfl rfl rfl ?_
          refine s_mv (.inl rfl) (by conv => lhs; whnf) rfl rfl rfl ?_
          refine s_of (st_eqI rfl rfl rfl) rfl rfl rfl rfl ?_
          refine s_pickT rfl rfl (by conv => lhs; whnf) rfl rfl rfl ?_
          refine rt_nil ?_
          refine Exists.intro ⟨decide (e0.ty = p2), h⟩ ?_
          refine entX [((2007, 0), ⟨39, 6, List.map recV v0_0, false, true⟩, some (2007, 0)), ((9, 0), ⟨39, 6, [[.sc (.string e0.name), .sc (.int .i64 e0.ty), .sc (.int .i64 e0.ttl), .sc (.int .i64 e0.n), .sc (.string e0.host), .sc (.string e0.text)]], false, true⟩, some (9, 0))] [] ⟨⟨rfl, _, rfl, rfl, rfl, rfl, id, rowsCv_eq rfl (allFree_map recV_free), rowsZ_map recV_len⟩, ⟨rfl, _, rfl, rfl, rfl, rfl, id, rowsCv_one (.cons (.free rfl) (.cons (.free rfl) (.cons (.free rfl) (.cons (.free rfl) (.cons (.free rfl) (.cons (.free rfl) .nil)))))), rowsZ_one rfl⟩, trivial⟩ trivial rfl rfl ?_
          exact ⟨(.free rfl), (.free rfl), (.ref rfl), (.ptr rfl), (.free rfl), (.free rfl), (.free rfl), (.free rfl), trivial⟩
        · replace h := cond_f h b2
          refine s_skip rfl rfl rfl ?_
          refine s_skip rfl rfl rfl ?_
          refine s_skip rfl rfl rfl ?_
          refine s_skip rfl rfl rfl ?_
          refine s_pickF rfl rfl (v := .sc (.bool false)) rfl rfl rfl rfl ?_
          refine rt_nil ?_
          refine Exists.intro ⟨false, h⟩ ?_
          refine entX [((2007, 0), ⟨39, 6, List.map recV v0_0, false, true⟩, some (2007, 0)), ((9, 0), ⟨39, 6, [[.sc (.string e0.name), .sc (.int .i64 e0.ty), .sc (.int .i64 e0.ttl), .sc (.int .i64 e0.n), .sc (.string e0.host), .sc (.string e0.text)]], false, true⟩, some (9, 0))] [] ⟨⟨rfl, _, rfl, rfl, rfl, rfl, id, rowsCv_eq rfl (allFree_map recV_free), rowsZ_map recV_len⟩, ⟨rfl, _, rfl, rfl, rfl, rfl, id, rowsCv_one (.cons (.free rfl) (.cons (.free rfl) (.cons (.free rfl) (.cons (.free rfl) (.cons (.free rfl) (.cons (.free rfl) .nil)))))), rowsZ_one rfl⟩, trivial⟩ trivial rfl rfl ?_
          exact ⟨(.free rfl), (.free rfl), (.ref rfl), (.ptr rfl), (.free rfl), (.free rfl), (.free rfl), (.free rfl), trivial⟩
      · rintro ⟨j1_0, h⟩
        replace h : i_SetOf_j1 v0_0 v0_1 e0 (i_SetOf_l0 p1 p2 rs0) j1_0 = some r0 := h
        unfold i_SetOf_j1 at h
        show Tri _ _ _ (inv_i_SetOf_1 p0 p1 p2 v0_0 v0_1 e0 j1_0)
        refine tri_cond rfl (fun c2 => ?_) (fun c2 => ?_)
        · replace h := cond_t h c2
          refine tri_region ?_
          refine s_mv (.inl rfl) (by conv => lhs; whnf) rfl rfl rfl ?_
          refine s_loadR rfl rfl rfl rfl ty39 rfl rfl rfl ?_
          refine s_buildSlice (rows' := List.map recV [e0]) rfl rfl rfl sl24 zc39 rfl rfl rfl rfl rfl rfl rfl rfl rfl ?_
          refine grd_elim h fun g3 h => ?_
          refine s_appL rfl rfl rfl sl24 zc39 rfl rfl rfl rfl rfl rfl (src_refL rfl rfl) g3 rfl rfl ?_
          refine s_mv (.inr rfl) (by conv => lhs; whnf) rfl rfl rfl ?_
          refine rt_nil ?_
          refine tri_region ?_
          refine s_inc (a := v0_1) (b := 1) rfl rfl rfl rfl (by have := get_lt hx0; have := hl0; omega) rfl rfl rfl ?_
          refine s_mv (.inl rfl) (by conv => lhs; whnf) rfl rfl rfl ?_
          refine rt_nil ?_
          refine Exists.intro ⟨(rs0, v0_0 ++ [e0], (v0_1 + 1)), hn0, h⟩ (And.intro (Nat.lt_succ_self _) ?_)
          refine entX [((2007, 0), ⟨39, 6, List.map recV (v0_0 ++ [e0]), false, true⟩, some (30, 0))] [] ⟨⟨rfl, _, rfl, rfl, rfl, rfl, id, rowsCv_eq rfl (allFree_map recV_free), rowsZ_map recV_len⟩, trivial⟩ trivial rfl rfl ?_
          exact ⟨(.free rfl), (.free rfl), (.ref rfl), (.free rfl), (.free rfl), (.free rfl), trivial⟩
        · replace h := cond_f h c2
          refine tri_skip ?_
          refine tri_region ?_
          refine s_inc (a := v0_1) (b := 1) rfl rfl rfl rfl (by have := get_lt hx0; have := hl0; omega) rfl rfl rfl ?_
          refine s_mv (.inl rfl) (by conv => lhs; whnf) rfl rfl rfl ?_
          refine rt_nil ?_
          refine Exists.intro ⟨(rs0, v0_0, (v0_1 + 1)), hn0, h⟩ (And.intro (Nat.lt_succ_self _) ?_)
          refine entX [((2007, 0), ⟨39, 6, List.map recV v0_0, false, true⟩, some (2007, 0))] [] ⟨⟨rfl, _, rfl, rfl, rfl, rfl, id, rowsCv_eq rfl (allFree_map recV_free), rowsZ_map recV_len⟩, trivial⟩ trivial rfl rfl ?_
          exact ⟨(.free rfl), (.free rfl), (.ref rfl), (.free rfl), (.free rfl), (.free rfl), trivial⟩
    · have he := drop_f hd0 c1; subst he
      rw [i_SetOf_l0] at h
      refine tri_exit ?_
      refine tri_seq ?_
      refine tri_region ?_
      refine s_mv (.inl rfl) (by conv => lhs; whnf) rfl rfl rfl ?_
      refine s_mv (.inr rfl) (by conv => lhs; whnf) rfl rfl rfl ?_
      refine rt_nil ?_
      refine tri_ret ?_
      have e0 := (some1 h); subst e0
      exact endY (v' := .ref (2000, 0) 0 v0_0.length) [((2000, 0), ⟨39, 6, List.map recV v0_0, false, true⟩, some (2007, 0))] [] (rvC (resTmp rfl) rvN) ⟨⟨rfl, _, rfl, rfl, rfl, rfl, id, rowsCv_eq rfl (allFree_map recV_free), rowsZ_map recV_len⟩, trivial⟩ trivial rfl rfl (by kernel_rfl) (by first | (simp only [V.mat, V.mat1, V.mat0, matL, matT, List.length_map]; done) | (simp only [V.mat, V.mat1, V.mat0, matL, matT, List.length_map]; rfl)) (.ref rfl)

/- impl.ZoneOk -/
def inv_i_ZoneOk_10 (p0 : MZone) (v2_1 : Nat) (e2 : Rec) (j7_0 : Int) (x4 : List ByteArray) (v9_0 : Nat) (j10_0 : Bool) : St := mkT 154 [(1, .ptr (1, 0) 0 0), (3, .sc (.int .i64 j7_0)), (5, .ptr (5, 0) 0 0), (21, .lst 6 (List.map recV p0.l)), (22, .sc (.int .i64 (p0.l.length : Int))), (23, .sc (.int .i64 (v2_1 : Int))), (114, .ref (114, 0) 0 x4.length), (115, .sc (.int .i64 (x4.length : Int))), (116, .sc (.int .i64 (v9_0 : Int))), (140, .sc (.bool j10_0))] [((1, 0), some ⟨26, 2, [[.sc (.string p0.apex), .lst 6 (List.map recV p0.l)]], false, true⟩), ((5, 0), some ⟨39, 6, [[.sc (.string e2.name), .sc (.int .i64 e2.ty), .sc (.int .i64 e2.ttl), .sc (.int .i64 e2.n), .sc (.string e2.host), .sc (.string e2.text)]], false, true⟩), ((114, 0), some ⟨9, 1, List.map strV x4, false, true⟩)]
def inv_i_ZoneOk_9 (p0 : MZone) (v2_1 : Nat) (e2 : Rec) (j7_0 : Int) (x4 : List ByteArray) (v9_0 : Nat) : St := mkT 154 [(1, .ptr (1, 0) 0 0), (3, .sc (.int .i64 j7_0)), (5, .ptr (5, 0) 0 0), (21, .lst 6 (List.map recV p0.l)), (22, .sc (.int .i64 (p0.l.length : Int))), (23, .sc (.int .i64 (v2_1 : Int))), (114, .ref (114, 0) 0 x4.length), (115, .sc (.int .i64 (x4.length : Int))), (116, .sc (.int .i64 (v9_0 : Int)))] [((1, 0), some ⟨26, 2, [[.sc (.string p0.apex), .lst 6 (List.map recV p0.l)]], false, true⟩), ((5, 0), some ⟨39, 6, [[.sc (.string e2.name), .sc (.int .i64 e2.ty), .sc (.int .i64 e2.ttl), .sc (.int .i64 e2.n), .sc (.string e2.host), .sc (.string e2.text)]], false, true⟩), ((114, 0), some ⟨9, 1, List.map strV x4, false, true⟩)]
def inv_i_ZoneOk_8 (p0 : MZone) (v2_0 : Int) (v2_1 : Nat) (e2 : Rec) (j8_0 : Bool) : St := mkT 154 [(1, .ptr (1, 0) 0 0), (3, .sc (.int .i64 v2_0)), (5, .ptr (5, 0) 0 0), (21, .lst 6 (List.map recV p0.l)), (22, .sc (.int .i64 (p0.l.length : Int))), (23, .sc (.int .i64 (v2_1 : Int))), (84, .sc (.bool j8_0))] [((1, 0), some ⟨26, 2, [[.sc (.string p0.apex), .lst 6 (List.map recV p0.l)]], false, true⟩), ((5, 0), some ⟨39, 6, [[.sc (.string e2.name), .sc (.int .i64 e2.ty), .sc (.int .i64 e2.ttl), .sc (.int .i64 e2.n), .sc (.string e2.host), .sc (.string e2.text)]], false, true⟩)]
def inv_i_ZoneOk_7 (p0 : MZone) (v2_1 : Nat) (e2 : Rec) (j7_0 : Int) : St := mkT 154 [(1, .ptr (1, 0) 0 0), (3, .sc (.int .i64 j7_0)), (5, .ptr (5, 0) 0 0), (21, .lst 6 (List.map recV p0.l)), (22, .sc (.int .i64 (p0.l.length : Int))), (23, .sc (.int .i64 (v2_1 : Int)))] [((1, 0), some ⟨26, 2, [[.sc (.string p0.apex), .lst 6 (List.map recV p0.l)]], false, true⟩), ((5, 0), some ⟨39, 6, [[.sc (.string e2.name), .sc (.int .i64 e2.ty), .sc (.int .i64 e2.ttl), .sc (.int .i64 e2.n), .sc (.string e2.host), .sc (.string e2.text)]], false, true⟩)]
def inv_i_ZoneOk_6 (p0 : MZone) (v2_0 : Int) (v2_1 : Nat) (e2 : Rec) (v5_0 : Nat) (j6_0 : Bool) : St := mkT 154 [(1, .ptr (1, 0) 0 0), (3, .sc (.int .i64 v2_0)), (5, .ptr (5, 0) 0 0), (21, .lst 6 (List.map recV p0.l)), (22, .sc (.int .i64 (p0.l.length : Int))), (23, .sc (.int .i64 (v2_1 : Int))), (50, .lst 6 (List.map recV p0.l)), (51, .sc (.int .i64 (p0.l.length : Int))), (52, .sc (.int .i64 (v5_0 : Int))), (82, .sc (.bool j6_0))] [((1, 0), some ⟨26, 2, [[.sc (.string p0.apex), .lst 6 (List.map recV p0.l)]], false, true⟩), ((5, 0), some ⟨39, 6, [[.sc (.string e2.name), .sc (.int .i64 e2.ty), .sc (.int .i64 e2.ttl), .sc (.int .i64 e2.n), .sc (.string e2.host), .sc (.string e2.text)]], false, true⟩)]
def inv_i_ZoneOk_5 (p0 : MZone) (v2_0 : Int) (v2_1 : Nat) (e2 : Rec) (v5_0 : Nat) : St := mkT 154 [(1, .ptr (1, 0) 0 0), (3, .sc (.int .i64 v2_0)), (5, .ptr (5, 0) 0 0), (21, .lst 6 (List.map recV p0.l)), (22, .sc (.int .i64 (p0.l.length : Int))), (23, .sc (.int .i64 (v2_1 : Int))), (50, .lst 6 (List.map recV p0.l)), (51, .sc (.int .i64 (p0.l.length : Int))), (52, .sc (.int .i64 (v5_0 : Int)))] [((1, 0), some ⟨26, 2, [[.sc (.string p0.apex), .lst 6 (List.map recV p0.l)]], false, true⟩), ((5, 0), some ⟨39, 6, [[.sc (.string e2.name), .sc (.int .i64 e2.ty), .sc (.int .i64 e2.ttl), .sc (.int .i64 e2.n), .sc (.string e2.host), .sc (.string e2.text)]], false, true⟩)]
def inv_i_ZoneOk_4 (p0 : MZone) (v2_0 : Int) (v2_1 : Nat) (e2 : Rec) : St := mkT 154 [(1, .ptr (1, 0) 0 0), (3, .sc (.int .i64 v2_0)), (5, .ptr (5, 0) 0 0), (21, .lst 6 (List.map recV p0.l)), (22, .sc (.int .i64 (p0.l.length : Int))), (23, .sc (.int .i64 (v2_1 : Int)))] [((1, 0), some ⟨26, 2, [[.sc (.string p0.apex), .lst 6 (List.map recV p0.l)]], false, true⟩), ((5, 0), some ⟨39, 6, [[.sc (.string e2.name), .sc (.int .i64 e2.ty), .sc (.int .i64 e2.ttl), .sc (.int .i64 e2.n), .sc (.string e2.host), .sc (.string e2.text)]], false, true⟩)]
def inv_i_ZoneOk_3 (p0 : MZone) (v2_0 : Int) (v2_1 : Nat) (e2 : Rec) (j3_0 : Bool) : St := mkT 154 [(1, .ptr (1, 0) 0 0), (3, .sc (.int .i64 v2_0)), (5, .ptr (5, 0) 0 0), (21, .lst 6 (List.map recV p0.l)), (22, .sc (.int .i64 (p0.l.length : Int))), (23, .sc (.int .i64 (v2_1 : Int))), (48, .sc (.bool j3_0))] [((1, 0), some ⟨26, 2, [[.sc (.string p0.apex), .lst 6 (List.map recV p0.l)]], false, true⟩), ((5, 0), some ⟨39, 6, [[.sc (.string e2.name), .sc (.int .i64 e2.ty), .sc (.int .i64 e2.ttl), .sc (.int .i64 e2.n), .sc (.string e2.host), .sc (.string e2.text)]], false, true⟩)]
def inv_i_ZoneOk_2 (p0 : MZone) (v2_0 : Int) (v2_1 : Nat) : St := mkT 154 [(1, .ptr (1, 0) 0 0), (3, .sc (.int .i64 v2_0)), (21, .lst 6 (List.map recV p0.l)), (22, .sc (.int .i64 (p0.l.length : Int))), (23, .sc (.int .i64 (v2_1 : Int)))] [((1, 0), some ⟨26, 2, [[.sc (.string p0.apex), .lst 6 (List.map recV p0.l)]], false, true⟩)]
def inv_i_ZoneOk_1 (p0 : MZone) (j1_0 : Int) : St := mkT 154 [(1, .ptr (1, 0) 0 0), (3, .sc (.int .i64 j1_0))] [((1, 0), some ⟨26, 2, [[.sc (.string p0.apex), .lst 6 (List.map recV p0.l)]], false, true⟩)]
def inv_i_ZoneOk_0 (p0 : MZone) (j0_0 : Bool) : St := mkT 154 [(1, .ptr (1, 0) 0 0), (19, .sc (.bool j0_0))] [((1, 0), some ⟨26, 2, [[.sc (.string p0.apex), .lst 6 (List.map recV p0.l)]], false, true⟩)]
set_option maxRecDepth 4000 in
set_option maxHeartbeats 800000 in
theorem wi_ZoneOk (p0 : MZone) (r0 : Bool) (h : i_ZoneOk p0 = some r0) : Runs Tryd.prog 15 [.agg (mZoneV p0)] [] (.sc (.bool r0)) [] := by
  unfold i_ZoneOk at h
  refine runsR [.tmp 2] Tryd.func15 rfl rfl rfl rfl ?_
  rw [Tryd.ntmps15]
  refine tri_seq ?_
  refine tri_region ?_
  refine s_box rfl rfl rfl rfl rfl rfl rfl ?_
  refine s_mv (.inr rfl) (v := .sc (.bool false)) rfl rfl rfl rfl ?_
  refine rt_nil ?_
  refine tri_seq ?_
  refine tri_cutI (ι := { p : Bool // i_ZoneOk_j0 p0 p = some r0 }) (fun p => inv_i_ZoneOk_0 p0 p.1) ?_ ?_
  · skip
    refine tri_region ?_
    refine s_fieldAddr rfl rfl fd26_0 rfl rfl rfl rfl ?_
    refine s_load rfl rfl rfl rfl ty9 rfl (.inr rfl) (by conv => lhs; whnf) rfl rfl rfl ?_
    refine bnd1_elim h fun x1 q2 h => ?_
    refine s_callN (kb := []) (ns := []) (v := .sc (.bool x1)) rfl rfl cl93 (wi_NameOk p0.apex x1 q2) rfl (.cons (.free rfl) .nil) trivial memNil .nil memNil rfl trivial memNil rfl rfl rfl rfl rfl rfl ?_
    refine s_of (st_not rfl rfl) rfl rfl rfl rfl ?_
    refine s_mv (.inl rfl) (by conv => lhs; whnf) rfl rfl rfl ?_
    refine s_split (t := 14) rfl (fun b3 => ?_) (fun b3 => ?_)
    · replace h := cond_t h b3
      refine s_skip rfl rfl rfl ?_
      refine s_skip rfl rfl rfl ?_
      refine s_skip rfl rfl rfl ?_
      refine s_skip rfl rfl rfl ?_
      refine s_pickT rfl rfl (v := .sc (.bool true)) rfl rfl rfl rfl ?_
      refine rt_nil ?_
      refine Exists.intro ⟨true, h⟩ ?_
      refine entX [((1, 0), ⟨26, 2, [[.sc (.string p0.apex), .lst 6 (List.map recV p0.l)]], false, true⟩, some (1, 0))] [] ⟨⟨rfl, _, rfl, rfl, rfl, rfl, id, rowsCv_one (.cons (.free rfl) (.cons (.free rfl) .nil)), rowsZ_one rfl⟩, trivial⟩ trivial rfl rfl ?_
      exact ⟨(.ptr rfl), (.free rfl), trivial⟩
    · replace h := cond_f h b3
      refine s_fieldAddr rfl rfl fd26_1 rfl rfl rfl rfl ?_
      refine s_load rfl rfl rfl rfl ty24 rfl (.inr rfl) (by conv => lhs; whnf) rfl rfl rfl ?_
      refine bnd1_elim h fun x4 q5 h => ?_
      refine s_callN (kb := []) (ns := []) (v := .sc (.bool x4)) rfl rfl cl94 (wi_allOk p0.l 20 x4 q5) rfl (.cons (.free rfl) (.cons (.free rfl) .nil)) trivial memNil .nil memNil rfl trivial memNil rfl rfl rfl rfl rfl rfl ?_
      refine s_of (st_not rfl rfl) rfl rfl rfl rfl ?_
      refine s_pickF rfl rfl (by conv => lhs; whnf) rfl rfl rfl ?_
      refine rt_nil ?_
      refine Exists.intro ⟨!x4, h⟩ ?_
      refine entX [((1, 0), ⟨26, 2, [[.sc (.string p0.apex), .lst 6 (List.map recV p0.l)]], false, true⟩, some (1, 0))] [] ⟨⟨rfl, _, rfl, rfl, rfl, rfl, id, rowsCv_one (.cons (.free rfl) (.cons (.free rfl) .nil)), rowsZ_one rfl⟩, trivial⟩ trivial rfl rfl ?_
      exact ⟨(.ptr rfl), (.free rfl), trivial⟩
  · rintro ⟨j0_0, h⟩
    replace h : i_ZoneOk_j0 p0 j0_0 = some r0 := h
    unfold i_ZoneOk_j0 at h
    show Tri _ _ _ (inv_i_ZoneOk_0 p0 j0_0)
    refine tri_cond rfl (fun c1 => ?_) (fun c1 => ?_)
    · replace h := cond_t h c1
      refine tri_seq ?_
      refine tri_region ?_
      refine s_mv (.inr rfl) (v := .sc (.bool false)) rfl rfl rfl rfl ?_
      refine rt_nil ?_
      refine tri_ret ?_
      have e0 := (some1 h); subst e0
      exact endY [] [] (rvC (resTmp rfl) rvN) trivial trivial rfl rfl rfl rfl (.free rfl)
    · replace h := cond_f h c1
      refine tri_skip ?_
      refine tri_seq ?_
      refine tri_region ?_
      refine s_mv (.inr rfl) (v := .sc (.int .i64 0)) rfl rfl rfl rfl ?_
      refine rt_nil ?_
      refine tri_cutI (ι := { p : Int // i_ZoneOk_j1 p0 p = some r0 }) (fun p => inv_i_ZoneOk_1 p0 p.1) ?_ ?_
      · skip
        refine tri_seq ?_
        refine tri_region ?_
        refine s_fieldAddr rfl rfl fd26_1 rfl rfl rfl rfl ?_
        refine s_load rfl rfl rfl rfl ty24 rfl (.inr rfl) (by conv => lhs; whnf) rfl rfl rfl ?_
        refine s_lenL rfl sl24 rfl rfl rfl rfl ?_
        refine s_mv (.inl rfl) (v := .sc (.int .i64 0)) rfl rfl rfl rfl ?_
        refine rt_nil ?_
        refine tri_block ?_
        refine tri_lstM 21 rfl (fun hl2 => ?_)
        refine tri_loop (ι := { p : (List Rec) × Int × Nat // p0.l.drop p.2.2 = p.1 ∧ i_ZoneOk_l2 p0 p.1 p.2.1 p.2.2 = some r0 }) (fun p => inv_i_ZoneOk_2 p0 p.1.2.1 p.1.2.2) (fun p => p.1.1.length) ⟨(p0.l, 0, 0), rfl, h⟩ ?_ ?_
        · skip
          refine entX [((1, 0), ⟨26, 2, [[.sc (.string p0.apex), .lst 6 (List.map recV p0.l)]], false, true⟩, some (1, 0))] [] ⟨⟨rfl, _, rfl, rfl, rfl, rfl, id, rowsCv_one (.cons (.free rfl) (.cons (.free rfl) .nil)), rowsZ_one rfl⟩, trivial⟩ trivial rfl rfl ?_
          exact ⟨(.ptr rfl), (.free rfl), (.free rfl), (.free rfl), (.free rfl), trivial⟩
        · rintro ⟨⟨lrs2, v2_0, v2_1⟩, hd2, h⟩
          replace hd2 : p0.l.drop v2_1 = lrs2 := hd2
          replace h : i_ZoneOk_l2 p0 lrs2 v2_0 v2_1 = some r0 := h
          show Tri _ _ _ (inv_i_ZoneOk_2 p0 v2_0 v2_1)
          refine tri_seq ?_
          refine tri_region ?_
          refine s_of (st_lss rfl rfl rfl) rfl rfl rfl rfl ?_
          refine rt_nil ?_
          refine tri_seq ?_
          refine tri_cond rfl (fun c2 => ?_) (fun c2 => ?_)
          · refine drop_elim hd2 c2 fun e2 rs2 he hx2 hn2 => ?_
            subst he
            rw [i_ZoneOk_l2] at h
            refine tri_skip ?_
            refine tri_seq ?_
            refine tri_block ?_
            refine tri_seq ?_
            refine tri_region ?_
            refine s_mv (.inl rfl) (by conv => lhs; whnf) rfl rfl rfl ?_
            refine s_indexF (i := v2_1) rfl rfl rfl sl24 (get_ltM hx2) rfl rfl rfl ?_
            refine s_loadFR rfl rfl (rowG hx2) ty39 rfl rfl rfl ?_
            refine s_alloc rfl rfl rfl zc39 rfl rfl rfl rfl rfl ?_
            refine s_mv (.inr rfl) (by conv => lhs; whnf) rfl rfl rfl ?_
            refine s_storeB rfl rfl rfl ty39 rfl rfl rfl rfl rfl ?_
            refine rt_nil ?_
            refine tri_seq ?_
            refine tri_cutI (ι := { p : Bool // i_ZoneOk_j3 p0 v2_0 v2_1 e2 (i_ZoneOk_l2 p0 rs2) p = some r0 }) (fun p => inv_i_ZoneOk_3 p0 v2_0 v2_1 e2 p.1) ?_ ?_
            · skip
              refine tri_draw mixed ?_
              refine s_fieldAddr rfl rfl fd39_0 rfl rfl rfl rfl ?_
              refine s_load rfl rfl rfl rfl ty9 rfl (.inr rfl) (by conv => lhs; whnf) rfl rfl rfl ?_
              refine s_fieldAddr rfl rfl fd26_0 rfl rfl rfl rfl ?_
              refine s_load rfl rfl rfl rfl ty9 rfl (.inr rfl) (by conv => lhs; whnf) rfl rfl rfl ?_
              refine bnd1_elim h fun x3 q4 h => ?_
              refine s_callN (kb := []) (ns := []) (v := .sc (.bool x3)) rfl rfl cl17 (wi_Under e2.name p0.apex x3 q4) rfl (.cons (.free rfl) (.cons (.free rfl) .nil)) trivial memNil .nil memNil rfl trivial memNil rfl rfl rfl rfl rfl rfl ?_
              refine s_of (st_not rfl rfl) rfl rfl rfl rfl ?_
              refine s_mv (.inl rfl) (by conv => lhs; whnf) rfl rfl rfl ?_
              refine s_split (t := 34) rfl (fun b5 => ?_) (fun b5 => ?_)
              · replace h := cond_t h b5
                refine s_skip rfl rfl rfl ?_
                refine s_skip rfl rfl rfl ?_
                refine s_skip rfl rfl rfl ?_
                refine s_skip rfl rfl rfl ?_
                refine s_skip rfl rfl rfl ?_
                refine s_skip rfl rfl rfl ?_
                refine s_skip rfl rfl rfl ?_
                refine s_skip rfl rfl rfl ?_
                refine s_skip rfl rfl rfl ?_
                refine s_skip rfl rfl rfl ?_
                refine s_skip rfl rfl rfl ?_
                refine s_skip rfl rfl rfl ?_
                refine s_skip rfl rfl rfl ?_
                refine s_pickT rfl rfl (v := .sc (.bool true)) rfl rfl rfl rfl ?_
                refine rt_nil ⟨by kernel_rfl, ?_⟩
                refine Exists.intro ⟨true, h⟩ ?_
                refine entX [((1, 0), ⟨26, 2, [[.sc (.string p0.apex), .lst 6 (List.map recV p0.l)]], false, true⟩, some (1, 0)), ((5, 0), ⟨39, 6, [[.sc (.string e2.name), .sc (.int .i64 e2.ty), .sc (.int .i64 e2.ttl), .sc (.int .i64 e2.n), .sc (.string e2.host), .sc (.string e2.text)]], false, true⟩, some (5, 0))] [] ⟨⟨rfl, _, rfl, rfl, rfl, rfl, id, rowsCv_one (.cons (.free rfl) (.cons (.free rfl) .nil)), rowsZ_one rfl⟩, ⟨rfl, _, rfl, rfl, rfl, rfl, id, rowsCv_one (.cons (.free rfl) (.cons (.free rfl) (.cons (.free rfl) (.cons (.free rfl) (.cons (.free rfl) (.cons (.free rfl) .nil)))))), rowsZ_one rfl⟩, trivial⟩ trivial rfl rfl ?_
                exact ⟨(.ptr rfl), (.free rfl), (.ptr rfl), (.free rfl), (.free rfl), (.free rfl), (.free rfl), trivial⟩
              · replace h := cond_f h b5
                refine s_mv (.inl rfl) (by conv => lhs; whnf) rfl rfl rfl ?_
                refine s_of (st_gtr rfl rfl rfl) rfl rfl rfl rfl ?_
                refine s_mv (.inl rfl) (by conv => lhs; whnf) rfl rfl rfl ?_
                refine s_split (t := 37) rfl (fun b6 => ?_) (fun b6 => ?_)
                · replace h := cond_t h b6
                  refine s_fieldAddr rfl rfl fd26_1 rfl rfl rfl rfl ?_
                  refine s_load rfl rfl rfl rfl ty24 rfl (.inr rfl) (by conv => lhs; whnf) rfl rfl rfl ?_
                  refine s_mv (.inl rfl) (by conv => lhs; whnf) rfl rfl rfl ?_
                  refine grd_elim h fun g7 h => ?_
                  refine s_subI rfl rfl rfl rfl g7 rfl rfl rfl ?_
                  refine bnd1_elim h fun x8 q9 h => ?_
                  have q9a := (idx_some q9).1; have q9b := (idx_some q9).2
                  refine s_indexFZ rfl rfl rfl sl24 q9a (get_ltM q9b) rfl rfl rfl ?_
                  refine s_loadFR rfl rfl (rowG q9b) ty39 rfl rfl rfl ?_
                  refine s_loadR rfl rfl rfl rfl ty39 rfl rfl rfl ?_
                  refine bnd1_elim h fun x10 q11 h => ?_
                  refine s_callN (kb := []) (ns := []) (v := .sc (.bool x10)) rfl rfl cl95 (wi_LessRecord x8 e2 x10 q11) rfl (.cons (relAgg rfl) (.cons (relAgg rfl) .nil)) trivial memNil .nil memNil rfl trivial memNil rfl rfl rfl rfl rfl rfl ?_
                  refine s_of (st_not rfl rfl) rfl rfl rfl rfl ?_
                  refine s_pickT rfl rfl (by conv => lhs; whnf) rfl rfl rfl ?_
                  refine s_pickF rfl rfl (by conv => lhs; whnf) rfl rfl rfl ?_
                  refine rt_nil ⟨by kernel_rfl, ?_⟩
                  refine Exists.intro ⟨!x10, h⟩ ?_
                  refine entX [((1, 0), ⟨26, 2, [[.sc (.string p0.apex), .lst 6 (List.map recV p0.l)]], false, true⟩, some (1, 0)), ((5, 0), ⟨39, 6, [[.sc (.string e2.name), .sc (.int .i64 e2.ty), .sc (.int .i64 e2.ttl), .sc (.int .i64 e2.n), .sc (.string e2.host), .sc (.string e2.text)]], false, true⟩, some (5, 0))] [] ⟨⟨rfl, _, rfl, rfl, rfl, rfl, id, rowsCv_one (.cons (.free rfl) (.cons (.free rfl) .nil)), rowsZ_one rfl⟩, ⟨rfl, _, rfl, rfl, rfl, rfl, id, rowsCv_one (.cons (.free rfl) (.cons (.free rfl) (.cons (.free rfl) (.cons (.free rfl) (.cons (.free rfl) (.cons (.free rfl) .nil)))))), rowsZ_one rfl⟩, trivial⟩ trivial rfl rfl ?_
                  exact ⟨(.ptr rfl), (.free rfl), (.ptr rfl), (.free rfl), (.free rfl), (.free rfl), (.free rfl), trivial⟩
                · replace h := cond_f h b6
                  refine s_skip rfl rfl rfl ?_
                  refine s_skip rfl rfl rfl ?_
                  refine s_skip rfl rfl rfl ?_
                  refine s_skip rfl rfl rfl ?_
                  refine s_skip rfl rfl rfl ?_
                  refine s_skip rfl rfl rfl ?_
                  refine s_skip rfl rfl rfl ?_
                  refine s_skip rfl rfl rfl ?_
                  refine s_skip rfl rfl rfl ?_
                  refine s_pickF rfl rfl (v := .sc (.bool false)) rfl rfl rfl rfl ?_
                  refine s_pickF rfl rfl (by conv => lhs; whnf) rfl rfl rfl ?_
                  refine rt_nil ⟨by kernel_rfl, ?_⟩
                  refine Exists.intro ⟨false, h⟩ ?_
                  refine entX [((1, 0), ⟨26, 2, [[.sc (.string p0.apex), .lst 6 (List.map recV p0.l)]], false, true⟩, some (1, 0)), ((5, 0), ⟨39, 6, [[.sc (.string e2.name), .sc (.int .i64 e2.ty), .sc (.int .i64 e2.ttl), .sc (.int .i64 e2.n), .sc (.string e2.host), .sc (.string e2.text)]], false, true⟩, some (5, 0))] [] ⟨⟨rfl, _, rfl, rfl, rfl, rfl, id, rowsCv_one (.cons (.free rfl) (.cons (.free rfl) .nil)), rowsZ_one rfl⟩, ⟨rfl, _, rfl, rfl, rfl, rfl, id, rowsCv_one (.cons (.free rfl) (.cons (.free rfl) (.cons (.free rfl) (.cons (.free rfl) (.cons (.free rfl) (.cons (.free rfl) .nil)))))), rowsZ_one rfl⟩, trivial⟩ trivial rfl rfl ?_
                  exact ⟨(.ptr rfl), (.free rfl), (.ptr rfl), (.free rfl), (.free rfl), (.free rfl), (.free rfl), trivial⟩
            · rintro ⟨j3_0, h⟩
              replace h : i_ZoneOk_j3 p0 v2_0 v2_1 e2 (i_ZoneOk_l2 p0 rs2) j3_0 = some r0 := h
              unfold i_ZoneOk_j3 at h
              show Tri _ _ _ (inv_i_ZoneOk_3 p0 v2_0 v2_1 e2 j3_0)
              refine tri_cond rfl (fun c3 => ?_) (fun c3 => ?_)
              · replace h := cond_t h c3
                refine tri_seq ?_
                refine tri_region ?_
                refine s_mv (.inr rfl) (v := .sc (.bool false)) rfl rfl rfl rfl ?_
                refine rt_nil ?_
                refine tri_ret ?_
                have e0 := (some1 h); subst e0
                exact endY [] [] (rvC (resTmp rfl) rvN) trivial trivial rfl rfl rfl rfl (.free rfl)
              · replace h := cond_f h c3
                refine tri_skip ?_
                refine tri_cutI (ι := { p : Unit // i_ZoneOk_j4 p0 v2_0 v2_1 e2 (i_ZoneOk_l2 p0 rs2) = some r0 }) (fun p => inv_i_ZoneOk_4 p0 v2_0 v2_1 e2) ?_ ?_
                · skip
                  refine tri_seq ?_
                  refine tri_region ?_
                  refine s_fieldAddr rfl rfl fd26_1 rfl rfl rfl rfl ?_
                  refine s_load rfl rfl rfl rfl ty24 rfl (.inr rfl) (by conv => lhs; whnf) rfl rfl rfl ?_
                  refine s_lenL rfl sl24 rfl rfl rfl rfl ?_
                  refine s_mv (.inl rfl) (v := .sc (.int .i64 0)) rfl rfl rfl rfl ?_
                  refine rt_nil ?_
                  refine tri_block ?_
                  refine tri_lstM 21 rfl (fun hl5 => ?_)
                  refine tri_loop (ι := { p : (List Rec) × Nat // p0.l.drop p.2 = p.1 ∧ i_ZoneOk_l5 p0 v2_0 v2_1 e2 (i_ZoneOk_l2 p0 rs2) p.1 p.2 = some r0 }) (fun p => inv_i_ZoneOk_5 p0 v2_0 v2_1 e2 p.1.2) (fun p => p.1.1.length) ⟨(p0.l, 0), rfl, h⟩ ?_ ?_
                  · skip
                    refine entX [((1, 0), ⟨26, 2, [[.sc (.string p0.apex), .lst 6 (List.map recV p0.l)]], false, true⟩, some (1, 0)), ((5, 0), ⟨39, 6, [[.sc (.string e2.name), .sc (.int .i64 e2.ty), .sc (.int .i64 e2.ttl), .sc (.int .i64 e2.n), .sc (.string e2.host), .sc (.string e2.text)]], false, true⟩, some (5, 0))] [] ⟨⟨rfl, _, rfl, rfl, rfl, rfl, id, rowsCv_one (.cons (.free rfl) (.cons (.free rfl) .nil)), rowsZ_one rfl⟩, ⟨rfl, _, rfl, rfl, rfl, rfl, id, rowsCv_one (.cons (.free rfl) (.cons (.free rfl) (.cons (.free rfl) (.cons (.free rfl) (.cons (.free rfl) (.cons (.free rfl) .nil)))))), rowsZ_one rfl⟩, trivial⟩ trivial rfl rfl ?_
                    exact ⟨(.ptr rfl), (.free rfl), (.ptr rfl), (.free rfl), (.free rfl), (.free rfl), (.free rfl), (.free rfl), (.free rfl), trivial⟩
                  · rintro ⟨⟨lrs5, v5_0⟩, hd5, h⟩
                    replace hd5 : p0.l.drop v5_0 = lrs5 := hd5
                    replace h : i_ZoneOk_l5 p0 v2_0 v2_1 e2 (i_ZoneOk_l2 p0 rs2) lrs5 v5_0 = some r0 := h
                    show Tri _ _ _ (inv_i_ZoneOk_5 p0 v2_0 v2_1 e2 v5_0)
                    refine tri_seq ?_
                    refine tri_region ?_
                    refine s_of (st_lss rfl rfl rfl) rfl rfl rfl rfl ?_
                    refine rt_nil ?_
                    refine tri_seq ?_
                    refine tri_cond rfl (fun c4 => ?_) (fun c4 => ?_)
                    · refine drop_elim hd5 c4 fun e5 rs5 he hx5 hn5 => ?_
                      subst he
                      rw [i_ZoneOk_l5] at h
                      refine tri_skip ?_
                      refine tri_seq ?_
                      refine tri_block ?_
                      refine tri_seq ?_
                      refine tri_region ?_
                      refine s_indexF (i := v5_0) rfl rfl rfl sl24 (get_ltM hx5) rfl rfl rfl ?_
                      refine s_loadFR rfl rfl (rowG hx5) ty39 rfl rfl rfl ?_
                      refine s_alloc rfl rfl rfl zc39 rfl rfl rfl rfl rfl ?_
                      refine s_storeB rfl rfl rfl ty39 rfl rfl rfl rfl rfl ?_
                      refine rt_nil ?_
                      refine tri_seq ?_
                      refine tri_seq ?_
                      refine tri_region ?_
                      refine s_fieldAddr rfl rfl fd39_0 rfl rfl rfl rfl ?_
                      refine s_load rfl rfl rfl rfl ty9 rfl (.inr rfl) (by conv => lhs; whnf) rfl rfl rfl ?_
                      refine s_fieldAddr rfl rfl fd39_0 rfl rfl rfl rfl ?_
                      refine s_load rfl rfl rfl rfl ty9 rfl (.inr rfl) (by conv => lhs; whnf) rfl rfl rfl ?_
                      refine s_of (st_neS rfl rfl rfl) rfl rfl rfl rfl ?_
                      refine rt_nil ?_
                      refine tri_cond rfl (fun c5 => ?_) (fun c5 => ?_)
                      · replace h := cond_t h c5
                        refine tri_exit ?_
                        refine tri_region ?_
                        refine s_inc (a := v5_0) (b := 1) rfl rfl rfl rfl (by have := get_lt hx5; have := hl5; omega) rfl rfl rfl ?_
                        refine s_mv (.inl rfl) (by conv => lhs; whnf) rfl rfl rfl ?_
                        refine rt_nil ?_
                        refine Exists.intro ⟨(rs5, (v5_0 + 1)), hn5, h⟩ (And.intro (Nat.lt_succ_self _) ?_)
                        refine entX [((1, 0), ⟨26, 2, [[.sc (.string p0.apex), .lst 6 (List.map recV p0.l)]], false, true⟩, some (1, 0)), ((5, 0), ⟨39, 6, [[.sc (.string e2.name), .sc (.int .i64 e2.ty), .sc (.int .i64 e2.ttl), .sc (.int .i64 e2.n), .sc (.string e2.host), .sc (.string e2.text)]], false, true⟩, some (5, 0))] [] ⟨⟨rfl, _, rfl, rfl, rfl, rfl, id, rowsCv_one (.cons (.free rfl) (.cons (.free rfl) .nil)), rowsZ_one rfl⟩, ⟨rfl, _, rfl, rfl, rfl, rfl, id, rowsCv_one (.cons (.free rfl) (.cons (.free rfl) (.cons (.free rfl) (.cons (.free rfl) (.cons (.free rfl) (.cons (.free rfl) .nil)))))), rowsZ_one rfl⟩, trivial⟩ trivial rfl rfl ?_
                        exact ⟨(.ptr rfl), (.free rfl), (.ptr rfl), (.free rfl), (.free rfl), (.free rfl), (.free rfl), (.free rfl), (.free rfl), trivial⟩
                      · replace h := cond_f h c5
                        refine tri_skip ?_
                        refine tri_cutI (ι := { p : Bool // i_ZoneOk_j6 v5_0 (i_ZoneOk_l5 p0 v2_0 v2_1 e2 (i_ZoneOk_l2 p0 rs2) rs5) p = some r0 }) (fun p => inv_i_ZoneOk_6 p0 v2_0 v2_1 e2 v5_0 p.1) ?_ ?_
                        · skip
                          refine tri_region ?_
                          refine s_fieldAddr rfl rfl fd39_1 rfl rfl rfl rfl ?_
                          refine s_load rfl rfl rfl rfl ty3 rfl (.inr rfl) (by conv => lhs; whnf) rfl rfl rfl ?_
                          refine s_fieldAddr rfl rfl fd39_1 rfl rfl rfl rfl ?_
                          refine s_load rfl rfl rfl rfl ty3 rfl (.inr rfl) (by conv => lhs; whnf) rfl rfl rfl ?_
                          refine s_of (st_eqI rfl rfl rfl) rfl rfl rfl rfl ?_
                          refine s_mv (.inl rfl) (by conv => lhs; whnf) rfl rfl rfl ?_
                          refine s_split (t := 66) rfl (fun b6 => ?_) (fun b6 => ?_)
                          · replace h := cond_t h b6
                            refine s_fieldAddr rfl rfl fd39_2 rfl rfl rfl rfl ?_
                            refine s_load rfl rfl rfl rfl ty3 rfl (.inr rfl) (by conv => lhs; whnf) rfl rfl rfl ?_
                            refine s_fieldAddr rfl rfl fd39_2 rfl rfl rfl rfl ?_
                            refine s_load rfl rfl rfl rfl ty3 rfl (.inr rfl) (by conv => lhs; whnf) rfl rfl rfl ?_
                            refine s_of (st_neI rfl rfl rfl) rfl rfl rfl rfl ?_
                            refine s_pickT rfl rfl (by conv => lhs; whnf) rfl rfl rfl ?_
                            refine s_mv (.inl rfl) (by conv => lhs; whnf) rfl rfl rfl ?_
                            refine s_split (t := 73) rfl (fun b7 => ?_) (fun b7 => ?_)
                            · replace h := cond_t h b7
                              refine s_skip rfl rfl rfl ?_
                              refine s_skip rfl rfl rfl ?_
                              refine s_skip rfl rfl rfl ?_
                              refine s_skip rfl rfl rfl ?_
                              refine s_skip rfl rfl rfl ?_
                              refine s_skip rfl rfl rfl ?_
                              refine s_skip rfl rfl rfl ?_
                              refine s_skip rfl rfl rfl ?_
                              refine s_pickT rfl rfl (v := .sc (.bool true)) rfl rfl rfl rfl ?_
                              refine rt_nil ?_
                              refine Exists.intro ⟨true, h⟩ ?_
                              refine entX [((1, 0), ⟨26, 2, [[.sc (.string p0.apex), .lst 6 (List.map recV p0.l)]], false, true⟩, some (1, 0)), ((5, 0), ⟨39, 6, [[.sc (.string e2.name), .sc (.int .i64 e2.ty), .sc (.int .i64 e2.ttl), .sc (.int .i64 e2.n), .sc (.string e2.host), .sc (.string e2.text)]], false, true⟩, some (5, 0))] [] ⟨⟨rfl, _, rfl, rfl, rfl, rfl, id, rowsCv_one (.cons (.free rfl) (.cons (.free rfl) .nil)), rowsZ_one rfl⟩, ⟨rfl, _, rfl, rfl, rfl, rfl, id, rowsCv_one (.cons (.free rfl) (.cons (.free rfl) (.cons (.free rfl) (.cons (.free rfl) (.cons (.free rfl) (.cons (.free rfl) .nil)))))), rowsZ_one rfl⟩, trivial⟩ trivial rfl rfl ?_
                              exact ⟨(.ptr rfl), (.free rfl), (.ptr rfl), (.free rfl), (.free rfl), (.free rfl), (.free rfl), (.free rfl), (.free rfl), (.free rfl), trivial⟩
                            · replace h := cond_f h b7
                              refine s_fieldAddr rfl rfl fd39_1 rfl rfl rfl rfl ?_
                              refine s_load rfl rfl rfl rfl ty3 rfl (.inr rfl) (by conv => lhs; whnf) rfl rfl rfl ?_
                              refine s_of (st_eqI rfl rfl rfl) rfl rfl rfl rfl ?_
                              refine s_mv (.inl rfl) (by conv => lhs; whnf) rfl rfl rfl ?_
                              refine s_split (t := 77) rfl (fun b8 => ?_) (fun b8 => ?_)
                              · replace h := cond_t h b8
                                refine s_loadR rfl rfl rfl rfl ty39 rfl rfl rfl ?_
                                refine s_loadR rfl rfl rfl rfl ty39 rfl rfl rfl ?_
                                refine s_neStruct (r' := (decide (e5.name = e2.name) && (decide (e5.ty = e2.ty) && (decide (e5.ttl = e2.ttl) && (decide (e5.n = e2.n) && (decide (e5.host = e2.host) && (decide (e5.text = e2.text) && true))))))) rfl rfl rfl fk39 rfl rfl rfl rfl rfl ?_
                                refine s_pickT rfl rfl (by conv => lhs; whnf) rfl rfl rfl ?_
                                refine s_pickF rfl rfl (by conv => lhs; whnf) rfl rfl rfl ?_
                                refine rt_nil ?_
                                refine Exists.intro ⟨!(decide (e5.name = e2.name) && (decide (e5.ty = e2.ty) && (decide (e5.ttl = e2.ttl) && (decide (e5.n = e2.n) && (decide (e5.host = e2.host) && (decide (e5.text = e2.text) && true)))))), h⟩ ?_
                                refine entX [((1, 0), ⟨26, 2, [[.sc (.string p0.apex), .lst 6 (List.map recV p0.l)]], false, true⟩, some (1, 0)), ((5, 0), ⟨39, 6, [[.sc (.string e2.name), .sc (.int .i64 e2.ty), .sc (.int .i64 e2.ttl), .sc (.int .i64 e2.n), .sc (.string e2.host), .sc (.string e2.text)]], false, true⟩, some (5, 0))] [] ⟨⟨rfl, _, rfl, rfl, rfl, rfl, id, rowsCv_one (.cons (.free rfl) (.cons (.free rfl) .nil)), rowsZ_one rfl⟩, ⟨rfl, _, rfl, rfl, rfl, rfl, id, rowsCv_one (.cons (.free rfl) (.cons (.free rfl) (.cons (.free rfl) (.cons (.free rfl) (.cons (.free rfl) (.cons (.free rfl) .nil)))))), rowsZ_one rfl⟩, trivial⟩ trivial rfl rfl ?_
                                exact ⟨(.ptr rfl), (.free rfl), (.ptr rfl), (.free rfl), (.free rfl), (.free rfl), (.free rfl), (.free rfl), (.free rfl), (.free rfl), trivial⟩
                              · replace h := cond_f h b8
                                refine s_skip rfl rfl rfl ?_
                                refine s_skip rfl rfl rfl ?_
                                refine s_skip rfl rfl rfl ?_
                                refine s_pickF rfl rfl (v := .sc (.bool false)) rfl rfl rfl rfl ?_
                                refine s_pickF rfl rfl (by conv => lhs; whnf) rfl rfl rfl ?_
                                refine rt_nil ?_
                                refine Exists.intro ⟨false, h⟩ ?_
                                refine entX [((1, 0), ⟨26, 2, [[.sc (.string p0.apex), .lst 6 (List.map recV p0.l)]], false, true⟩, some (1, 0)), ((5, 0), ⟨39, 6, [[.sc (.string e2.name), .sc (.int .i64 e2.ty), .sc (.int .i64 e2.ttl), .sc (.int .i64 e2.n), .sc (.string e2.host), .sc (.string e2.text)]], false, true⟩, some (5, 0))] [] ⟨⟨rfl, _, rfl, rfl, rfl, rfl, id, rowsCv_one (.cons (.free rfl) (.cons (.free rfl) .nil)), rowsZ_one rfl⟩, ⟨rfl, _, rfl, rfl, rfl, rfl, id, rowsCv_one (.cons (.free rfl) (.cons (.free rfl) (.cons (.free rfl) (.cons (.free rfl) (.cons (.free rfl) (.cons (.free rfl) .nil)))))), rowsZ_one rfl⟩, trivial⟩ trivial rfl rfl ?_
                                exact ⟨(.ptr rfl), (.free rfl), (.ptr rfl), (.free rfl), (.free rfl), (.free rfl), (.free rfl), (.free rfl), (.free rfl), (.free rfl), trivial⟩
                          · replace h := cond_f h b6
                            refine s_skip rfl rfl rfl ?_
                            refine s_skip rfl rfl rfl ?_
                            refine s_skip rfl rfl rfl ?_
                            refine s_skip rfl rfl rfl ?_
                            refine s_skip rfl rfl rfl ?_
                            refine s_pickF rfl rfl (v := .sc (.bool false)) rfl rfl rfl rfl ?_
                            refine s_mv (.inl rfl) (by conv => lhs; whnf) rfl rfl rfl ?_
                            refine s_fieldAddr rfl rfl fd39_1 rfl rfl rfl rfl ?_
                            refine s_load rfl rfl rfl rfl ty3 rfl (.inr rfl) (by conv => lhs; whnf) rfl rfl rfl ?_
                            refine s_of (st_eqI rfl rfl rfl) rfl rfl rfl rfl ?_
                            refine s_mv (.inl rfl) (by conv => lhs; whnf) rfl rfl rfl ?_
                            refine s_split (t := 77) rfl (fun b9 => ?_) (fun b9 => ?_)
                            · replace h := cond_t h b9
                              refine s_loadR rfl rfl rfl rfl ty39 rfl rfl rfl ?_
                              refine s_loadR rfl rfl rfl rfl ty39 rfl rfl rfl ?_
                              refine s_neStruct (r' := (decide (e5.name = e2.name) && (decide (e5.ty = e2.ty) && (decide (e5.ttl = e2.ttl) && (decide (e5.n = e2.n) && (decide (e5.host = e2.host) && (decide (e5.text = e2.text) && true))))))) rfl rfl rfl fk39 rfl rfl rfl rfl rfl ?_
                              refine s_pickT rfl rfl (by conv => lhs; whnf) rfl rfl rfl ?_
                              refine s_pickF rfl rfl (by conv => lhs; whnf) rfl rfl rfl ?_
                              refine rt_nil ?_
                              refine Exists.intro ⟨!(decide (e5.name = e2.name) && (decide (e5.ty = e2.ty) && (decide (e5.ttl = e2.ttl) && (decide (e5.n = e2.n) && (decide (e5.host = e2.host) && (decide (e5.text = e2.text) && true)))))), h⟩ ?_
                              refine entX [((1, 0), ⟨26, 2, [[.sc (.string p0.apex), .lst 6 (List.map recV p0.l)]], false, true⟩, some (1, 0)), ((5, 0), ⟨39, 6, [[.sc (.string e2.name), .sc (.int .i64 e2.ty), .sc (.int .i64 e2.ttl), .sc (.int .i64 e2.n), .sc (.string e2.host), .sc (.string e2.text)]], false, true⟩, some (5, 0))] [] ⟨⟨rfl, _, rfl, rfl, rfl, rfl, id, rowsCv_one (.cons (.free rfl) (.cons (.free rfl) .nil)), rowsZ_one rfl⟩, ⟨rfl, _, rfl, rfl, rfl, rfl, id, rowsCv_one (.cons (.free rfl) (.cons (.free rfl) (.cons (.free rfl) (.cons (.free rfl) (.cons (.free rfl) (.cons (.free rfl) .nil)))))), rowsZ_one rfl⟩, trivial⟩ trivial rfl rfl ?_
                              exact ⟨(.ptr rfl), (.free rfl), (.ptr rfl), (.free rfl), (.free rfl), (.free rfl), (.free rfl), (.free rfl), (.free rfl), (.free rfl), trivial⟩
                            · replace h := cond_f h b9
                              refine s_skip rfl rfl rfl ?_
                              refine s_skip rfl rfl rfl ?_
                              refine s_skip rfl rfl rfl ?_
                              refine s_pickF rfl rfl (v := .sc (.bool false)) rfl rfl rfl rfl ?_
                              refine s_pickF rfl rfl (by conv => lhs; whnf) rfl rfl rfl ?_
                              refine rt_nil ?_
                              refine Exists.intro ⟨false, h⟩ ?_
                              refine entX [((1, 0), ⟨26, 2, [[.sc (.string p0.apex), .lst 6 (List.map recV p0.l)]], false, true⟩, some (1, 0)), ((5, 0), ⟨39, 6, [[.sc (.string e2.name), .sc (.int .i64 e2.ty), .sc (.int .i64 e2.ttl), .sc (.int .i64 e2.n), .sc (.string e2.host), .sc (.string e2.text)]], false, true⟩, some (5, 0))] [] ⟨⟨rfl, _, rfl, rfl, rfl, rfl, id, rowsCv_one (.cons (.free rfl) (.cons (.free rfl) .nil)), rowsZ_one rfl⟩, ⟨rfl, _, rfl, rfl, rfl, rfl, id, rowsCv_one (.cons (.free rfl) (.cons (.free rfl) (.cons (.free rfl) (.cons (.free rfl) (.cons (.free rfl) (.cons (.free rfl) .nil)))))), rowsZ_one rfl⟩, trivial⟩ trivial rfl rfl ?_
                              exact ⟨(.ptr rfl), (.free rfl), (.ptr rfl), (.free rfl), (.free rfl), (.free rfl), (.free rfl), (.free rfl), (.free rfl), (.free rfl), trivial⟩
                        · rintro ⟨j6_0, h⟩
                          replace h : i_ZoneOk_j6 v5_0 (i_ZoneOk_l5 p0 v2_0 v2_1 e2 (i_ZoneOk_l2 p0 rs2) rs5) j6_0 = some r0 := h
                          unfold i_ZoneOk_j6 at h
                          show Tri _ _ _ (inv_i_ZoneOk_6 p0 v2_0 v2_1 e2 v5_0 j6_0)
                          refine tri_cond rfl (fun c6 => ?_) (fun c6 => ?_)
                          · replace h := cond_t h c6
                            refine tri_seq ?_
                            refine tri_region ?_
                            refine s_mv (.inr rfl) (v := .sc (.bool false)) rfl rfl rfl rfl ?_
                            refine rt_nil ?_
                            refine tri_ret ?_
                            have e0 := (some1 h); subst e0
                            exact endY [] [] (rvC (resTmp rfl) rvN) trivial trivial rfl rfl rfl rfl (.free rfl)
                          · replace h := cond_f h c6
                            refine tri_skip ?_
                            refine tri_region ?_
                            refine s_inc (a := v5_0) (b := 1) rfl rfl rfl rfl (by have := get_lt hx5; have := hl5; omega) rfl rfl rfl ?_
                            refine s_mv (.inl rfl) (by conv => lhs; whnf) rfl rfl rfl ?_
                            refine rt_nil ?_
                            refine Exists.intro ⟨(rs5, (v5_0 + 1)), hn5, h⟩ (And.intro (Nat.lt_succ_self _) ?_)
                            refine entX [((1, 0), ⟨26, 2, [[.sc (.string p0.apex), .lst 6 (List.map recV p0.l)]], false, true⟩, some (1, 0)), ((5, 0), ⟨39, 6, [[.sc (.string e2.name), .sc (.int .i64 e2.ty), .sc (.int .i64 e2.ttl), .sc (.int .i64 e2.n), .sc (.string e2.host), .sc (.string e2.text)]], false, true⟩, some (5, 0))] [] ⟨⟨rfl, _, rfl, rfl, rfl, rfl, id, rowsCv_one (.cons (.free rfl) (.cons (.free rfl) .nil)), rowsZ_one rfl⟩, ⟨rfl, _, rfl, rfl, rfl, rfl, id, rowsCv_one (.cons (.free rfl) (.cons (.free rfl) (.cons (.free rfl) (.cons (.free rfl) (.cons (.free rfl) (.cons (.free rfl) .nil)))))), rowsZ_one rfl⟩, trivial⟩ trivial rfl rfl ?_
                            exact ⟨(.ptr rfl), (.free rfl), (.ptr rfl), (.free rfl), (.free rfl), (.free rfl), (.free rfl), (.free rfl), (.free rfl), trivial⟩
                    · have he := drop_f hd5 c4; subst he
                      rw [i_ZoneOk_l5] at h
                      refine tri_exit ?_
                      refine Exists.intro ⟨(), h⟩ ?_
                      refine entX [((1, 0), ⟨26, 2, [[.sc (.string p0.apex), .lst 6 (List.map recV p0.l)]], false, true⟩, some (1, 0)), ((5, 0), ⟨39, 6, [[.sc (.string e2.name), .sc (.int .i64 e2.ty), .sc (.int .i64 e2.ttl), .sc (.int .i64 e2.n), .sc (.string e2.host), .sc (.string e2.text)]], false, true⟩, some (5, 0))] [] ⟨⟨rfl, _, rfl, rfl, rfl, rfl, id, rowsCv_one (.cons (.free rfl) (.cons (.free rfl) .nil)), rowsZ_one rfl⟩, ⟨rfl, _, rfl, rfl, rfl, rfl, id, rowsCv_one (.cons (.free rfl) (.cons (.free rfl) (.cons (.free rfl) (.cons (.free rfl) (.cons (.free rfl) (.cons (.free rfl) .nil)))))), rowsZ_one rfl⟩, trivial⟩ trivial rfl rfl ?_
                      exact ⟨(.ptr rfl), (.free rfl), (.ptr rfl), (.free rfl), (.free rfl), (.free rfl), trivial⟩
                · rintro ⟨u, h⟩
                  replace h : i_ZoneOk_j4 p0 v2_0 v2_1 e2 (i_ZoneOk_l2 p0 rs2) = some r0 := h
                  unfold i_ZoneOk_j4 at h
                  show Tri _ _ _ (inv_i_ZoneOk_4 p0 v2_0 v2_1 e2)
                  refine tri_cutI (ι := { p : Int // i_ZoneOk_j7 p0 v2_1 e2 (i_ZoneOk_l2 p0 rs2) p = some r0 }) (fun p => inv_i_ZoneOk_7 p0 v2_1 e2 p.1) ?_ ?_
                  · skip
                    refine tri_block ?_
                    refine tri_cutI (ι := { p : Bool // i_ZoneOk_j8 p0 v2_0 v2_1 e2 (i_ZoneOk_l2 p0 rs2) p = some r0 }) (fun p => inv_i_ZoneOk_8 p0 v2_0 v2_1 e2 p.1) ?_ ?_
                    · skip
                      refine tri_region ?_
                      refine s_fieldAddr rfl rfl fd39_1 rfl rfl rfl rfl ?_
                      refine s_load rfl rfl rfl rfl ty3 rfl (.inr rfl) (by conv => lhs; whnf) rfl rfl rfl ?_
                      refine s_of (st_eqI rfl rfl rfl) rfl rfl rfl rfl ?_
                      refine s_mv (.inl rfl) (by conv => lhs; whnf) rfl rfl rfl ?_
                      refine s_split (t := 88) rfl (fun b4 => ?_) (fun b4 => ?_)
                      · replace h := cond_t h b4
                        refine s_fieldAddr rfl rfl fd39_0 rfl rfl rfl rfl ?_
                        refine s_load rfl rfl rfl rfl ty9 rfl (.inr rfl) (by conv => lhs; whnf) rfl rfl rfl ?_
                        refine s_fieldAddr rfl rfl fd26_0 rfl rfl rfl rfl ?_
                        refine s_load rfl rfl rfl rfl ty9 rfl (.inr rfl) (by conv => lhs; whnf) rfl rfl rfl ?_
                        refine s_of (st_neS rfl rfl rfl) rfl rfl rfl rfl ?_
                        refine s_pickT rfl rfl (by conv => lhs; whnf) rfl rfl rfl ?_
                        refine s_mv (.inl rfl) (by conv => lhs; whnf) rfl rfl rfl ?_
                        refine s_split (t := 95) rfl (fun b5 => ?_) (fun b5 => ?_)
                        · replace h := cond_t h b5
                          refine s_skip rfl rfl rfl ?_
                          refine s_skip rfl rfl rfl ?_
                          refine s_skip rfl rfl rfl ?_
                          refine s_skip rfl rfl rfl ?_
                          refine s_skip rfl rfl rfl ?_
                          refine s_skip rfl rfl rfl ?_
                          refine s_skip rfl rfl rfl ?_
                          refine s_skip rfl rfl rfl ?_
                          refine s_skip rfl rfl rfl ?_
                          refine s_skip rfl rfl rfl ?_
                          refine s_pickT rfl rfl (v := .sc (.bool true)) rfl rfl rfl rfl ?_
                          refine s_mv (.inr rfl) (by conv => lhs; whnf) rfl rfl rfl ?_
                          refine rt_nil ?_
                          refine Exists.intro ⟨true, h⟩ ?_
                          refine entX [((1, 0), ⟨26, 2, [[.sc (.string p0.apex), .lst 6 (List.map recV p0.l)]], false, true⟩, some (1, 0)), ((5, 0), ⟨39, 6, [[.sc (.string e2.name), .sc (.int .i64 e2.ty), .sc (.int .i64 e2.ttl), .sc (.int .i64 e2.n), .sc (.string e2.host), .sc (.string e2.text)]], false, true⟩, some (5, 0))] [] ⟨⟨rfl, _, rfl, rfl, rfl, rfl, id, rowsCv_one (.cons (.free rfl) (.cons (.free rfl) .nil)), rowsZ_one rfl⟩, ⟨rfl, _, rfl, rfl, rfl, rfl, id, rowsCv_one (.cons (.free rfl) (.cons (.free rfl) (.cons (.free rfl) (.cons (.free rfl) (.cons (.free rfl) (.cons (.free rfl) .nil)))))), rowsZ_one rfl⟩, trivial⟩ trivial rfl rfl ?_
                          exact ⟨(.ptr rfl), (.free rfl), (.ptr rfl), (.free rfl), (.free rfl), (.free rfl), (.free rfl), trivial⟩
                        · replace h := cond_f h b5
                          refine s_fieldAddr rfl rfl fd39_1 rfl rfl rfl rfl ?_
                          refine s_load rfl rfl rfl rfl ty3 rfl (.inr rfl) (by conv => lhs; whnf) rfl rfl rfl ?_
                          refine s_of (st_eqI rfl rfl rfl) rfl rfl rfl rfl ?_
                          refine s_mv (.inl rfl) (by conv => lhs; whnf) rfl rfl rfl ?_
                          refine s_split (t := 99) rfl (fun b6 => ?_) (fun b6 => ?_)
                          · replace h := cond_t h b6
                            refine s_fieldAddr rfl rfl fd39_0 rfl rfl rfl rfl ?_
                            refine s_load rfl rfl rfl rfl ty9 rfl (.inr rfl) (by conv => lhs; whnf) rfl rfl rfl ?_
                            refine s_fieldAddr rfl rfl fd26_0 rfl rfl rfl rfl ?_
                            refine s_load rfl rfl rfl rfl ty9 rfl (.inr rfl) (by conv => lhs; whnf) rfl rfl rfl ?_
                            refine s_of (st_eqS rfl rfl rfl) rfl rfl rfl rfl ?_
                            refine s_pickT rfl rfl (by conv => lhs; whnf) rfl rfl rfl ?_
                            refine s_pickF rfl rfl (by conv => lhs; whnf) rfl rfl rfl ?_
                            refine s_mv (.inr rfl) (by conv => lhs; whnf) rfl rfl rfl ?_
                            refine rt_nil ?_
                            refine Exists.intro ⟨decide (e2.name = p0.apex), h⟩ ?_
                            refine entX [((1, 0), ⟨26, 2, [[.sc (.string p0.apex), .lst 6 (List.map recV p0.l)]], false, true⟩, some (1, 0)), ((5, 0), ⟨39, 6, [[.sc (.string e2.name), .sc (.int .i64 e2.ty), .sc (.int .i64 e2.ttl), .sc (.int .i64 e2.n), .sc (.string e2.host), .sc (.string e2.text)]], false, true⟩, some (5, 0))] [] ⟨⟨rfl, _, rfl, rfl, rfl, rfl, id, rowsCv_one (.cons (.free rfl) (.cons (.free rfl) .nil)), rowsZ_one rfl⟩, ⟨rfl, _, rfl, rfl, rfl, rfl, id, rowsCv_one (.cons (.free rfl) (.cons (.free rfl) (.cons (.free rfl) (.cons (.free rfl) (.cons (.free rfl) (.cons (.free rfl) .nil)))))), rowsZ_one rfl⟩, trivial⟩ trivial rfl rfl ?_
                            exact ⟨(.ptr rfl), (.free rfl), (.ptr rfl), (.free rfl), (.free rfl), (.free rfl), (.free rfl), trivial⟩
                          · replace h := cond_f h b6
                            refine s_skip rfl rfl rfl ?_
                            refine s_skip rfl rfl rfl ?_
                            refine s_skip rfl rfl rfl ?_
                            refine s_skip rfl rfl rfl ?_
                            refine s_skip rfl rfl rfl ?_
                            refine s_pickF rfl rfl (v := .sc (.bool false)) rfl rfl rfl rfl ?_
                            refine s_pickF rfl rfl (by conv => lhs; whnf) rfl rfl rfl ?_
                            refine s_mv (.inr rfl) (by conv => lhs; whnf) rfl rfl rfl ?_
                            refine rt_nil ?_
                            refine Exists.intro ⟨false, h⟩ ?_
                            refine entX [((1, 0), ⟨26, 2, [[.sc (.string p0.apex), .lst 6 (List.map recV p0.l)]], false, true⟩, some (1, 0)), ((5, 0), ⟨39, 6, [[.sc (.string e2.name), .sc (.int .i64 e2.ty), .sc (.int .i64 e2.ttl), .sc (.int .i64 e2.n), .sc (.string e2.host), .sc (.string e2.text)]], false, true⟩, some (5, 0))] [] ⟨⟨rfl, _, rfl, rfl, rfl, rfl, id, rowsCv_one (.cons (.free rfl) (.cons (.free rfl) .nil)), rowsZ_one rfl⟩, ⟨rfl, _, rfl, rfl, rfl, rfl, id, rowsCv_one (.cons (.free rfl) (.cons (.free rfl) (.cons (.free rfl) (.cons (.free rfl) (.cons (.free rfl) (.cons (.free rfl) .nil)))))), rowsZ_one rfl⟩, trivial⟩ trivial rfl rfl ?_
                            exact ⟨(.ptr rfl), (.free rfl), (.ptr rfl), (.free rfl), (.free rfl), (.free rfl), (.free rfl), trivial⟩
                      · replace h := cond_f h b4
                        refine s_skip rfl rfl rfl ?_
                        refine s_skip rfl rfl rfl ?_
                        refine s_skip rfl rfl rfl ?_
                        refine s_skip rfl rfl rfl ?_
                        refine s_skip rfl rfl rfl ?_
                        refine s_pickF rfl rfl (v := .sc (.bool false)) rfl rfl rfl rfl ?_
                        refine s_mv (.inl rfl) (by conv => lhs; whnf) rfl rfl rfl ?_
                        refine s_fieldAddr rfl rfl fd39_1 rfl rfl rfl rfl ?_
                        refine s_load rfl rfl rfl rfl ty3 rfl (.inr rfl) (by conv => lhs; whnf) rfl rfl rfl ?_
                        refine s_of (st_eqI rfl rfl rfl) rfl rfl rfl rfl ?_
                        refine s_mv (.inl rfl) (by conv => lhs; whnf) rfl rfl rfl ?_
                        refine s_split (t := 99) rfl (fun b7 => ?_) (fun b7 => ?_)
                        · replace h := cond_t h b7
                          refine s_fieldAddr rfl rfl fd39_0 rfl rfl rfl rfl ?_
                          refine s_load rfl rfl rfl rfl ty9 rfl (.inr rfl) (by conv => lhs; whnf) rfl rfl rfl ?_
                          refine s_fieldAddr rfl rfl fd26_0 rfl rfl rfl rfl ?_
                          refine s_load rfl rfl rfl rfl ty9 rfl (.inr rfl) (by conv => lhs; whnf) rfl rfl rfl ?_
                          refine s_of (st_eqS rfl rfl rfl) rfl rfl rfl rfl ?_
                          refine s_pickT rfl rfl (by conv => lhs; whnf) rfl rfl rfl ?_
                          refine s_pickF rfl rfl (by conv => lhs; whnf) rfl rfl rfl ?_
                          refine s_mv (.inr rfl) (by conv => lhs; whnf) rfl rfl rfl ?_
                          refine rt_nil ?_
                          refine Exists.intro ⟨decide (e2.name = p0.apex), h⟩ ?_
                          refine entX [((1, 0), ⟨26, 2, [[.sc (.string p0.apex), .lst 6 (List.map recV p0.l)]], false, true⟩, some (1, 0)), ((5, 0), ⟨39, 6, [[.sc (.string e2.name), .sc (.int .i64 e2.ty), .sc (.int .i64 e2.ttl), .sc (.int .i64 e2.n), .sc (.string e2.host), .sc (.string e2.text)]], false, true⟩, some (5, 0))] [] ⟨⟨rfl, _, rfl, rfl, rfl, rfl, id, rowsCv_one (.cons (.free rfl) (.cons (.free rfl) .nil)), rowsZ_one rfl⟩, ⟨rfl, _, rfl, rfl, rfl, rfl, id, rowsCv_one (.cons (.free rfl) (.cons (.free rfl) (.cons (.free rfl) (.cons (.free rfl) (.cons (.free rfl) (.cons (.free rfl) .nil)))))), rowsZ_one rfl⟩, trivial⟩ trivial rfl rfl ?_
                          exact ⟨(.ptr rfl), (.free rfl), (.ptr rfl), (.free rfl), (.free rfl), (.free rfl), (.free rfl), trivial⟩
                        · replace h := cond_f h b7
                          refine s_skip rfl rfl rfl ?_
                          refine s_skip rfl rfl rfl ?_
                          refine s_skip rfl rfl rfl ?_
                          refine s_skip rfl rfl rfl ?_
                          refine s_skip rfl rfl rfl ?_
                          refine s_pickF rfl rfl (v := .sc (.bool false)) rfl rfl rfl rfl ?_
                          refine s_pickF rfl rfl (by conv => lhs; whnf) rfl rfl rfl ?_
                          refine s_mv (.inr rfl) (by conv => lhs; whnf) rfl rfl rfl ?_
                          refine rt_nil ?_
                          refine Exists.intro ⟨false, h⟩ ?_
                          refine entX [((1, 0), ⟨26, 2, [[.sc (.string p0.apex), .lst 6 (List.map recV p0.l)]], false, true⟩, some (1, 0)), ((5, 0), ⟨39, 6, [[.sc (.string e2.name), .sc (.int .i64 e2.ty), .sc (.int .i64 e2.ttl), .sc (.int .i64 e2.n), .sc (.string e2.host), .sc (.string e2.text)]], false, true⟩, some (5, 0))] [] ⟨⟨rfl, _, rfl, rfl, rfl, rfl, id, rowsCv_one (.cons (.free rfl) (.cons (.free rfl) .nil)), rowsZ_one rfl⟩, ⟨rfl, _, rfl, rfl, rfl, rfl, id, rowsCv_one (.cons (.free rfl) (.cons (.free rfl) (.cons (.free rfl) (.cons (.free rfl) (.cons (.free rfl) (.cons (.free rfl) .nil)))))), rowsZ_one rfl⟩, trivial⟩ trivial rfl rfl ?_
                          exact ⟨(.ptr rfl), (.free rfl), (.ptr rfl), (.free rfl), (.free rfl), (.free rfl), (.free rfl), trivial⟩
                    · rintro ⟨j8_0, h⟩
                      replace h : i_ZoneOk_j8 p0 v2_0 v2_1 e2 (i_ZoneOk_l2 p0 rs2) j8_0 = some r0 := h
                      unfold i_ZoneOk_j8 at h
                      show Tri _ _ _ (inv_i_ZoneOk_8 p0 v2_0 v2_1 e2 j8_0)
                      refine tri_cond rfl (fun c4 => ?_) (fun c4 => ?_)
                      · replace h := cond_t h c4
                        refine tri_seq ?_
                        refine tri_region ?_
                        refine s_mv (.inr rfl) (v := .sc (.bool false)) rfl rfl rfl rfl ?_
                        refine rt_nil ?_
                        refine tri_ret ?_
                        have e0 := (some1 h); subst e0
                        exact endY [] [] (rvC (resTmp rfl) rvN) trivial trivial rfl rfl rfl rfl (.free rfl)
                      · replace h := cond_f h c4
                        refine tri_seq ?_
                        refine tri_region ?_
                        refine s_fieldAddr rfl rfl fd39_1 rfl rfl rfl rfl ?_
                        refine s_load rfl rfl rfl rfl ty3 rfl (.inr rfl) (by conv => lhs; whnf) rfl rfl rfl ?_
                        refine s_of (st_eqI rfl rfl rfl) rfl rfl rfl rfl ?_
                        refine s_mv (.inr rfl) (by conv => lhs; whnf) rfl rfl rfl ?_
                        refine rt_nil ?_
                        refine tri_cond rfl (fun c5 => ?_) (fun c5 => ?_)
                        · replace h := cond_t h c5
                          refine tri_region ?_
                          refine s_mv (.inl rfl) (by conv => lhs; whnf) rfl rfl rfl ?_
                          refine grd_elim h fun g6 h => ?_
                          refine s_addI rfl rfl rfl rfl g6 rfl rfl rfl ?_
                          refine s_mv (.inr rfl) (by conv => lhs; whnf) rfl rfl rfl ?_
                          refine rt_nil ?_
                          refine Exists.intro ⟨v2_0 + 1, h⟩ ?_
                          refine entX [((1, 0), ⟨26, 2, [[.sc (.string p0.apex), .lst 6 (List.map recV p0.l)]], false, true⟩, some (1, 0)), ((5, 0), ⟨39, 6, [[.sc (.string e2.name), .sc (.int .i64 e2.ty), .sc (.int .i64 e2.ttl), .sc (.int .i64 e2.n), .sc (.string e2.host), .sc (.string e2.text)]], false, true⟩, some (5, 0))] [] ⟨⟨rfl, _, rfl, rfl, rfl, rfl, id, rowsCv_one (.cons (.free rfl) (.cons (.free rfl) .nil)), rowsZ_one rfl⟩, ⟨rfl, _, rfl, rfl, rfl, rfl, id, rowsCv_one (.cons (.free rfl) (.cons (.free rfl) (.cons (.free rfl) (.cons (.free rfl) (.cons (.free rfl) (.cons (.free rfl) .nil)))))), rowsZ_one rfl⟩, trivial⟩ trivial rfl rfl ?_
                          exact ⟨(.ptr rfl), (.free rfl), (.ptr rfl), (.free rfl), (.free rfl), (.free rfl), trivial⟩
                        · replace h := cond_f h c5
                          refine tri_skip ?_
                          refine Exists.intro ⟨v2_0, h⟩ ?_
                          refine entX [((1, 0), ⟨26, 2, [[.sc (.string p0.apex), .lst 6 (List.map recV p0.l)]], false, true⟩, some (1, 0)), ((5, 0), ⟨39, 6, [[.sc (.string e2.name), .sc (.int .i64 e2.ty), .sc (.int .i64 e2.ttl), .sc (.int .i64 e2.n), .sc (.string e2.host), .sc (.string e2.text)]], false, true⟩, some (5, 0))] [] ⟨⟨rfl, _, rfl, rfl, rfl, rfl, id, rowsCv_one (.cons (.free rfl) (.cons (.free rfl) .nil)), rowsZ_one rfl⟩, ⟨rfl, _, rfl, rfl, rfl, rfl, id, rowsCv_one (.cons (.free rfl) (.cons (.free rfl) (.cons (.free rfl) (.cons (.free rfl) (.cons (.free rfl) (.cons (.free rfl) .nil)))))), rowsZ_one rfl⟩, trivial⟩ trivial rfl rfl ?_
                          exact ⟨(.ptr rfl), (.free rfl), (.ptr rfl), (.free rfl), (.free rfl), (.free rfl), trivial⟩
                  · rintro ⟨j7_0, h⟩
                    replace h : i_ZoneOk_j7 p0 v2_1 e2 (i_ZoneOk_l2 p0 rs2) j7_0 = some r0 := h
                    unfold i_ZoneOk_j7 at h
                    show Tri _ _ _ (inv_i_ZoneOk_7 p0 v2_1 e2 j7_0)
                    refine tri_seq ?_
                    refine tri_region ?_
                    refine s_loadR rfl rfl rfl rfl ty26 rfl rfl rfl ?_
                    refine bnd1_elim h fun x4 q5 h => ?_
                    refine s_callN (kb := []) (ns := []) (v := .ref (114, 0) 0 x4.length) rfl rfl cl14 (wi_CutsOf p0 x4 q5) rfl (.cons (relAgg rfl) .nil) trivial memNil .nil memNil rfl ⟨(allSc_map strV_sc), trivial⟩ memNil rfl (by first | (simp only [V.mat, V.mat1, V.mat0, matL, matT, List.length_map]; done) | (simp only [V.mat, V.mat1, V.mat0, matL, matT, List.length_map]; rfl)) rfl rfl rfl rfl ?_
                    refine s_len (m := x4.length) rfl sl33 rfl rfl rfl rfl ?_
                    refine s_mv (.inl rfl) (v := .sc (.int .i64 0)) rfl rfl rfl rfl ?_
                    refine rt_nil ?_
                    refine tri_block ?_
                    refine tri_ownM (114, 0) rfl (fun hl9 => ?_)
                    refine tri_loop (ι := { p : (List ByteArray) × Nat // x4.drop p.2 = p.1 ∧ i_ZoneOk_l9 v2_1 e2 j7_0 (i_ZoneOk_l2 p0 rs2) p.1 p.2 = some r0 }) (fun p => inv_i_ZoneOk_9 p0 v2_1 e2 j7_0 x4 p.1.2) (fun p => p.1.1.length) ⟨(x4, 0), rfl, h⟩ ?_ ?_
                    · skip
                      refine entX [((1, 0), ⟨26, 2, [[.sc (.string p0.apex), .lst 6 (List.map recV p0.l)]], false, true⟩, some (1, 0)), ((5, 0), ⟨39, 6, [[.sc (.string e2.name), .sc (.int .i64 e2.ty), .sc (.int .i64 e2.ttl), .sc (.int .i64 e2.n), .sc (.string e2.host), .sc (.string e2.text)]], false, true⟩, some (5, 0)), ((114, 0), ⟨9, 1, List.map strV x4, false, true⟩, some (114, 0))] [] ⟨⟨rfl, _, rfl, rfl, rfl, rfl, id, rowsCv_one (.cons (.free rfl) (.cons (.free rfl) .nil)), rowsZ_one rfl⟩, ⟨rfl, _, rfl, rfl, rfl, rfl, id, rowsCv_one (.cons (.free rfl) (.cons (.free rfl) (.cons (.free rfl) (.cons (.free rfl) (.cons (.free rfl) (.cons (.free rfl) .nil)))))), rowsZ_one rfl⟩, ⟨rfl, _, rfl, rfl, rfl, rfl, id, rowsCv_eq rfl (allFree_map strV_free), rowsZ_map strV_len⟩, trivial⟩ trivial rfl rfl ?_
                      exact ⟨(.ptr rfl), (.free rfl), (.ptr rfl), (.free rfl), (.free rfl), (.free rfl), (.ref rfl), (.free rfl), (.free rfl), trivial⟩
                    · rintro ⟨⟨lrs9, v9_0⟩, hd9, h⟩
                      replace hd9 : x4.drop v9_0 = lrs9 := hd9
                      replace h : i_ZoneOk_l9 v2_1 e2 j7_0 (i_ZoneOk_l2 p0 rs2) lrs9 v9_0 = some r0 := h
                      show Tri _ _ _ (inv_i_ZoneOk_9 p0 v2_1 e2 j7_0 x4 v9_0)
                      refine tri_seq ?_
                      refine tri_region ?_
                      refine s_of (st_lss rfl rfl rfl) rfl rfl rfl rfl ?_
                      refine rt_nil ?_
                      refine tri_seq ?_
                      refine tri_cond rfl (fun c6 => ?_) (fun c6 => ?_)
                      · refine drop_elim hd9 c6 fun e9 rs9 he hx9 hn9 => ?_
                        subst he
                        rw [i_ZoneOk_l9] at h
                        refine tri_skip ?_
                        refine tri_seq ?_
                        refine tri_block ?_
                        refine tri_seq ?_
                        refine tri_region ?_
                        refine s_index0 (i := v9_0) rfl rfl rfl rfl sl33 rfl (get_lt hx9) rfl rfl rfl ?_
                        refine s_load rfl rfl rfl (rowG hx9) ty9 rfl (.inr rfl) (by conv => lhs; whnf) rfl rfl rfl ?_
                        refine s_mv (.inr rfl) (by conv => lhs; whnf) rfl rfl rfl ?_
                        refine rt_nil ?_
                        refine tri_cutI (ι := { p : Bool // i_ZoneOk_j10 v9_0 (i_ZoneOk_l9 v2_1 e2 j7_0 (i_ZoneOk_l2 p0 rs2) rs9) p = some r0 }) (fun p => inv_i_ZoneOk_10 p0 v2_1 e2 j7_0 x4 v9_0 p.1) ?_ ?_
                        · skip
                          refine tri_region ?_
                          refine s_fieldAddr rfl rfl fd39_0 rfl rfl rfl rfl ?_
                          refine s_load rfl rfl rfl rfl ty9 rfl (.inr rfl) (by conv => lhs; whnf) rfl rfl rfl ?_
                          refine s_mv (.inl rfl) (by conv => lhs; whnf) rfl rfl rfl ?_
                          refine bnd1_elim h fun x7 q8 h => ?_
                          refine s_callN (kb := []) (ns := []) (v := .sc (.bool x7)) rfl rfl cl17 (wi_Under e2.name e9 x7 q8) rfl (.cons (.free rfl) (.cons (.free rfl) .nil)) trivial memNil .nil memNil rfl trivial memNil rfl rfl rfl rfl rfl rfl ?_
                          refine s_mv (.inl rfl) (by conv => lhs; whnf) rfl rfl rfl ?_
                          refine s_split (t := 124) rfl (fun b9 => ?_) (fun b9 => ?_)
                          · replace h := cond_t h b9
                            refine s_fieldAddr rfl rfl fd39_1 rfl rfl rfl rfl ?_
                            refine s_load rfl rfl rfl rfl ty3 rfl (.inr rfl) (by conv => lhs; whnf) rfl rfl rfl ?_
                            refine s_of (st_neI rfl rfl rfl) rfl rfl rfl rfl ?_
                            refine s_pickT rfl rfl (by conv => lhs; whnf) rfl rfl rfl ?_
                            refine s_mv (.inl rfl) (by conv => lhs; whnf) rfl rfl rfl ?_
                            refine s_split (t := 129) rfl (fun b10 => ?_) (fun b10 => ?_)
                            · replace h := cond_t h b10
                              refine s_fieldAddr rfl rfl fd39_1 rfl rfl rfl rfl ?_
                              refine s_load rfl rfl rfl rfl ty3 rfl (.inr rfl) (by conv => lhs; whnf) rfl rfl rfl ?_
                              refine s_of (st_eqI rfl rfl rfl) rfl rfl rfl rfl ?_
                              refine s_mv (.inl rfl) (by conv => lhs; whnf) rfl rfl rfl ?_
                              refine s_split (t := 133) rfl (fun b11 => ?_) (fun b11 => ?_)
                              · replace h := cond_t h b11
                                refine s_fieldAddr rfl rfl fd39_0 rfl rfl rfl rfl ?_
                                refine s_load rfl rfl rfl rfl ty9 rfl (.inr rfl) (by conv => lhs; whnf) rfl rfl rfl ?_
                                refine s_mv (.inl rfl) (by conv => lhs; whnf) rfl rfl rfl ?_
                                refine s_of (st_eqS rfl rfl rfl) rfl rfl rfl rfl ?_
                                refine s_pickT rfl rfl (by conv => lhs; whnf) rfl rfl rfl ?_
                                refine s_of (st_not rfl rfl) rfl rfl rfl rfl ?_
                                refine s_pickT rfl rfl (by conv => lhs; whnf) rfl rfl rfl ?_
                                refine rt_nil ?_
                                refine Exists.intro ⟨!(decide (e2.name = e9)), h⟩ ?_
                                refine entX [((1, 0), ⟨26, 2, [[.sc (.string p0.apex), .lst 6 (List.map recV p0.l)]], false, true⟩, some (1, 0)), ((5, 0), ⟨39, 6, [[.sc (.string e2.name), .sc (.int .i64 e2.ty), .sc (.int .i64 e2.ttl), .sc (.int .i64 e2.n), .sc (.string e2.host), .sc (.string e2.text)]], false, true⟩, some (5, 0)), ((114, 0), ⟨9, 1, List.map strV x4, false, true⟩, some (114, 0))] [] ⟨⟨rfl, _, rfl, rfl, rfl, rfl, id, rowsCv_one (.cons (.free rfl) (.cons (.free rfl) .nil)), rowsZ_one rfl⟩, ⟨rfl, _, rfl, rfl, rfl, rfl, id, rowsCv_one (.cons (.free rfl) (.cons (.free rfl) (.cons (.free rfl) (.cons (.free rfl) (.cons (.free rfl) (.cons (.free rfl) .nil)))))), rowsZ_one rfl⟩, ⟨rfl, _, rfl, rfl, rfl, rfl, id, rowsCv_eq rfl (allFree_map strV_free), rowsZ_map strV_len⟩, trivial⟩ trivial rfl rfl ?_
                                exact ⟨(.ptr rfl), (.free rfl), (.ptr rfl), (.free rfl), (.free rfl), (.free rfl), (.ref rfl), (.free rfl), (.free rfl), (.free rfl), trivial⟩
                              · replace h := cond_f h b11
                                refine s_skip rfl rfl rfl ?_
                                refine s_skip rfl rfl rfl ?_
                                refine s_skip rfl rfl rfl ?_
                                refine s_skip rfl rfl rfl ?_
                                refine s_pickF rfl rfl (v := .sc (.bool false)) rfl rfl rfl rfl ?_
                                refine s_of (st_not rfl rfl) rfl rfl rfl rfl ?_
                                refine s_pickT rfl rfl (by conv => lhs; whnf) rfl rfl rfl ?_
                                refine rt_nil ?_
                                refine Exists.intro ⟨true, h⟩ ?_
                                refine entX [((1, 0), ⟨26, 2, [[.sc (.string p0.apex), .lst 6 (List.map recV p0.l)]], false, true⟩, some (1, 0)), ((5, 0), ⟨39, 6, [[.sc (.string e2.name), .sc (.int .i64 e2.ty), .sc (.int .i64 e2.ttl), .sc (.int .i64 e2.n), .sc (.string e2.host), .sc (.string e2.text)]], false, true⟩, some (5, 0)), ((114, 0), ⟨9, 1, List.map strV x4, false, true⟩, some (114, 0))] [] ⟨⟨rfl, _, rfl, rfl, rfl, rfl, id, rowsCv_one (.cons (.free rfl) (.cons (.free rfl) .nil)), rowsZ_one rfl⟩, ⟨rfl, _, rfl, rfl, rfl, rfl, id, rowsCv_one (.cons (.free rfl) (.cons (.free rfl) (.cons (.free rfl) (.cons (.free rfl) (.cons (.free rfl) (.cons (.free rfl) .nil)))))), rowsZ_one rfl⟩, ⟨rfl, _, rfl, rfl, rfl, rfl, id, rowsCv_eq rfl (allFree_map strV_free), rowsZ_map strV_len⟩, trivial⟩ trivial rfl rfl ?_
                                exact ⟨(.ptr rfl), (.free rfl), (.ptr rfl), (.free rfl), (.free rfl), (.free rfl), (.ref rfl), (.free rfl), (.free rfl), (.free rfl), trivial⟩
                            · replace h := cond_f h b10
                              refine s_skip rfl rfl rfl ?_
                              refine s_skip rfl rfl rfl ?_
                              refine s_skip rfl rfl rfl ?_
                              refine s_skip rfl rfl rfl ?_
                              refine s_skip rfl rfl rfl ?_
                              refine s_skip rfl rfl rfl ?_
                              refine s_skip rfl rfl rfl ?_
                              refine s_skip rfl rfl rfl ?_
                              refine s_skip rfl rfl rfl ?_
                              refine s_skip rfl rfl rfl ?_
                              refine s_pickF rfl rfl (v := .sc (.bool false)) rfl rfl rfl rfl ?_
                              refine rt_nil ?_
                              refine Exists.intro ⟨false, h⟩ ?_
                              refine entX [((1, 0), ⟨26, 2, [[.sc (.string p0.apex), .lst 6 (List.map recV p0.l)]], false, true⟩, some (1, 0)), ((5, 0), ⟨39, 6, [[.sc (.string e2.name), .sc (.int .i64 e2.ty), .sc (.int .i64 e2.ttl), .sc (.int .i64 e2.n), .sc (.string e2.host), .sc (.string e2.text)]], false, true⟩, some (5, 0)), ((114, 0), ⟨9, 1, List.map strV x4, false, true⟩, some (114, 0))] [] ⟨⟨rfl, _, rfl, rfl, rfl, rfl, id, rowsCv_one (.cons (.free rfl) (.cons (.free rfl) .nil)), rowsZ_one rfl⟩, ⟨rfl, _, rfl, rfl, rfl, rfl, id, rowsCv_one (.cons (.free rfl) (.cons (.free rfl) (.cons (.free rfl) (.cons (.free rfl) (.cons (.free rfl) (.cons (.free rfl) .nil)))))), rowsZ_one rfl⟩, ⟨rfl, _, rfl, rfl, rfl, rfl, id, rowsCv_eq rfl (allFree_map strV_free), rowsZ_map strV_len⟩, trivial⟩ trivial rfl rfl ?_
                              exact ⟨(.ptr rfl), (.free rfl), (.ptr rfl), (.free rfl), (.free rfl), (.free rfl), (.ref rfl), (.free rfl), (.free rfl), (.free rfl), trivial⟩
                          · replace h := cond_f h b9
                            refine s_skip rfl rfl rfl ?_
                            refine s_skip rfl rfl rfl ?_
                            refine s_skip rfl rfl rfl ?_
                            refine s_pickF rfl rfl (v := .sc (.bool false)) rfl rfl rfl rfl ?_
                            refine s_mv (.inl rfl) (by conv => lhs; whnf) rfl rfl rfl ?_
                            refine s_skip rfl rfl rfl ?_
                            refine s_skip rfl rfl rfl ?_
                            refine s_skip rfl rfl rfl ?_
                            refine s_skip rfl rfl rfl ?_
                            refine s_skip rfl rfl rfl ?_
                            refine s_skip rfl rfl rfl ?_
                            refine s_skip rfl rfl rfl ?_
                            refine s_skip rfl rfl rfl ?_
                            refine s_skip rfl rfl rfl ?_
                            refine s_skip rfl rfl rfl ?_
                            refine s_pickF rfl rfl (v := .sc (.bool false)) rfl rfl rfl rfl ?_
                            refine rt_nil ?_
                            refine Exists.intro ⟨false, h⟩ ?_
                            refine entX [((1, 0), ⟨26, 2, [[.sc (.string p0.apex), .lst 6 (List.map recV p0.l)]], false, true⟩, some (1, 0)), ((5, 0), ⟨39, 6, [[.sc (.string e2.name), .sc (.int .i64 e2.ty), .sc (.int .i64 e2.ttl), .sc (.int .i64 e2.n), .sc (.string e2.host), .sc (.string e2.text)]], false, true⟩, some (5, 0)), ((114, 0), ⟨9, 1, List.map strV x4, false, true⟩, some (114, 0))] [] ⟨⟨rfl, _, rfl, rfl, rfl, rfl, id, rowsCv_one (.cons (.free rfl) (.cons (.free rfl) .nil)), rowsZ_one rfl⟩, ⟨rfl, _, rfl, rfl, rfl, rfl, id, rowsCv_one (.cons (.free rfl) (.cons (.free rfl) (.cons (.free rfl) (.cons (.free rfl) (.cons (.free rfl) (.cons (.free rfl) .nil)))))), rowsZ_one rfl⟩, ⟨rfl, _, rfl, rfl, rfl, rfl, id, rowsCv_eq rfl (allFree_map strV_free), rowsZ_map strV_len⟩, trivial⟩ trivial rfl rfl ?_
                            exact ⟨(.ptr rfl), (.free rfl), (.ptr rfl), (.free rfl), (.free rfl), (.free rfl), (.ref rfl), (.free rfl), (.free rfl), (.free rfl), trivial⟩
                        · rintro ⟨j10_0, h⟩
                          replace h : i_ZoneOk_j10 v9_0 (i_ZoneOk_l9 v2_1 e2 j7_0 (i_ZoneOk_l2 p0 rs2) rs9) j10_0 = some r0 := h
                          unfold i_ZoneOk_j10 at h
                          show Tri _ _ _ (inv_i_ZoneOk_10 p0 v2_1 e2 j7_0 x4 v9_0 j10_0)
                          refine tri_cond rfl (fun c7 => ?_) (fun c7 => ?_)
                          · replace h := cond_t h c7
                            refine tri_seq ?_
                            refine tri_region ?_
                            refine s_mv (.inr rfl) (v := .sc (.bool false)) rfl rfl rfl rfl ?_
                            refine rt_nil ?_
                            refine tri_ret ?_
                            have e0 := (some1 h); subst e0
                            exact endY [] [] (rvC (resTmp rfl) rvN) trivial trivial rfl rfl rfl rfl (.free rfl)
                          · replace h := cond_f h c7
                            refine tri_skip ?_
                            refine tri_region ?_
                            refine s_inc (a := v9_0) (b := 1) rfl rfl rfl rfl (by have := get_lt hx9; have := hl9; omega) rfl rfl rfl ?_
                            refine s_mv (.inl rfl) (by conv => lhs; whnf) rfl rfl rfl ?_
                            refine rt_nil ?_
                            refine Exists.intro ⟨(rs9, (v9_0 + 1)), hn9, h⟩ (And.intro (Nat.lt_succ_self _) ?_)
                            refine entX [((1, 0), ⟨26, 2, [[.sc (.string p0.apex), .lst 6 (List.map recV p0.l)]], false, true⟩, some (1, 0)), ((5, 0), ⟨39, 6, [[.sc (.string e2.name), .sc (.int .i64 e2.ty), .sc (.int .i64 e2.ttl), .sc (.int .i64 e2.n), .sc (.string e2.host), .sc (.string e2.text)]], false, true⟩, some (5, 0)), ((114, 0), ⟨9, 1, List.map strV x4, false, true⟩, some (114, 0))] [] ⟨⟨rfl, _, rfl, rfl, rfl, rfl, id, rowsCv_one (.cons (.free rfl) (.cons (.free rfl) .nil)), rowsZ_one rfl⟩, ⟨rfl, _, rfl, rfl, rfl, rfl, id, rowsCv_one (.cons (.free rfl) (.cons (.free rfl) (.cons (.free rfl) (.cons (.free rfl) (.cons (.free rfl) (.cons (.free rfl) .nil)))))), rowsZ_one rfl⟩, ⟨rfl, _, rfl, rfl, rfl, rfl, id, rowsCv_eq rfl (allFree_map strV_free), rowsZ_map strV_len⟩, trivial⟩ trivial rfl rfl ?_
                            exact ⟨(.ptr rfl), (.free rfl), (.ptr rfl), (.free rfl), (.free rfl), (.free rfl), (.ref rfl), (.free rfl), (.free rfl), trivial⟩
                      · have he := drop_f hd9 c6; subst he
                        rw [i_ZoneOk_l9] at h
                        refine tri_exit ?_
                        refine tri_region ?_
                        refine s_inc (a := v2_1) (b := 1) rfl rfl rfl rfl (by have := get_lt hx2; have := hl2; omega) rfl rfl rfl ?_
                        refine s_mv (.inl rfl) (by conv => lhs; whnf) rfl rfl rfl ?_
                        refine rt_nil ?_
                        refine Exists.intro ⟨(rs2, j7_0, (v2_1 + 1)), hn2, h⟩ (And.intro (Nat.lt_succ_self _) ?_)
                        refine entX [((1, 0), ⟨26, 2, [[.sc (.string p0.apex), .lst 6 (List.map recV p0.l)]], false, true⟩, some (1, 0))] [] ⟨⟨rfl, _, rfl, rfl, rfl, rfl, id, rowsCv_one (.cons (.free rfl) (.cons (.free rfl) .nil)), rowsZ_one rfl⟩, trivial⟩ trivial rfl rfl ?_
                        exact ⟨(.ptr rfl), (.free rfl), (.free rfl), (.free rfl), (.free rfl), trivial⟩
          · have he := drop_f hd2 c2; subst he
            rw [i_ZoneOk_l2] at h
            refine tri_exit ?_
            refine Exists.intro ⟨v2_0, h⟩ ?_
            refine entX [((1, 0), ⟨26, 2, [[.sc (.string p0.apex), .lst 6 (List.map recV p0.l)]], false, true⟩, some (1, 0))] [] ⟨⟨rfl, _, rfl, rfl, rfl, rfl, id, rowsCv_one (.cons (.free rfl) (.cons (.free rfl) .nil)), rowsZ_one rfl⟩, trivial⟩ trivial rfl rfl ?_
            exact ⟨(.ptr rfl), (.free rfl), trivial⟩
      · rintro ⟨j1_0, h⟩
        replace h : i_ZoneOk_j1 p0 j1_0 = some r0 := h
        unfold i_ZoneOk_j1 at h
        show Tri _ _ _ (inv_i_ZoneOk_1 p0 j1_0)
        refine tri_seq ?_
        refine tri_region ?_
        refine s_mv (.inl rfl) (by conv => lhs; whnf) rfl rfl rfl ?_
        refine s_of (st_eqI rfl rfl rfl) rfl rfl rfl rfl ?_
        refine s_mv (.inl rfl) (by conv => lhs; whnf) rfl rfl rfl ?_
        refine s_split (t := 145) rfl (fun b2 => ?_) (fun b2 => ?_)
        · replace h := cond_t h b2
          refine s_fieldAddr rfl rfl fd26_1 rfl rfl rfl rfl ?_
          refine s_load rfl rfl rfl rfl ty24 rfl (.inr rfl) (by conv => lhs; whnf) rfl rfl rfl ?_
          refine s_fieldAddr rfl rfl fd26_0 rfl rfl rfl rfl ?_
          refine s_load rfl rfl rfl rfl ty9 rfl (.inr rfl) (by conv => lhs; whnf) rfl rfl rfl ?_
          refine bnd1_elim h fun x3 q4 h => ?_
          refine s_callN (kb := []) (ns := []) (v := .ref (150, 0) 0 x3.length) rfl rfl cl21 (wi_SetOf p0.l p0.apex 2 x3 q4) rfl (.cons (.free rfl) (.cons (.free rfl) (.cons (.free rfl) .nil))) trivial memNil .nil memNil rfl ⟨(allSc_map recV_sc), trivial⟩ memNil rfl (by first | (simp only [V.mat, V.mat1, V.mat0, matL, matT, List.length_map]; done) | (simp only [V.mat, V.mat1, V.mat0, matL, matT, List.length_map]; rfl)) rfl rfl rfl rfl ?_
          refine s_len (m := x3.length) rfl sl24 rfl rfl rfl rfl ?_
          refine s_of (st_gtr rfl rfl rfl) rfl rfl rfl rfl ?_
          refine s_pickT rfl rfl (by conv => lhs; whnf) rfl rfl rfl ?_
          refine s_mv (.inr rfl) (by conv => lhs; whnf) rfl rfl rfl ?_
          refine rt_nil ?_
          refine tri_ret ?_
          have e0 := (some1 h); subst e0
          exact endY [] [] (rvC (resTmp rfl) rvN) trivial trivial rfl rfl rfl rfl (.free rfl)
        · replace h := cond_f h b2
          refine s_skip rfl rfl rfl ?_
          refine s_skip rfl rfl rfl ?_
          refine s_skip rfl rfl rfl ?_
          refine s_skip rfl rfl rfl ?_
          refine s_skip rfl rfl rfl ?_
          refine s_skip rfl rfl rfl ?_
          refine s_skip rfl rfl rfl ?_
          refine s_pickF rfl rfl (v := .sc (.bool false)) rfl rfl rfl rfl ?_
          refine s_mv (.inr rfl) (by conv => lhs; whnf) rfl rfl rfl ?_
          refine rt_nil ?_
          refine tri_ret ?_
          have e0 := (some1 h); subst e0
          exact endY [] [] (rvC (resTmp rfl) rvN) trivial trivial rfl rfl rfl rfl (.free rfl)

/- impl.InZone -/

set_option maxRecDepth 4000 in
set_option maxHeartbeats 800000 in
theorem wi_InZone (p0 : MZone) (p1 : ByteArray) (r0 : Bool) (h : i_InZone p0 p1 = some r0) : Runs Tryd.prog 16 [.agg (mZoneV p0), .sc (.string p1)] [] (.sc (.bool r0)) [] := by
  unfold i_InZone at h
  refine runsR [.tmp 4] Tryd.func16 rfl rfl rfl rfl ?_
  rw [Tryd.ntmps16]
  refine tri_seq ?_
  refine tri_region ?_
  refine s_box rfl rfl rfl rfl rfl rfl rfl ?_
  refine s_mv (.inr rfl) (v := .sc (.bool false)) rfl rfl rfl rfl ?_
  refine rt_nil ?_
  refine tri_seq ?_
  refine tri_region ?_
  refine s_loadR rfl rfl rfl rfl ty26 rfl rfl rfl ?_
  refine s_mv (.inl rfl) (by conv => lhs; whnf) rfl rfl rfl ?_
  refine bnd2_elim h fun x1 x2 q3 h => ?_
  refine s_callN (kb := []) (ns := []) (v := .tup [.sc (.string x1), .sc (.bool x2)]) rfl rfl cl13 (wi_CutOf p0 p1 x1 x2 q3) rfl (.cons (relAgg rfl) (.cons (.free rfl) .nil)) trivial memNil .nil memNil rfl trivial memNil rfl rfl rfl rfl rfl rfl ?_
  refine s_mv (.inl rfl) (by conv => lhs; whnf) rfl rfl rfl ?_
  refine s_extract rfl rfl rfl rfl rfl rfl ?_
  refine s_extract rfl rfl rfl rfl rfl rfl ?_
  refine s_mv (.inr rfl) (by conv => lhs; whnf) rfl rfl rfl ?_
  refine s_mv (.inr rfl) (by conv => lhs; whnf) rfl rfl rfl ?_
  refine rt_nil ?_
  refine tri_seq ?_
  refine tri_region ?_
  refine s_mv (.inl rfl) (by conv => lhs; whnf) rfl rfl rfl ?_
  refine s_fieldAddr rfl rfl fd26_0 rfl rfl rfl rfl ?_
  refine s_load rfl rfl rfl rfl ty9 rfl (.inr rfl) (by conv => lhs; whnf) rfl rfl rfl ?_
  refine bnd1_elim h fun x4 q5 h => ?_
  refine s_callN (kb := []) (ns := []) (v := .sc (.bool x4)) rfl rfl cl17 (wi_Under p1 p0.apex x4 q5) rfl (.cons (.free rfl) (.cons (.free rfl) .nil)) trivial memNil .nil memNil rfl trivial memNil rfl rfl rfl rfl rfl rfl ?_
  refine s_mv (.inl rfl) (by conv => lhs; whnf) rfl rfl rfl ?_
  refine s_split (t := 17) rfl (fun b6 => ?_) (fun b6 => ?_)
  · replace h := cond_t h b6
    refine s_mv (.inl rfl) (by conv => lhs; whnf) rfl rfl rfl ?_
    refine s_of (st_not rfl rfl) rfl rfl rfl rfl ?_
    refine s_pickT rfl rfl (by conv => lhs; whnf) rfl rfl rfl ?_
    refine s_mv (.inr rfl) (by conv => lhs; whnf) rfl rfl rfl ?_
    refine rt_nil ?_
    refine tri_ret ?_
    have e0 := (some1 h); subst e0
    exact endY [] [] (rvC (resTmp rfl) rvN) trivial trivial rfl rfl rfl rfl (.free rfl)
  · replace h := cond_f h b6
    refine s_skip rfl rfl rfl ?_
    refine s_skip rfl rfl rfl ?_
    refine s_pickF rfl rfl (v := .sc (.bool false)) rfl rfl rfl rfl ?_
    refine s_mv (.inr rfl) (by conv => lhs; whnf) rfl rfl rfl ?_
    refine rt_nil ?_
    refine tri_ret ?_
    have e0 := (some1 h); subst e0
    exact endY [] [] (rvC (resTmp rfl) rvN) trivial trivial rfl rfl rfl rfl (.free rfl)

/- impl.Exists$1 -/

set_option maxRecDepth 4000 in
set_option maxHeartbeats 800000 in
theorem wi_Exists_1 (p0 : Rec) (p1 : ByteArray) (r0 : Bool) (h : i_Exists_1 p0 p1 = some r0) : Runs Tryd.prog 99 [.agg (recV p0), .lptr 1 [[.sc (.string p1)]] 0 0] [] (.sc (.bool r0)) [] := by
  unfold i_Exists_1 at h
  refine runsR [.tmp 3] Tryd.func99 rfl rfl rfl rfl ?_
  rw [Tryd.ntmps99]
  refine tri_seq ?_
  refine tri_region ?_
  refine s_box rfl rfl rfl rfl rfl rfl rfl ?_
  refine s_mv (.inr rfl) (v := .sc (.bool false)) rfl rfl rfl rfl ?_
  refine rt_nil ?_
  refine tri_seq ?_
  refine tri_region ?_
  refine s_fieldAddr rfl rfl fd39_0 rfl rfl rfl rfl ?_
  refine s_load rfl rfl rfl rfl ty9 rfl (.inr rfl) (by conv => lhs; whnf) rfl rfl rfl ?_
  refine s_loadF rfl rfl rfl ty9 rfl (.inr rfl) (by conv => lhs; whnf) rfl rfl rfl ?_
  refine bnd1_elim h fun x1 q2 h => ?_
  refine s_callN (kb := []) (ns := []) (v := .sc (.bool x1)) rfl rfl cl17 (wi_Under p0.name p1 x1 q2) rfl (.cons (.free rfl) (.cons (.free rfl) .nil)) trivial memNil .nil memNil rfl trivial memNil rfl rfl rfl rfl rfl rfl ?_
  refine s_mv (.inr rfl) (by conv => lhs; whnf) rfl rfl rfl ?_
  refine rt_nil ?_
  refine tri_ret ?_
  have e0 := (some1 h); subst e0
  exact endY [] [] (rvC (resTmp rfl) rvN) trivial trivial rfl rfl rfl rfl (.free rfl)

/- impl.Exists -/

set_option maxRecDepth 4000 in
set_option maxHeartbeats 800000 in
theorem wi_Exists (p0 : MZone) (p1 : ByteArray) (r0 : Bool) (h : i_Exists p0 p1 = some r0) : Runs Tryd.prog 18 [.agg (mZoneV p0), .sc (.string p1)] [] (.sc (.bool r0)) [] := by
  unfold i_Exists at h
  refine runsR [.tmp 4] Tryd.func18 rfl rfl rfl rfl ?_
  rw [Tryd.ntmps18]
  refine tri_seq ?_
  refine tri_region ?_
  refine s_box rfl rfl rfl rfl rfl rfl rfl ?_
  refine s_box rfl rfl rfl rfl rfl rfl rfl ?_
  refine s_mv (.inr rfl) (v := .sc (.bool false)) rfl rfl rfl rfl ?_
  refine rt_nil ?_
  refine tri_seq ?_
  refine tri_region ?_
  refine s_fieldAddr rfl rfl fd26_1 rfl rfl rfl rfl ?_
  refine s_load rfl rfl rfl rfl ty24 rfl (.inr rfl) (by conv => lhs; whnf) rfl rfl rfl ?_
  refine s_makeFunc (caps := [.ptr (3, 0) 0 0]) rfl rfl rfl rfl rfl ?_
  refine bnd1_elim h fun x1 q2 h => ?_
  refine s_callN (kb := [(3, 0)]) (ns := []) (v := .sc (.bool x1)) rfl rfl cl98 (wslices_ContainsFunc_Record p0.l 99 ([.lptr 1 [[.sc (.string p1)]] 0 0]) rfl cl99 (fun a0 => i_Exists_1 a0 p1) (fun a0 v0 hv => wi_Exists_1 a0 p1 v0 hv) x1 q2) rfl (.cons (.free rfl) (.cons (relFnL rfl (.cons (relBoxL rfl (.head _) (.cons (.free rfl) .nil) rfl rfl) .nil)) .nil)) trivial memNil .nil (fun _ _ => List.not_mem_nil) rfl trivial memNil rfl rfl rfl rfl rfl rfl ?_
  refine s_mv (.inr rfl) (by conv => lhs; whnf) rfl rfl rfl ?_
  refine rt_nil ?_
  refine tri_ret ?_
  have e0 := (some1 h); subst e0
  exact endY [] [] (rvC (resTmp rfl) rvN) trivial trivial rfl rfl rfl rfl (.free rfl)

/- impl.firstOf -/
def inv_i_firstOf_1 (p0 : List Rec) (p1 : Int) (v1_0 : Nat) : St := mkT 20 [(1, .sc (.int .i64 p1)), (4, .ptr (4, 0) 0 0), (7, .lst 6 (List.map recV p0)), (8, .sc (.int .i64 (p0.length : Int))), (9, .sc (.int .i64 (v1_0 : Int)))] [((4, 0), some ⟨39, 6, [[.sc (.string (⟨#[]⟩ : ByteArray)), .sc (.int .i64 0), .sc (.int .i64 0), .sc (.int .i64 0), .sc (.string (⟨#[]⟩ : ByteArray)), .sc (.string (⟨#[]⟩ : ByteArray))]], false, true⟩)]
def inv_i_firstOf_0  : St := mkT 20 [(4, .ptr (4, 0) 0 0)] [((4, 0), some ⟨39, 6, [[.sc (.string (⟨#[]⟩ : ByteArray)), .sc (.int .i64 0), .sc (.int .i64 0), .sc (.int .i64 0), .sc (.string (⟨#[]⟩ : ByteArray)), .sc (.string (⟨#[]⟩ : ByteArray))]], false, true⟩)]
set_option maxRecDepth 4000 in
set_option maxHeartbeats 800000 in
theorem wi_firstOf (p0 : List Rec) (p1 : Int) (r0 : Rec) (h : i_firstOf p0 p1 = some r0) : Runs Tryd.prog 100 [.lst 6 (List.map recV p0), .sc (.int .i64 p1)] [] (.agg (recV r0)) [] := by
  unfold i_firstOf at h
  refine runsR [.cell 4 39] Tryd.func100 rfl rfl rfl rfl ?_
  rw [Tryd.ntmps100]
  refine tri_seq ?_
  refine tri_region ?_
  refine s_alloc rfl rfl rfl zc39 rfl rfl rfl rfl rfl ?_
  refine rt_nil ?_
  refine tri_cutI (ι := { p : Unit // i_firstOf_j0 = some r0 }) (fun p => inv_i_firstOf_0) ?_ ?_
  · skip
    refine tri_seq ?_
    refine tri_region ?_
    refine s_mv (.inl rfl) (by conv => lhs; whnf) rfl rfl rfl ?_
    refine s_lenL rfl sl24 rfl rfl rfl rfl ?_
    refine s_mv (.inl rfl) (v := .sc (.int .i64 0)) rfl rfl rfl rfl ?_
    refine rt_nil ?_
    refine tri_block ?_
    refine tri_lstM 0 rfl (fun hl1 => ?_)
    refine tri_loop (ι := { p : (List Rec) × Nat // p0.drop p.2 = p.1 ∧ i_firstOf_l1 p1 p.1 p.2 = some r0 }) (fun p => inv_i_firstOf_1 p0 p1 p.1.2) (fun p => p.1.1.length) ⟨(p0, 0), rfl, h⟩ ?_ ?_
    · skip
      refine entX [((4, 0), ⟨39, 6, [[.sc (.string (⟨#[]⟩ : ByteArray)), .sc (.int .i64 0), .sc (.int .i64 0), .sc (.int .i64 0), .sc (.string (⟨#[]⟩ : ByteArray)), .sc (.string (⟨#[]⟩ : ByteArray))]], false, true⟩, some (4, 0))] [] ⟨⟨rfl, _, rfl, rfl, rfl, rfl, id, rowsCv_one (.cons (.free rfl) (.cons (.free rfl) (.cons (.free rfl) (.cons (.free rfl) (.cons (.free rfl) (.cons (.free rfl) .nil)))))), rowsZ_one rfl⟩, trivial⟩ trivial rfl rfl ?_
      exact ⟨(.free rfl), (.ptr rfl), (.free rfl), (.free rfl), (.free rfl), trivial⟩
    · rintro ⟨⟨lrs1, v1_0⟩, hd1, h⟩
      replace hd1 : p0.drop v1_0 = lrs1 := hd1
      replace h : i_firstOf_l1 p1 lrs1 v1_0 = some r0 := h
      show Tri _ _ _ (inv_i_firstOf_1 p0 p1 v1_0)
      refine tri_seq ?_
      refine tri_region ?_
      refine s_of (st_lss rfl rfl rfl) rfl rfl rfl rfl ?_
      refine rt_nil ?_
      refine tri_seq ?_
      refine tri_cond rfl (fun c1 => ?_) (fun c1 => ?_)
      · refine drop_elim hd1 c1 fun e1 rs1 he hx1 hn1 => ?_
        subst he
        rw [i_firstOf_l1] at h
        refine tri_skip ?_
        refine tri_seq ?_
        refine tri_block ?_
        refine tri_seq ?_
        refine tri_region ?_
        refine s_indexF (i := v1_0) rfl rfl rfl sl24 (get_ltM hx1) rfl rfl rfl ?_
        refine s_loadFR rfl rfl (rowG hx1) ty39 rfl rfl rfl ?_
        refine s_alloc rfl rfl rfl zc39 rfl rfl rfl rfl rfl ?_
        refine s_storeB rfl rfl rfl ty39 rfl rfl rfl rfl rfl ?_
        refine rt_nil ?_
        refine tri_seq ?_
        refine tri_region ?_
        refine s_fieldAddr rfl rfl fd39_1 rfl rfl rfl rfl ?_
        refine s_load rfl rfl rfl rfl ty3 rfl (.inr rfl) (by conv => lhs; whnf) rfl rfl rfl ?_
        refine s_mv (.inl rfl) (by conv => lhs; whnf) rfl rfl rfl ?_
        refine s_of (st_eqI rfl rfl rfl) rfl rfl rfl rfl ?_
        refine rt_nil ?_
        refine tri_cond rfl (fun c2 => ?_) (fun c2 => ?_)
        · replace h := cond_t h c2
          refine tri_seq ?_
          refine tri_region ?_
          refine s_loadR rfl rfl rfl rfl ty39 rfl rfl rfl ?_
          refine s_storeB rfl rfl rfl ty39 rfl rfl rfl rfl rfl ?_
          refine rt_nil ?_
          refine tri_ret ?_
          have e0 := (some1 h); subst e0
          exact endY [] [] (rvC (resCell rfl rfl ty39) rvN) trivial trivial rfl rfl rfl rfl (cvAgg rfl)
        · replace h := cond_f h c2
          refine tri_skip ?_
          refine tri_region ?_
          refine s_inc (a := v1_0) (b := 1) rfl rfl rfl rfl (by have := get_lt hx1; have := hl1; omega) rfl rfl rfl ?_
          refine s_mv (.inl rfl) (by conv => lhs; whnf) rfl rfl rfl ?_
          refine rt_nil ?_
          refine Exists.intro ⟨(rs1, (v1_0 + 1)), hn1, h⟩ (And.intro (Nat.lt_succ_self _) ?_)
          refine entX [((4, 0), ⟨39, 6, [[.sc (.string (⟨#[]⟩ : ByteArray)), .sc (.int .i64 0), .sc (.int .i64 0), .sc (.int .i64 0), .sc (.string (⟨#[]⟩ : ByteArray)), .sc (.string (⟨#[]⟩ : ByteArray))]], false, true⟩, some (4, 0))] [] ⟨⟨rfl, _, rfl, rfl, rfl, rfl, id, rowsCv_one (.cons (.free rfl) (.cons (.free rfl) (.cons (.free rfl) (.cons (.free rfl) (.cons (.free rfl) (.cons (.free rfl) .nil)))))), rowsZ_one rfl⟩, trivial⟩ trivial rfl rfl ?_
          exact ⟨(.free rfl), (.ptr rfl), (.free rfl), (.free rfl), (.free rfl), trivial⟩
      · have he := drop_f hd1 c1; subst he
        rw [i_firstOf_l1] at h
        refine tri_exit ?_
        refine Exists.intro ⟨(), h⟩ ?_
        refine entX [((4, 0), ⟨39, 6, [[.sc (.string (⟨#[]⟩ : ByteArray)), .sc (.int .i64 0), .sc (.int .i64 0), .sc (.int .i64 0), .sc (.string (⟨#[]⟩ : ByteArray)), .sc (.string (⟨#[]⟩ : ByteArray))]], false, true⟩, some (4, 0))] [] ⟨⟨rfl, _, rfl, rfl, rfl, rfl, id, rowsCv_one (.cons (.free rfl) (.cons (.free rfl) (.cons (.free rfl) (.cons (.free rfl) (.cons (.free rfl) (.cons (.free rfl) .nil)))))), rowsZ_one rfl⟩, trivial⟩ trivial rfl rfl ?_
        exact ⟨(.ptr rfl), trivial⟩
  · rintro ⟨u, h⟩
    replace h : i_firstOf_j0 = some r0 := h
    unfold i_firstOf_j0 at h
    show Tri _ _ _ (inv_i_firstOf_0)
    refine tri_seq ?_
    refine tri_region ?_
    refine s_build (cells' := [.sc (.string (⟨#[]⟩ : ByteArray)), .sc (.int .i64 0), .sc (.int .i64 0), .sc (.int .i64 0), .sc (.string (⟨#[]⟩ : ByteArray)), .sc (.string (⟨#[]⟩ : ByteArray))]) rfl stc39 rfl rfl rfl rfl rfl rfl rfl ?_
    refine s_storeB rfl rfl rfl ty39 rfl rfl rfl rfl rfl ?_
    refine rt_nil ?_
    refine tri_ret ?_
    have e0 := (some1 h); subst e0
    exact endY [] [] (rvC (resCell rfl rfl ty39) rvN) trivial trivial rfl rfl rfl rfl (cvAgg rfl)

/- impl.StartOf -/

set_option maxRecDepth 4000 in
set_option maxHeartbeats 800000 in
theorem wi_StartOf (p0 : MZone) (r0 : Rec) (h : i_StartOf p0 = some r0) : Runs Tryd.prog 19 [.agg (mZoneV p0)] [] (.agg (recV r0)) [] := by
  unfold i_StartOf at h
  refine runsR [.cell 2 39] Tryd.func19 rfl rfl rfl rfl ?_
  rw [Tryd.ntmps19]
  refine tri_seq ?_
  refine tri_region ?_
  refine s_box rfl rfl rfl rfl rfl rfl rfl ?_
  refine s_alloc rfl rfl rfl zc39 rfl rfl rfl rfl rfl ?_
  refine rt_nil ?_
  refine tri_seq ?_
  refine tri_region ?_
  refine s_fieldAddr rfl rfl fd26_1 rfl rfl rfl rfl ?_
  refine s_load rfl rfl rfl rfl ty24 rfl (.inr rfl) (by conv => lhs; whnf) rfl rfl rfl ?_
  refine bnd1_elim h fun x1 q2 h => ?_
  refine s_callN (kb := []) (ns := []) (v := .agg (recV x1)) rfl rfl cl100 (wi_firstOf p0.l 6 x1 q2) rfl (.cons (.free rfl) (.cons (.free rfl) .nil)) trivial memNil .nil memNil rfl trivial memNil rfl rfl rfl rfl rfl rfl ?_
  refine s_storeB rfl rfl rfl ty39 rfl rfl rfl rfl rfl ?_
  refine rt_nil ?_
  refine tri_ret ?_
  have e0 := (some1 h); subst e0
  exact endY [] [] (rvC (resCell rfl rfl ty39) rvN) trivial trivial rfl rfl rfl rfl (cvAgg rfl)

/- spec.StartOf -/
def inv_s_StartOf_1 (p0 : MZone) (v1_0 : Nat) : St := mkT 24 [(1, .ptr (1, 0) 0 0), (2, .ptr (2, 0) 0 0), (3, .sc (.int .i64 (v1_0 : Int)))] [((1, 0), some ⟨26, 2, [[.sc (.string p0.apex), .lst 6 (List.map recV p0.l)]], false, true⟩), ((2, 0), some ⟨39, 6, [[.sc (.string (⟨#[]⟩ : ByteArray)), .sc (.int .i64 0), .sc (.int .i64 0), .sc (.int .i64 0), .sc (.string (⟨#[]⟩ : ByteArray)), .sc (.string (⟨#[]⟩ : ByteArray))]], false, true⟩)]
def inv_s_StartOf_0  : St := mkT 24 [(2, .ptr (2, 0) 0 0)] [((2, 0), some ⟨39, 6, [[.sc (.string (⟨#[]⟩ : ByteArray)), .sc (.int .i64 0), .sc (.int .i64 0), .sc (.int .i64 0), .sc (.string (⟨#[]⟩ : ByteArray)), .sc (.string (⟨#[]⟩ : ByteArray))]], false, true⟩)]
set_option maxRecDepth 4000 in
set_option maxHeartbeats 800000 in
theorem ws_StartOf (p0 : MZone) (r0 : Rec) (h : s_StartOf p0 = some r0) : Runs Tryd.prog 20 [.agg (mZoneV p0)] [] (.agg (recV r0)) [] := by
  unfold s_StartOf at h
  refine runsR [.cell 2 39] Tryd.func20 rfl rfl rfl rfl ?_
  rw [Tryd.ntmps20]
  refine tri_seq ?_
  refine tri_region ?_
  refine s_box rfl rfl rfl rfl rfl rfl rfl ?_
  refine s_alloc rfl rfl rfl zc39 rfl rfl rfl rfl rfl ?_
  refine rt_nil ?_
  refine tri_cutI (ι := { p : Unit // s_StartOf_j0 = some r0 }) (fun p => inv_s_StartOf_0) ?_ ?_
  · skip
    refine tri_seq ?_
    refine tri_region ?_
    refine s_mv (.inr rfl) (v := .sc (.int .i64 0)) rfl rfl rfl rfl ?_
    refine rt_nil ?_
    refine tri_block ?_
    refine tri_aggM 0 1 rfl rfl (fun hl1 => ?_)
    refine tri_loop (ι := { p : (List Rec) × Nat // p0.l.drop p.2 = p.1 ∧ s_StartOf_l1 p.1 p.2 = some r0 }) (fun p => inv_s_StartOf_1 p0 p.1.2) (fun p => p.1.1.length) ⟨(p0.l, 0), rfl, h⟩ ?_ ?_
    · skip
      refine entX [((1, 0), ⟨26, 2, [[.sc (.string p0.apex), .lst 6 (List.map recV p0.l)]], false, true⟩, some (1, 0)), ((2, 0), ⟨39, 6, [[.sc (.string (⟨#[]⟩ : ByteArray)), .sc (.int .i64 0), .sc (.int .i64 0), .sc (.int .i64 0), .sc (.string (⟨#[]⟩ : ByteArray)), .sc (.string (⟨#[]⟩ : ByteArray))]], false, true⟩, some (2, 0))] [] ⟨⟨rfl, _, rfl, rfl, rfl, rfl, id, rowsCv_one (.cons (.free rfl) (.cons (.free rfl) .nil)), rowsZ_one rfl⟩, ⟨rfl, _, rfl, rfl, rfl, rfl, id, rowsCv_one (.cons (.free rfl) (.cons (.free rfl) (.cons (.free rfl) (.cons (.free rfl) (.cons (.free rfl) (.cons (.free rfl) .nil)))))), rowsZ_one rfl⟩, trivial⟩ trivial rfl rfl ?_
      exact ⟨(.ptr rfl), (.ptr rfl), (.free rfl), trivial⟩
    · rintro ⟨⟨lrs1, v1_0⟩, hd1, h⟩
      replace hd1 : p0.l.drop v1_0 = lrs1 := hd1
      replace h : s_StartOf_l1 lrs1 v1_0 = some r0 := h
      show Tri _ _ _ (inv_s_StartOf_1 p0 v1_0)
      refine tri_seq ?_
      refine tri_seq ?_
      refine tri_region ?_
      refine s_mv (.inl rfl) (by conv => lhs; whnf) rfl rfl rfl ?_
      refine s_fieldAddr rfl rfl fd26_1 rfl rfl rfl rfl ?_
      refine s_load rfl rfl rfl rfl ty24 rfl (.inr rfl) (by conv => lhs; whnf) rfl rfl rfl ?_
      refine s_lenL rfl sl24 rfl rfl rfl rfl ?_
      refine s_of (st_lss rfl rfl rfl) rfl rfl rfl rfl ?_
      refine rt_nil ?_
      refine tri_cond rfl (fun c1 => ?_) (fun c1 => ?_)
      · refine drop_elim hd1 c1 fun e1 rs1 he hx1 hn1 => ?_
        subst he
        rw [s_StartOf_l1] at h
        refine tri_skip ?_
        refine tri_seq ?_
        refine tri_block ?_
        refine tri_seq ?_
        refine tri_region ?_
        refine s_fieldAddr rfl rfl fd26_1 rfl rfl rfl rfl ?_
        refine s_load rfl rfl rfl rfl ty24 rfl (.inr rfl) (by conv => lhs; whnf) rfl rfl rfl ?_
        refine s_mv (.inl rfl) (by conv => lhs; whnf) rfl rfl rfl ?_
        refine s_indexF (i := v1_0) rfl rfl rfl sl24 (get_ltM hx1) rfl rfl rfl ?_
        refine s_fieldAddrF rfl rfl fd39_1 rfl rfl rfl rfl ?_
        refine s_loadF rfl rfl (rowG hx1) ty3 rfl (.inr rfl) (by conv => lhs; whnf) rfl rfl rfl ?_
        refine s_of (st_eqI rfl rfl rfl) rfl rfl rfl rfl ?_
        refine rt_nil ?_
        refine tri_cond rfl (fun c2 => ?_) (fun c2 => ?_)
        · replace h := cond_t h c2
          refine tri_seq ?_
          refine tri_region ?_
          refine s_fieldAddr rfl rfl fd26_1 rfl rfl rfl rfl ?_
          refine s_load rfl rfl rfl rfl ty24 rfl (.inr rfl) (by conv => lhs; whnf) rfl rfl rfl ?_
          refine s_mv (.inl rfl) (by conv => lhs; whnf) rfl rfl rfl ?_
          refine s_indexF (i := v1_0) rfl rfl rfl sl24 (get_ltM hx1) rfl rfl rfl ?_
          refine s_loadFR rfl rfl (rowG hx1) ty39 rfl rfl rfl ?_
          refine s_storeB rfl rfl rfl ty39 rfl rfl rfl rfl rfl ?_
          refine rt_nil ?_
          refine tri_ret ?_
          have e0 := (some1 h); subst e0
          exact endY [] [] (rvC (resCell rfl rfl ty39) rvN) trivial trivial rfl rfl rfl rfl (cvAgg rfl)
        · replace h := cond_f h c2
          refine tri_skip ?_
          refine tri_region ?_
          refine s_mv (.inl rfl) (by conv => lhs; whnf) rfl rfl rfl ?_
          refine s_inc (a := v1_0) (b := 1) rfl rfl rfl rfl (by have := get_lt hx1; have := hl1; omega) rfl rfl rfl ?_
          refine s_mv (.inr rfl) (by conv => lhs; whnf) rfl rfl rfl ?_
          refine rt_nil ?_
          refine Exists.intro ⟨(rs1, (v1_0 + 1)), hn1, h⟩ (And.intro (Nat.lt_succ_self _) ?_)
          refine entX [((1, 0), ⟨26, 2, [[.sc (.string p0.apex), .lst 6 (List.map recV p0.l)]], false, true⟩, some (1, 0)), ((2, 0), ⟨39, 6, [[.sc (.string (⟨#[]⟩ : ByteArray)), .sc (.int .i64 0), .sc (.int .i64 0), .sc (.int .i64 0), .sc (.string (⟨#[]⟩ : ByteArray)), .sc (.string (⟨#[]⟩ : ByteArray))]], false, true⟩, some (2, 0))] [] ⟨⟨rfl, _, rfl, rfl, rfl, rfl, id, rowsCv_one (.cons (.free rfl) (.cons (.free rfl) .nil)), rowsZ_one rfl⟩, ⟨rfl, _, rfl, rfl, rfl, rfl, id, rowsCv_one (.cons (.free rfl) (.cons (.free rfl) (.cons (.free rfl) (.cons (.free rfl) (.cons (.free rfl) (.cons (.free rfl) .nil)))))), rowsZ_one rfl⟩, trivial⟩ trivial rfl rfl ?_
          exact ⟨(.ptr rfl), (.ptr rfl), (.free rfl), trivial⟩
      · have he := drop_f hd1 c1; subst he
        rw [s_StartOf_l1] at h
        refine tri_exit ?_
        refine Exists.intro ⟨(), h⟩ ?_
        refine entX [((2, 0), ⟨39, 6, [[.sc (.string (⟨#[]⟩ : ByteArray)), .sc (.int .i64 0), .sc (.int .i64 0), .sc (.int .i64 0), .sc (.string (⟨#[]⟩ : ByteArray)), .sc (.string (⟨#[]⟩ : ByteArray))]], false, true⟩, some (2, 0))] [] ⟨⟨rfl, _, rfl, rfl, rfl, rfl, id, rowsCv_one (.cons (.free rfl) (.cons (.free rfl) (.cons (.free rfl) (.cons (.free rfl) (.cons (.free rfl) (.cons (.free rfl) .nil)))))), rowsZ_one rfl⟩, trivial⟩ trivial rfl rfl ?_
        exact ⟨(.ptr rfl), trivial⟩
  · rintro ⟨u, h⟩
    replace h : s_StartOf_j0 = some r0 := h
    unfold s_StartOf_j0 at h
    show Tri _ _ _ (inv_s_StartOf_0)
    refine tri_seq ?_
    refine tri_region ?_
    refine s_build (cells' := [.sc (.string (⟨#[]⟩ : ByteArray)), .sc (.int .i64 0), .sc (.int .i64 0), .sc (.int .i64 0), .sc (.string (⟨#[]⟩ : ByteArray)), .sc (.string (⟨#[]⟩ : ByteArray))]) rfl stc39 rfl rfl rfl rfl rfl rfl rfl ?_
    refine s_storeB rfl rfl rfl ty39 rfl rfl rfl rfl rfl ?_
    refine rt_nil ?_
    refine tri_ret ?_
    have e0 := (some1 h); subst e0
    exact endY [] [] (rvC (resCell rfl rfl ty39) rvN) trivial trivial rfl rfl rfl rfl (cvAgg rfl)

end Go.Abs.M
