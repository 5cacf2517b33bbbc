/- Walks of the functions that the law of FnKeepsBent reaches: what each of them computes, where its pure function does not fail. -/
import Derived.Test.YtcdpmfnjajjlkaaDoorWalkFnKeepsBent1
namespace Go.Abs.M
open Go Go.Abs Go.Proofs
theorem cl117 : callable Tryd.prog 117 = true := by kernel_rfl
theorem cl118 : callable Tryd.prog 118 = true := by kernel_rfl
theorem cl119 : callable Tryd.prog 119 = true := by kernel_rfl
theorem cl12 : callable Tryd.prog 12 = true := by kernel_rfl
theorem cl15 : callable Tryd.prog 15 = true := by kernel_rfl
theorem cl17 : callable Tryd.prog 17 = true := by kernel_rfl
theorem cl19 : callable Tryd.prog 19 = true := by kernel_rfl
theorem cl22 : callable Tryd.prog 22 = true := by kernel_rfl
theorem cl24 : callable Tryd.prog 24 = true := by kernel_rfl
theorem cl25 : callable Tryd.prog 25 = true := by kernel_rfl
theorem cl26 : callable Tryd.prog 26 = true := by kernel_rfl
theorem cl27 : callable Tryd.prog 27 = true := by kernel_rfl
theorem cl28 : callable Tryd.prog 28 = true := by kernel_rfl
theorem cl29 : callable Tryd.prog 29 = true := by kernel_rfl
theorem cl30 : callable Tryd.prog 30 = true := by kernel_rfl
theorem cl47 : callable Tryd.prog 47 = true := by kernel_rfl
theorem cl48 : callable Tryd.prog 48 = true := by kernel_rfl
theorem cl49 : callable Tryd.prog 49 = true := by kernel_rfl
theorem cl56 : callable Tryd.prog 56 = true := by kernel_rfl
theorem cl57 : callable Tryd.prog 57 = true := by kernel_rfl
theorem cl75 : callable Tryd.prog 75 = true := by kernel_rfl
theorem cl92 : callable Tryd.prog 92 = true := by kernel_rfl
theorem cl93 : callable Tryd.prog 93 = true := by kernel_rfl
theorem cl94 : callable Tryd.prog 94 = true := by kernel_rfl
theorem isb4 : isBool Tryd.prog 4 = true := by kernel_rfl
/- impl.RecordOk -/
def inv_i_RecordOk_1 (p0 : Rec) (j1_0 : Bool) : St := mkT 76 [(1, .ptr (1, 0) 0 0), (14, .sc (.int .i64 p0.ty)), (30, .sc (.bool j1_0))] [((1, 0), some ⟨60, 6, [[.sc (.string p0.name), .sc (.int .i64 p0.ty), .sc (.int .i64 p0.ttl), .sc (.int .i64 p0.n), .sc (.string p0.host), .sc (.string p0.text)]], false, true⟩)]
def inv_i_RecordOk_0 (p0 : Rec) (j0_0 : Bool) : St := mkT 76 [(1, .ptr (1, 0) 0 0), (12, .sc (.bool j0_0))] [((1, 0), some ⟨60, 6, [[.sc (.string p0.name), .sc (.int .i64 p0.ty), .sc (.int .i64 p0.ttl), .sc (.int .i64 p0.n), .sc (.string p0.host), .sc (.string p0.text)]], false, true⟩)]
set_option maxRecDepth 4000 in
set_option maxHeartbeats 800000 in
theorem wi_RecordOk (p0 : Rec) (r0 : Bool) (h : i_RecordOk p0 = some r0) : Runs Tryd.prog 94 [.agg (recV p0)] [] (.sc (.bool r0)) [] := by
  unfold i_RecordOk at h
  refine runsR [.tmp 2] Tryd.func94 rfl rfl rfl rfl ?_
  rw [Tryd.ntmps94]
  refine tri_seq ?_
  refine tri_region ?_
  refine s_box rfl rfl rfl rfl rfl rfl rfl ?_
  refine s_mv (.inr rfl) (v := .sc (.bool false)) rfl rfl rfl rfl ?_
  refine rt_nil ?_
  refine tri_seq ?_
  refine tri_cutI (ι := { p : Bool // i_RecordOk_j0 p0 p = some r0 }) (fun p => inv_i_RecordOk_0 p0 p.1) ?_ ?_
  · skip
    refine tri_region ?_
    refine s_fieldAddr rfl rfl fd60_0 rfl rfl rfl rfl ?_
    refine s_load rfl rfl rfl rfl ty9 rfl (.inr rfl) (by conv => lhs; whnf) rfl rfl rfl ?_
    refine bnd1_elim h fun x1 q2 h => ?_
    refine s_callN (kb := []) (ns := []) (v := .sc (.bool x1)) rfl rfl cl50 (wi_NameOk p0.name x1 q2) rfl (.cons (.free rfl) .nil) trivial memNil .nil memNil rfl trivial memNil rfl rfl rfl rfl rfl rfl ?_
    refine s_of (st_not rfl rfl) rfl rfl rfl rfl ?_
    refine s_mv (.inl rfl) (by conv => lhs; whnf) rfl rfl rfl ?_
    refine s_split (t := 7) rfl (fun b3 => ?_) (fun b3 => ?_)
    · replace h := cond_t h b3
      refine s_skip rfl rfl rfl ?_
      refine s_skip rfl rfl rfl ?_
      refine s_skip rfl rfl rfl ?_
      refine s_skip rfl rfl rfl ?_
      refine s_pickT rfl rfl (v := .sc (.bool true)) rfl rfl rfl rfl ?_
      refine rt_nil ?_
      refine Exists.intro ⟨true, h⟩ ?_
      refine entX [((1, 0), ⟨60, 6, [[.sc (.string p0.name), .sc (.int .i64 p0.ty), .sc (.int .i64 p0.ttl), .sc (.int .i64 p0.n), .sc (.string p0.host), .sc (.string p0.text)]], false, true⟩, some (1, 0))] [] ⟨⟨rfl, _, rfl, rfl, rfl, rfl, id, rowsCv_one (.cons (.free rfl) (.cons (.free rfl) (.cons (.free rfl) (.cons (.free rfl) (.cons (.free rfl) (.cons (.free rfl) .nil)))))), rowsZ_one rfl⟩, trivial⟩ trivial rfl rfl ?_
      exact ⟨(.ptr rfl), (.free rfl), trivial⟩
    · replace h := cond_f h b3
      refine s_fieldAddr rfl rfl fd60_2 rfl rfl rfl rfl ?_
      refine s_load rfl rfl rfl rfl ty3 rfl (.inr rfl) (by conv => lhs; whnf) rfl rfl rfl ?_
      refine bnd1_elim h fun x4 q5 h => ?_
      refine s_callN (kb := []) (ns := []) (v := .sc (.bool x4)) rfl rfl cl117 (wi_isTtl p0.ttl x4 q5) rfl (.cons (.free rfl) .nil) trivial memNil .nil memNil rfl trivial memNil rfl rfl rfl rfl rfl rfl ?_
      refine s_of (st_not rfl rfl) rfl rfl rfl rfl ?_
      refine s_pickF rfl rfl (by conv => lhs; whnf) rfl rfl rfl ?_
      refine rt_nil ?_
      refine Exists.intro ⟨!x4, h⟩ ?_
      refine entX [((1, 0), ⟨60, 6, [[.sc (.string p0.name), .sc (.int .i64 p0.ty), .sc (.int .i64 p0.ttl), .sc (.int .i64 p0.n), .sc (.string p0.host), .sc (.string p0.text)]], false, true⟩, some (1, 0))] [] ⟨⟨rfl, _, rfl, rfl, rfl, rfl, id, rowsCv_one (.cons (.free rfl) (.cons (.free rfl) (.cons (.free rfl) (.cons (.free rfl) (.cons (.free rfl) (.cons (.free rfl) .nil)))))), rowsZ_one rfl⟩, trivial⟩ trivial rfl rfl ?_
      exact ⟨(.ptr rfl), (.free rfl), trivial⟩
  · rintro ⟨j0_0, h⟩
    replace h : i_RecordOk_j0 p0 j0_0 = some r0 := h
    unfold i_RecordOk_j0 at h
    show Tri _ _ _ (inv_i_RecordOk_0 p0 j0_0)
    refine tri_cond rfl (fun c1 => ?_) (fun c1 => ?_)
    · replace h := cond_t h c1
      refine tri_seq ?_
      refine tri_region ?_
      refine s_mv (.inr rfl) (v := .sc (.bool false)) rfl rfl rfl rfl ?_
      refine rt_nil ?_
      refine tri_ret ?_
      have e0 := (some1 h); subst e0
      exact endY [] [] (rvC (resTmp rfl) rvN) trivial trivial rfl rfl rfl rfl (.free rfl)
    · replace h := cond_f h c1
      refine tri_skip ?_
      refine tri_seq ?_
      refine tri_seq ?_
      refine tri_region ?_
      refine s_fieldAddr rfl rfl fd60_1 rfl rfl rfl rfl ?_
      refine s_load rfl rfl rfl rfl ty3 rfl (.inr rfl) (by conv => lhs; whnf) rfl rfl rfl ?_
      refine rt_nil ?_
      refine tri_block ?_
      refine tri_seq ?_
      refine tri_region ?_
      refine s_of (st_eqI rfl rfl rfl) rfl rfl rfl rfl ?_
      refine s_mv (.inr rfl) (by conv => lhs; whnf) rfl rfl rfl ?_
      refine rt_nil ?_
      refine tri_cond rfl (fun c2 => ?_) (fun c2 => ?_)
      · replace h := cond_t h c2
        refine tri_seq ?_
        refine tri_region ?_
        refine s_fieldAddr rfl rfl fd60_3 rfl rfl rfl rfl ?_
        refine s_load rfl rfl rfl rfl ty3 rfl (.inr rfl) (by conv => lhs; whnf) rfl rfl rfl ?_
        refine bnd1_elim h fun x3 q4 h => ?_
        refine s_callN (kb := []) (ns := []) (v := .sc (.bool x3)) rfl rfl cl118 (wi_isFour p0.n x3 q4) rfl (.cons (.free rfl) .nil) trivial memNil .nil memNil rfl trivial memNil rfl rfl rfl rfl rfl rfl ?_
        refine s_mv (.inl rfl) (by conv => lhs; whnf) rfl rfl rfl ?_
        refine s_split (t := 20) rfl (fun b5 => ?_) (fun b5 => ?_)
        · replace h := cond_t h b5
          refine s_fieldAddr rfl rfl fd60_4 rfl rfl rfl rfl ?_
          refine s_load rfl rfl rfl rfl ty9 rfl (.inr rfl) (by conv => lhs; whnf) rfl rfl rfl ?_
          refine s_of (st_eqS rfl rfl rfl) rfl rfl rfl rfl ?_
          refine s_pickT rfl rfl (by conv => lhs; whnf) rfl rfl rfl ?_
          refine s_mv (.inl rfl) (by conv => lhs; whnf) rfl rfl rfl ?_
          refine s_split (t := 25) rfl (fun b6 => ?_) (fun b6 => ?_)
          · replace h := cond_t h b6
            refine s_fieldAddr rfl rfl fd60_5 rfl rfl rfl rfl ?_
            refine s_load rfl rfl rfl rfl ty9 rfl (.inr rfl) (by conv => lhs; whnf) rfl rfl rfl ?_
            refine s_of (st_eqS rfl rfl rfl) rfl rfl rfl rfl ?_
            refine s_pickT rfl rfl (by conv => lhs; whnf) rfl rfl rfl ?_
            refine s_mv (.inr rfl) (by conv => lhs; whnf) rfl rfl rfl ?_
            refine rt_nil ?_
            refine tri_ret ?_
            have e0 := (some1 h); subst e0
            exact endY [] [] (rvC (resTmp rfl) rvN) trivial trivial rfl rfl rfl rfl (.free rfl)
          · replace h := cond_f h b6
            refine s_skip rfl rfl rfl ?_
            refine s_skip rfl rfl rfl ?_
            refine s_skip rfl rfl rfl ?_
            refine s_pickF rfl rfl (v := .sc (.bool false)) rfl rfl rfl rfl ?_
            refine s_mv (.inr rfl) (by conv => lhs; whnf) rfl rfl rfl ?_
            refine rt_nil ?_
            refine tri_ret ?_
            have e0 := (some1 h); subst e0
            exact endY [] [] (rvC (resTmp rfl) rvN) trivial trivial rfl rfl rfl rfl (.free rfl)
        · replace h := cond_f h b5
          refine s_skip rfl rfl rfl ?_
          refine s_skip rfl rfl rfl ?_
          refine s_skip rfl rfl rfl ?_
          refine s_pickF rfl rfl (v := .sc (.bool false)) rfl rfl rfl rfl ?_
          refine s_mv (.inl rfl) (by conv => lhs; whnf) rfl rfl rfl ?_
          refine s_skip rfl rfl rfl ?_
          refine s_skip rfl rfl rfl ?_
          refine s_skip rfl rfl rfl ?_
          refine s_pickF rfl rfl (v := .sc (.bool false)) rfl rfl rfl rfl ?_
          refine s_mv (.inr rfl) (by conv => lhs; whnf) rfl rfl rfl ?_
          refine rt_nil ?_
          refine tri_ret ?_
          have e0 := (some1 h); subst e0
          exact endY [] [] (rvC (resTmp rfl) rvN) trivial trivial rfl rfl rfl rfl (.free rfl)
      · replace h := cond_f h c2
        refine tri_cutI (ι := { p : Bool // i_RecordOk_j1 p0 p = some r0 }) (fun p => inv_i_RecordOk_1 p0 p.1) ?_ ?_
        · skip
          refine tri_seq ?_
          refine tri_region ?_
          refine s_of (st_eqI rfl rfl rfl) rfl rfl rfl rfl ?_
          refine s_mv (.inr rfl) (by conv => lhs; whnf) rfl rfl rfl ?_
          refine rt_nil ?_
          refine tri_cond rfl (fun c7 => ?_) (fun c7 => ?_)
          · replace h := cond_t h c7
            refine tri_skip ?_
            refine Exists.intro ⟨decide (p0.ty = 2), h⟩ ?_
            refine entX [((1, 0), ⟨60, 6, [[.sc (.string p0.name), .sc (.int .i64 p0.ty), .sc (.int .i64 p0.ttl), .sc (.int .i64 p0.n), .sc (.string p0.host), .sc (.string p0.text)]], false, true⟩, some (1, 0))] [] ⟨⟨rfl, _, rfl, rfl, rfl, rfl, id, rowsCv_one (.cons (.free rfl) (.cons (.free rfl) (.cons (.free rfl) (.cons (.free rfl) (.cons (.free rfl) (.cons (.free rfl) .nil)))))), rowsZ_one rfl⟩, trivial⟩ trivial rfl rfl ?_
            exact ⟨(.ptr rfl), (.free rfl), (.free rfl), trivial⟩
          · replace h := cond_f h c7
            refine tri_region ?_
            refine s_of (st_eqI rfl rfl rfl) rfl rfl rfl rfl ?_
            refine s_mv (.inr rfl) (by conv => lhs; whnf) rfl rfl rfl ?_
            refine rt_nil ?_
            refine Exists.intro ⟨decide (p0.ty = 5), h⟩ ?_
            refine entX [((1, 0), ⟨60, 6, [[.sc (.string p0.name), .sc (.int .i64 p0.ty), .sc (.int .i64 p0.ttl), .sc (.int .i64 p0.n), .sc (.string p0.host), .sc (.string p0.text)]], false, true⟩, some (1, 0))] [] ⟨⟨rfl, _, rfl, rfl, rfl, rfl, id, rowsCv_one (.cons (.free rfl) (.cons (.free rfl) (.cons (.free rfl) (.cons (.free rfl) (.cons (.free rfl) (.cons (.free rfl) .nil)))))), rowsZ_one rfl⟩, trivial⟩ trivial rfl rfl ?_
            exact ⟨(.ptr rfl), (.free rfl), (.free rfl), trivial⟩
        · rintro ⟨j1_0, h⟩
          replace h : i_RecordOk_j1 p0 j1_0 = some r0 := h
          unfold i_RecordOk_j1 at h
          show Tri _ _ _ (inv_i_RecordOk_1 p0 j1_0)
          refine tri_cond rfl (fun c7 => ?_) (fun c7 => ?_)
          · replace h := cond_t h c7
            refine tri_seq ?_
            refine tri_region ?_
            refine s_fieldAddr rfl rfl fd60_3 rfl rfl rfl rfl ?_
            refine s_load rfl rfl rfl rfl ty3 rfl (.inr rfl) (by conv => lhs; whnf) rfl rfl rfl ?_
            refine s_of (st_eqI rfl rfl rfl) rfl rfl rfl rfl ?_
            refine s_mv (.inl rfl) (by conv => lhs; whnf) rfl rfl rfl ?_
            refine s_split (t := 36) rfl (fun b8 => ?_) (fun b8 => ?_)
            · replace h := cond_t h b8
              refine s_fieldAddr rfl rfl fd60_4 rfl rfl rfl rfl ?_
              refine s_load rfl rfl rfl rfl ty9 rfl (.inr rfl) (by conv => lhs; whnf) rfl rfl rfl ?_
              refine bnd1_elim h fun x9 q10 h => ?_
              refine s_callN (kb := []) (ns := []) (v := .sc (.bool x9)) rfl rfl cl50 (wi_NameOk p0.host x9 q10) rfl (.cons (.free rfl) .nil) trivial memNil .nil memNil rfl trivial memNil rfl rfl rfl rfl rfl rfl ?_
              refine s_pickT rfl rfl (by conv => lhs; whnf) rfl rfl rfl ?_
              refine s_mv (.inl rfl) (by conv => lhs; whnf) rfl rfl rfl ?_
              refine s_split (t := 41) rfl (fun b11 => ?_) (fun b11 => ?_)
              · replace h := cond_t h b11
                refine s_fieldAddr rfl rfl fd60_5 rfl rfl rfl rfl ?_
                refine s_load rfl rfl rfl rfl ty9 rfl (.inr rfl) (by conv => lhs; whnf) rfl rfl rfl ?_
                refine s_of (st_eqS rfl rfl rfl) rfl rfl rfl rfl ?_
                refine s_pickT rfl rfl (by conv => lhs; whnf) rfl rfl rfl ?_
                refine s_mv (.inr rfl) (by conv => lhs; whnf) rfl rfl rfl ?_
                refine rt_nil ?_
                refine tri_ret ?_
                have e0 := (some1 h); subst e0
                exact endY [] [] (rvC (resTmp rfl) rvN) trivial trivial rfl rfl rfl rfl (.free rfl)
              · replace h := cond_f h b11
                refine s_skip rfl rfl rfl ?_
                refine s_skip rfl rfl rfl ?_
                refine s_skip rfl rfl rfl ?_
                refine s_pickF rfl rfl (v := .sc (.bool false)) rfl rfl rfl rfl ?_
                refine s_mv (.inr rfl) (by conv => lhs; whnf) rfl rfl rfl ?_
                refine rt_nil ?_
                refine tri_ret ?_
                have e0 := (some1 h); subst e0
                exact endY [] [] (rvC (resTmp rfl) rvN) trivial trivial rfl rfl rfl rfl (.free rfl)
            · replace h := cond_f h b8
              refine s_skip rfl rfl rfl ?_
              refine s_skip rfl rfl rfl ?_
              refine s_skip rfl rfl rfl ?_
              refine s_pickF rfl rfl (v := .sc (.bool false)) rfl rfl rfl rfl ?_
              refine s_mv (.inl rfl) (by conv => lhs; whnf) rfl rfl rfl ?_
              refine s_skip rfl rfl rfl ?_
              refine s_skip rfl rfl rfl ?_
              refine s_skip rfl rfl rfl ?_
              refine s_pickF rfl rfl (v := .sc (.bool false)) rfl rfl rfl rfl ?_
              refine s_mv (.inr rfl) (by conv => lhs; whnf) rfl rfl rfl ?_
              refine rt_nil ?_
              refine tri_ret ?_
              have e0 := (some1 h); subst e0
              exact endY [] [] (rvC (resTmp rfl) rvN) trivial trivial rfl rfl rfl rfl (.free rfl)
          · replace h := cond_f h c7
            refine tri_seq ?_
            refine tri_region ?_
            refine s_of (st_eqI rfl rfl rfl) rfl rfl rfl rfl ?_
            refine s_mv (.inr rfl) (by conv => lhs; whnf) rfl rfl rfl ?_
            refine rt_nil ?_
            refine tri_cond rfl (fun c12 => ?_) (fun c12 => ?_)
            · replace h := cond_t h c12
              refine tri_seq ?_
              refine tri_region ?_
              refine s_fieldAddr rfl rfl fd60_3 rfl rfl rfl rfl ?_
              refine s_load rfl rfl rfl rfl ty3 rfl (.inr rfl) (by conv => lhs; whnf) rfl rfl rfl ?_
              refine bnd1_elim h fun x13 q14 h => ?_
              refine s_callN (kb := []) (ns := []) (v := .sc (.bool x13)) rfl rfl cl117 (wi_isTtl p0.n x13 q14) rfl (.cons (.free rfl) .nil) trivial memNil .nil memNil rfl trivial memNil rfl rfl rfl rfl rfl rfl ?_
              refine s_mv (.inl rfl) (by conv => lhs; whnf) rfl rfl rfl ?_
              refine s_split (t := 51) rfl (fun b15 => ?_) (fun b15 => ?_)
              · replace h := cond_t h b15
                refine s_fieldAddr rfl rfl fd60_4 rfl rfl rfl rfl ?_
                refine s_load rfl rfl rfl rfl ty9 rfl (.inr rfl) (by conv => lhs; whnf) rfl rfl rfl ?_
                refine bnd1_elim h fun x16 q17 h => ?_
                refine s_callN (kb := []) (ns := []) (v := .sc (.bool x16)) rfl rfl cl50 (wi_NameOk p0.host x16 q17) rfl (.cons (.free rfl) .nil) trivial memNil .nil memNil rfl trivial memNil rfl rfl rfl rfl rfl rfl ?_
                refine s_pickT rfl rfl (by conv => lhs; whnf) rfl rfl rfl ?_
                refine s_mv (.inl rfl) (by conv => lhs; whnf) rfl rfl rfl ?_
                refine s_split (t := 56) rfl (fun b18 => ?_) (fun b18 => ?_)
                · replace h := cond_t h b18
                  refine s_fieldAddr rfl rfl fd60_5 rfl rfl rfl rfl ?_
                  refine s_load rfl rfl rfl rfl ty9 rfl (.inr rfl) (by conv => lhs; whnf) rfl rfl rfl ?_
                  refine s_of (st_eqS rfl rfl rfl) rfl rfl rfl rfl ?_
                  refine s_pickT rfl rfl (by conv => lhs; whnf) rfl rfl rfl ?_
                  refine s_mv (.inr rfl) (by conv => lhs; whnf) rfl rfl rfl ?_
                  refine rt_nil ?_
                  refine tri_ret ?_
                  have e0 := (some1 h); subst e0
                  exact endY [] [] (rvC (resTmp rfl) rvN) trivial trivial rfl rfl rfl rfl (.free rfl)
                · replace h := cond_f h b18
                  refine s_skip rfl rfl rfl ?_
                  refine s_skip rfl rfl rfl ?_
                  refine s_skip rfl rfl rfl ?_
                  refine s_pickF rfl rfl (v := .sc (.bool false)) rfl rfl rfl rfl ?_
                  refine s_mv (.inr rfl) (by conv => lhs; whnf) rfl rfl rfl ?_
                  refine rt_nil ?_
                  refine tri_ret ?_
                  have e0 := (some1 h); subst e0
                  exact endY [] [] (rvC (resTmp rfl) rvN) trivial trivial rfl rfl rfl rfl (.free rfl)
              · replace h := cond_f h b15
                refine s_skip rfl rfl rfl ?_
                refine s_skip rfl rfl rfl ?_
                refine s_skip rfl rfl rfl ?_
                refine s_pickF rfl rfl (v := .sc (.bool false)) rfl rfl rfl rfl ?_
                refine s_mv (.inl rfl) (by conv => lhs; whnf) rfl rfl rfl ?_
                refine s_skip rfl rfl rfl ?_
                refine s_skip rfl rfl rfl ?_
                refine s_skip rfl rfl rfl ?_
                refine s_pickF rfl rfl (v := .sc (.bool false)) rfl rfl rfl rfl ?_
                refine s_mv (.inr rfl) (by conv => lhs; whnf) rfl rfl rfl ?_
                refine rt_nil ?_
                refine tri_ret ?_
                have e0 := (some1 h); subst e0
                exact endY [] [] (rvC (resTmp rfl) rvN) trivial trivial rfl rfl rfl rfl (.free rfl)
            · replace h := cond_f h c12
              refine tri_seq ?_
              refine tri_region ?_
              refine s_of (st_eqI rfl rfl rfl) rfl rfl rfl rfl ?_
              refine s_mv (.inr rfl) (by conv => lhs; whnf) rfl rfl rfl ?_
              refine rt_nil ?_
              refine tri_cond rfl (fun c19 => ?_) (fun c19 => ?_)
              · replace h := cond_t h c19
                refine tri_seq ?_
                refine tri_region ?_
                refine s_fieldAddr rfl rfl fd60_3 rfl rfl rfl rfl ?_
                refine s_load rfl rfl rfl rfl ty3 rfl (.inr rfl) (by conv => lhs; whnf) rfl rfl rfl ?_
                refine s_of (st_eqI rfl rfl rfl) rfl rfl rfl rfl ?_
                refine s_mv (.inl rfl) (by conv => lhs; whnf) rfl rfl rfl ?_
                refine s_split (t := 66) rfl (fun b20 => ?_) (fun b20 => ?_)
                · replace h := cond_t h b20
                  refine s_fieldAddr rfl rfl fd60_4 rfl rfl rfl rfl ?_
                  refine s_load rfl rfl rfl rfl ty9 rfl (.inr rfl) (by conv => lhs; whnf) rfl rfl rfl ?_
                  refine s_of (st_eqS rfl rfl rfl) rfl rfl rfl rfl ?_
                  refine s_pickT rfl rfl (by conv => lhs; whnf) rfl rfl rfl ?_
                  refine s_mv (.inl rfl) (by conv => lhs; whnf) rfl rfl rfl ?_
                  refine s_split (t := 71) rfl (fun b21 => ?_) (fun b21 => ?_)
                  · replace h := cond_t h b21
                    refine s_fieldAddr rfl rfl fd60_5 rfl rfl rfl rfl ?_
                    refine s_load rfl rfl rfl rfl ty9 rfl (.inr rfl) (by conv => lhs; whnf) rfl rfl rfl ?_
                    refine bnd1_elim h fun x22 q23 h => ?_
                    refine s_callN (kb := []) (ns := []) (v := .sc (.bool x22)) rfl rfl cl119 (wi_isText p0.text x22 q23) rfl (.cons (.free rfl) .nil) trivial memNil .nil memNil rfl trivial memNil rfl rfl rfl rfl rfl rfl ?_
                    refine s_pickT rfl rfl (by conv => lhs; whnf) rfl rfl rfl ?_
                    refine s_mv (.inr rfl) (by conv => lhs; whnf) rfl rfl rfl ?_
                    refine rt_nil ?_
                    refine tri_ret ?_
                    have e0 := (some1 h); subst e0
                    exact endY [] [] (rvC (resTmp rfl) rvN) trivial trivial rfl rfl rfl rfl (.free rfl)
                  · replace h := cond_f h b21
                    refine s_skip rfl rfl rfl ?_
                    refine s_skip rfl rfl rfl ?_
                    refine s_skip rfl rfl rfl ?_
                    refine s_pickF rfl rfl (v := .sc (.bool false)) rfl rfl rfl rfl ?_
                    refine s_mv (.inr rfl) (by conv => lhs; whnf) rfl rfl rfl ?_
                    refine rt_nil ?_
                    refine tri_ret ?_
                    have e0 := (some1 h); subst e0
                    exact endY [] [] (rvC (resTmp rfl) rvN) trivial trivial rfl rfl rfl rfl (.free rfl)
                · replace h := cond_f h b20
                  refine s_skip rfl rfl rfl ?_
                  refine s_skip rfl rfl rfl ?_
                  refine s_skip rfl rfl rfl ?_
                  refine s_pickF rfl rfl (v := .sc (.bool false)) rfl rfl rfl rfl ?_
                  refine s_mv (.inl rfl) (by conv => lhs; whnf) rfl rfl rfl ?_
                  refine s_skip rfl rfl rfl ?_
                  refine s_skip rfl rfl rfl ?_
                  refine s_skip rfl rfl rfl ?_
                  refine s_pickF rfl rfl (v := .sc (.bool false)) rfl rfl rfl rfl ?_
                  refine s_mv (.inr rfl) (by conv => lhs; whnf) rfl rfl rfl ?_
                  refine rt_nil ?_
                  refine tri_ret ?_
                  have e0 := (some1 h); subst e0
                  exact endY [] [] (rvC (resTmp rfl) rvN) trivial trivial rfl rfl rfl rfl (.free rfl)
              · replace h := cond_f h c19
                refine tri_skip ?_
                refine tri_seq ?_
                refine tri_region ?_
                refine s_mv (.inr rfl) (v := .sc (.bool false)) rfl rfl rfl rfl ?_
                refine rt_nil ?_
                refine tri_ret ?_
                have e0 := (some1 h); subst e0
                exact endY [] [] (rvC (resTmp rfl) rvN) trivial trivial rfl rfl rfl rfl (.free rfl)

/- impl.allOk$1 -/

set_option maxRecDepth 4000 in
set_option maxHeartbeats 800000 in
theorem wi_allOk_1 (p0 : Rec) (r0 : Bool) (h : i_allOk_1 p0 = some r0) : Runs Tryd.prog 93 [.agg (recV p0)] [] (.sc (.bool r0)) [] := by
  unfold i_allOk_1 at h
  refine runsR [.tmp 2] Tryd.func93 rfl rfl rfl rfl ?_
  rw [Tryd.ntmps93]
  refine tri_seq ?_
  refine tri_region ?_
  refine s_box rfl rfl rfl rfl rfl rfl rfl ?_
  refine s_mv (.inr rfl) (v := .sc (.bool false)) rfl rfl rfl rfl ?_
  refine rt_nil ?_
  refine tri_seq ?_
  refine tri_region ?_
  refine s_loadR rfl rfl rfl rfl ty60 rfl rfl rfl ?_
  refine bnd1_elim h fun x1 q2 h => ?_
  refine s_callN (kb := []) (ns := []) (v := .sc (.bool x1)) rfl rfl cl94 (wi_RecordOk p0 x1 q2) rfl (.cons (relAgg rfl) .nil) trivial memNil .nil memNil rfl trivial memNil rfl rfl rfl rfl rfl rfl ?_
  refine s_of (st_not rfl rfl) rfl rfl rfl rfl ?_
  refine s_mv (.inr rfl) (by conv => lhs; whnf) rfl rfl rfl ?_
  refine rt_nil ?_
  refine tri_ret ?_
  have e0 := (some1 h); subst e0
  exact endY [] [] (rvC (resTmp rfl) rvN) trivial trivial rfl rfl rfl rfl (.free rfl)

/- impl.allOk -/

set_option maxRecDepth 4000 in
set_option maxHeartbeats 800000 in
theorem wi_allOk (p0 : List Rec) (p1 : Int) (r0 : Bool) (h : i_allOk p0 p1 = some r0) : Runs Tryd.prog 48 [.lst 6 (List.map recV p0), .sc (.int .i64 p1)] [] (.sc (.bool r0)) [] := by
  unfold i_allOk at h
  refine runsR [.tmp 4] Tryd.func48 rfl rfl rfl rfl ?_
  rw [Tryd.ntmps48]
  refine tri_seq ?_
  refine tri_region ?_
  refine s_mv (.inr rfl) (v := .sc (.bool false)) rfl rfl rfl rfl ?_
  refine rt_nil ?_
  refine tri_seq ?_
  refine tri_region ?_
  refine s_mv (.inl rfl) (by conv => lhs; whnf) rfl rfl rfl ?_
  refine s_lenL rfl sl30 rfl rfl rfl rfl ?_
  refine s_mv (.inl rfl) (by conv => lhs; whnf) rfl rfl rfl ?_
  refine s_of (st_leq rfl rfl rfl) rfl rfl rfl rfl ?_
  refine s_mv (.inl rfl) (by conv => lhs; whnf) rfl rfl rfl ?_
  refine s_split (t := 9) rfl (fun b1 => ?_) (fun b1 => ?_)
  · replace h := cond_t h b1
    refine s_mv (.inl rfl) (by conv => lhs; whnf) rfl rfl rfl ?_
    refine bnd1_elim h fun x2 q3 h => ?_
    refine s_callN (kb := []) (ns := []) (v := .sc (.bool x2)) rfl rfl cl92 (wslices_ContainsFunc_Record p0 93 [] rfl cl93 (fun a0 => i_allOk_1 a0) (fun a0 v0 hv => wi_allOk_1 a0 v0 hv) x2 q3) rfl (.cons (.free rfl) (.cons relFn0 .nil)) trivial memNil .nil memNil rfl trivial memNil rfl rfl rfl rfl rfl rfl ?_
    refine s_of (st_not rfl rfl) rfl rfl rfl rfl ?_
    refine s_pickT rfl rfl (by conv => lhs; whnf) rfl rfl rfl ?_
    refine s_mv (.inr rfl) (by conv => lhs; whnf) rfl rfl rfl ?_
    refine rt_nil ?_
    refine tri_ret ?_
    have e0 := (some1 h); subst e0
    exact endY [] [] (rvC (resTmp rfl) rvN) trivial trivial rfl rfl rfl rfl (.free rfl)
  · replace h := cond_f h b1
    refine s_skip rfl rfl rfl ?_
    refine s_skip rfl rfl rfl ?_
    refine s_skip rfl rfl rfl ?_
    refine s_pickF rfl rfl (v := .sc (.bool false)) rfl rfl rfl rfl ?_
    refine s_mv (.inr rfl) (by conv => lhs; whnf) rfl rfl rfl ?_
    refine rt_nil ?_
    refine tri_ret ?_
    have e0 := (some1 h); subst e0
    exact endY [] [] (rvC (resTmp rfl) rvN) trivial trivial rfl rfl rfl rfl (.free rfl)

/- impl.SetOf -/
def inv_i_SetOf_1 (p0 : List Rec) (p1 : ByteArray) (p2 : Int) (v0_0 : List Rec) (v0_1 : Nat) (e0 : Rec) (j1_0 : Bool) : St := mkT 33 [(1, .sc (.string p1)), (2, .sc (.int .i64 p2)), (7, .ref (2007, 0) 0 v0_0.length), (9, .ptr (9, 0) 0 0), (11, .lst 6 (List.map recV p0)), (12, .sc (.int .i64 (p0.length : Int))), (13, .sc (.int .i64 (v0_1 : Int))), (26, .sc (.bool j1_0))] [((2007, 0), some ⟨60, 6, List.map recV v0_0, false, true⟩), ((9, 0), some ⟨60, 6, [[.sc (.string e0.name), .sc (.int .i64 e0.ty), .sc (.int .i64 e0.ttl), .sc (.int .i64 e0.n), .sc (.string e0.host), .sc (.string e0.text)]], false, true⟩)]
def inv_i_SetOf_0 (p0 : List Rec) (p1 : ByteArray) (p2 : Int) (v0_0 : List Rec) (v0_1 : Nat) : St := mkT 33 [(1, .sc (.string p1)), (2, .sc (.int .i64 p2)), (7, .ref (2007, 0) 0 v0_0.length), (11, .lst 6 (List.map recV p0)), (12, .sc (.int .i64 (p0.length : Int))), (13, .sc (.int .i64 (v0_1 : Int)))] [((2007, 0), some ⟨60, 6, List.map recV v0_0, false, true⟩)]
set_option maxRecDepth 4000 in
set_option maxHeartbeats 800000 in
theorem wi_SetOf (p0 : List Rec) (p1 : ByteArray) (p2 : Int) (r0 : List Rec) (h : i_SetOf p0 p1 p2 = some r0) : Runs Tryd.prog 49 [.lst 6 (List.map recV p0), .sc (.string p1), .sc (.int .i64 p2)] [] (.own 60 6 (List.map recV r0)) [] := by
  unfold i_SetOf at h
  refine runsR [.tmp 6] Tryd.func49 rfl rfl rfl rfl ?_
  rw [Tryd.ntmps49]
  refine tri_seq ?_
  refine tri_region ?_
  refine s_mv (.inr rfl) (v := .nils) rfl rfl rfl rfl ?_
  refine rt_nil ?_
  refine tri_seq ?_
  refine tri_region ?_
  refine s_buildSlice (rows' := List.map recV ([] : List Rec)) rfl rfl rfl sl30 zc60 rfl rfl rfl rfl rfl rfl rfl rfl rfl ?_
  refine s_mv (.inr rfl) (by conv => lhs; whnf) rfl rfl rfl ?_
  refine rt_nil ?_
  refine tri_seq ?_
  refine tri_seq ?_
  refine tri_region ?_
  refine s_mv (.inl rfl) (by conv => lhs; whnf) rfl rfl rfl ?_
  refine s_lenL rfl sl30 rfl rfl rfl rfl ?_
  refine s_mv (.inl rfl) (v := .sc (.int .i64 0)) rfl rfl rfl rfl ?_
  refine rt_nil ?_
  refine tri_block ?_
  refine tri_lstM 0 rfl (fun hl0 => ?_)
  refine tri_loop (ι := { p : (List Rec) × (List Rec) × Nat // p0.drop p.2.2 = p.1 ∧ i_SetOf_l0 p1 p2 p.1 p.2.1 p.2.2 = some r0 }) (fun p => inv_i_SetOf_0 p0 p1 p2 p.1.2.1 p.1.2.2) (fun p => p.1.1.length) ⟨(p0, ([] : List Rec), 0), rfl, h⟩ ?_ ?_
  · skip
    refine entX [((2007, 0), ⟨60, 6, List.map recV ([] : List Rec), false, true⟩, some (10, 0))] [] ⟨⟨rfl, _, rfl, rfl, rfl, rfl, id, rowsCv_eq rfl (allFree_map recV_free), rowsZ_map recV_len⟩, trivial⟩ trivial rfl rfl ?_
    exact ⟨(.free rfl), (.free rfl), (.ref rfl), (.free rfl), (.free rfl), (.free rfl), trivial⟩
  · rintro ⟨⟨lrs0, v0_0, v0_1⟩, hd0, h⟩
    replace hd0 : p0.drop v0_1 = lrs0 := hd0
    replace h : i_SetOf_l0 p1 p2 lrs0 v0_0 v0_1 = some r0 := h
    show Tri _ _ _ (inv_i_SetOf_0 p0 p1 p2 v0_0 v0_1)
    refine tri_seq ?_
    refine tri_region ?_
    refine s_of (st_lss rfl rfl rfl) rfl rfl rfl rfl ?_
    refine rt_nil ?_
    refine tri_seq ?_
    refine tri_cond rfl (fun c1 => ?_) (fun c1 => ?_)
    · refine drop_elim hd0 c1 fun e0 rs0 he hx0 hn0 => ?_
      subst he
      rw [i_SetOf_l0] at h
      refine tri_skip ?_
      refine tri_seq ?_
      refine tri_block ?_
      refine tri_seq ?_
      refine tri_region ?_
      refine s_indexF (i := v0_1) rfl rfl rfl sl30 (get_ltM hx0) rfl rfl rfl ?_
      refine s_loadFR rfl rfl (rowG hx0) ty60 rfl rfl rfl ?_
      refine s_alloc rfl rfl rfl zc60 rfl rfl rfl rfl rfl ?_
      refine s_storeB rfl rfl rfl ty60 rfl rfl rfl rfl rfl ?_
      refine rt_nil ?_
      refine tri_cutI (ι := { p : Bool // i_SetOf_j1 v0_0 v0_1 e0 (i_SetOf_l0 p1 p2 rs0) p = some r0 }) (fun p => inv_i_SetOf_1 p0 p1 p2 v0_0 v0_1 e0 p.1) ?_ ?_
      · skip
        refine tri_region ?_
        refine s_fieldAddr rfl rfl fd60_0 rfl rfl rfl rfl ?_
        refine s_load rfl rfl rfl rfl ty9 rfl (.inr rfl) (by conv => lhs; whnf) rfl rfl rfl ?_
        refine s_mv (.inl rfl) (by conv => lhs; whnf) rfl rfl rfl ?_
        refine s_of (st_eqS rfl rfl rfl) rfl rfl rfl rfl ?_
        refine s_mv (.inl rfl) (by conv => lhs; whnf) rfl rfl rfl ?_
        refine s_split (t := 21) rfl (fun b2 => ?_) (fun b2 => ?_)
        · replace h := cond_t h b2
          refine s_fieldAddr rfl rfl fd60_1 rfl rfl rfl rfl ?_
          refine s_load rfl rfl rfl rfl ty3 rfl (.inr rfl) (by conv => lhs; whnf) rfl rfl rfl ?_
          refine s_mv (.inl rfl) (by conv => lhs; whnf) rfl rfl rfl ?_
          refine s_of (st_eqI rfl rfl rfl) rfl rfl rfl rfl ?_
          refine s_pickT rfl rfl (by conv => lhs; whnf) rfl rfl rfl ?_
          refine rt_nil ?_
          refine Exists.intro ⟨decide (e0.ty = p2), h⟩ ?_
          refine entX [((2007, 0), ⟨60, 6, List.map recV v0_0, false, true⟩, some (2007, 0)), ((9, 0), ⟨60, 6, [[.sc (.string e0.name), .sc (.int .i64 e0.ty), .sc (.int .i64 e0.ttl), .sc (.int .i64 e0.n), .sc (.string e0.host), .sc (.string e0.text)]], false, true⟩, some (9, 0))] [] ⟨⟨rfl, _, rfl, rfl, rfl, rfl, id, rowsCv_eq rfl (allFree_map recV_free), rowsZ_map recV_len⟩, ⟨rfl, _, rfl, rfl, rfl, rfl, id, rowsCv_one (.cons (.free rfl) (.cons (.free rfl) (.cons (.free rfl) (.cons (.free rfl) (.cons (.free rfl) (.cons (.free rfl) .nil)))))), rowsZ_one rfl⟩, trivial⟩ trivial rfl rfl ?_
          exact ⟨(.free rfl), (.free rfl), (.ref rfl), (.ptr rfl), (.free rfl), (.free rfl), (.free rfl), (.free rfl), trivial⟩
        · replace h := cond_f h b2
          refine s_skip rfl rfl rfl ?_
          refine s_skip rfl rfl rfl ?_
          refine s_skip rfl rfl rfl ?_
          refine s_skip rfl rfl rfl ?_
          refine s_pickF rfl rfl (v := .sc (.bool false)) rfl rfl rfl rfl ?_
          refine rt_nil ?_
          refine Exists.intro ⟨false, h⟩ ?_
          refine entX [((2007, 0), ⟨60, 6, List.map recV v0_0, false, true⟩, some (2007, 0)), ((9, 0), ⟨60, 6, [[.sc (.string e0.name), .sc (.int .i64 e0.ty), .sc (.int .i64 e0.ttl), .sc (.int .i64 e0.n), .sc (.string e0.host), .sc (.string e0.text)]], false, true⟩, some (9, 0))] [] ⟨⟨rfl, _, rfl, rfl, rfl, rfl, id, rowsCv_eq rfl (allFree_map recV_free), rowsZ_map recV_len⟩, ⟨rfl, _, rfl, rfl, rfl, rfl, id, rowsCv_one (.cons (.free rfl) (.cons (.free rfl) (.cons (.free rfl) (.cons (.free rfl) (.cons (.free rfl) (.cons (.free rfl) .nil)))))), rowsZ_one rfl⟩, trivial⟩ trivial rfl rfl ?_
          exact ⟨(.free rfl), (.free rfl), (.ref rfl), (.ptr rfl), (.free rfl), (.free rfl), (.free rfl), (.free rfl), trivial⟩
      · rintro ⟨j1_0, h⟩
        replace h : i_SetOf_j1 v0_0 v0_1 e0 (i_SetOf_l0 p1 p2 rs0) j1_0 = some r0 := h
        unfold i_SetOf_j1 at h
        show Tri _ _ _ (inv_i_SetOf_1 p0 p1 p2 v0_0 v0_1 e0 j1_0)
        refine tri_cond rfl (fun c2 => ?_) (fun c2 => ?_)
        · replace h := cond_t h c2
          refine tri_region ?_
          refine s_mv (.inl rfl) (by conv => lhs; whnf) rfl rfl rfl ?_
          refine s_loadR rfl rfl rfl rfl ty60 rfl rfl rfl ?_
          refine s_buildSlice (rows' := List.map recV [e0]) rfl rfl rfl sl30 zc60 rfl rfl rfl rfl rfl rfl rfl rfl rfl ?_
          refine grd_elim h fun g3 h => ?_
          refine s_appL rfl rfl rfl sl30 zc60 rfl rfl rfl rfl rfl rfl (src_refL rfl rfl) g3 rfl rfl ?_
          refine s_mv (.inr rfl) (by conv => lhs; whnf) rfl rfl rfl ?_
          refine rt_nil ?_
          refine tri_region ?_
          refine s_inc (a := v0_1) (b := 1) rfl rfl rfl rfl (by have := get_lt hx0; have := hl0; omega) rfl rfl rfl ?_
          refine s_mv (.inl rfl) (by conv => lhs; whnf) rfl rfl rfl ?_
          refine rt_nil ?_
          refine Exists.intro ⟨(rs0, v0_0 ++ [e0], (v0_1 + 1)), hn0, h⟩ (And.intro (Nat.lt_succ_self _) ?_)
          refine entX [((2007, 0), ⟨60, 6, List.map recV (v0_0 ++ [e0]), false, true⟩, some (30, 0))] [] ⟨⟨rfl, _, rfl, rfl, rfl, rfl, id, rowsCv_eq rfl (allFree_map recV_free), rowsZ_map recV_len⟩, trivial⟩ trivial rfl rfl ?_
          exact ⟨(.free rfl), (.free rfl), (.ref rfl), (.free rfl), (.free rfl), (.free rfl), trivial⟩
        · replace h := cond_f h c2
          refine tri_skip ?_
          refine tri_region ?_
          refine s_inc (a := v0_1) (b := 1) rfl rfl rfl rfl (by have := get_lt hx0; have := hl0; omega) rfl rfl rfl ?_
          refine s_mv (.inl rfl) (by conv => lhs; whnf) rfl rfl rfl ?_
          refine rt_nil ?_
          refine Exists.intro ⟨(rs0, v0_0, (v0_1 + 1)), hn0, h⟩ (And.intro (Nat.lt_succ_self _) ?_)
          refine entX [((2007, 0), ⟨60, 6, List.map recV v0_0, false, true⟩, some (2007, 0))] [] ⟨⟨rfl, _, rfl, rfl, rfl, rfl, id, rowsCv_eq rfl (allFree_map recV_free), rowsZ_map recV_len⟩, trivial⟩ trivial rfl rfl ?_
          exact ⟨(.free rfl), (.free rfl), (.ref rfl), (.free rfl), (.free rfl), (.free rfl), trivial⟩
    · have he := drop_f hd0 c1; subst he
      rw [i_SetOf_l0] at h
      refine tri_exit ?_
      refine tri_seq ?_
      refine tri_region ?_
      refine s_mv (.inl rfl) (by conv => lhs; whnf) rfl rfl rfl ?_
      refine s_mv (.inr rfl) (by conv => lhs; whnf) rfl rfl rfl ?_
      refine rt_nil ?_
      refine tri_ret ?_
      have e0 := (some1 h); subst e0
      exact endY (v' := .ref (2000, 0) 0 v0_0.length) [((2000, 0), ⟨60, 6, List.map recV v0_0, false, true⟩, some (2007, 0))] [] (rvC (resTmp rfl) rvN) ⟨⟨rfl, _, rfl, rfl, rfl, rfl, id, rowsCv_eq rfl (allFree_map recV_free), rowsZ_map recV_len⟩, trivial⟩ trivial rfl rfl (by kernel_rfl) (by first | (simp only [V.mat, V.mat1, V.mat0, matL, matT, List.length_map]; done) | (simp only [V.mat, V.mat1, V.mat0, matL, matT, List.length_map]; rfl)) (.ref rfl)

/- impl.EntryOk -/
def inv_i_EntryOk_0 (p0 : MEntry) (j0_0 : Bool) : St := mkT 79 [(1, .ptr (1, 0) 0 0), (15, .sc (.bool j0_0))] [((1, 0), some ⟨32, 6, [[.sc (.string p0.q.name), .sc (.int .i64 p0.q.ty), .sc (.int .i64 p0.kind), .lst 6 (List.map recV p0.l), .sc (.int .i64 p0.rank), .sc (.int .i64 p0.til)]], false, true⟩)]
set_option maxRecDepth 4000 in
set_option maxHeartbeats 800000 in
theorem wi_EntryOk (p0 : MEntry) (r0 : Bool) (h : i_EntryOk p0 = some r0) : Runs Tryd.prog 12 [.agg (mEntryV p0)] [] (.sc (.bool r0)) [] := by
  unfold i_EntryOk at h
  refine runsR [.tmp 2] Tryd.func12 rfl rfl rfl rfl ?_
  rw [Tryd.ntmps12]
  refine tri_seq ?_
  refine tri_region ?_
  refine s_box rfl rfl rfl rfl rfl rfl rfl ?_
  refine s_mv (.inr rfl) (v := .sc (.bool false)) rfl rfl rfl rfl ?_
  refine rt_nil ?_
  refine tri_seq ?_
  refine tri_cutI (ι := { p : Bool // i_EntryOk_j0 p0 p = some r0 }) (fun p => inv_i_EntryOk_0 p0 p.1) ?_ ?_
  · skip
    refine tri_region ?_
    refine s_fieldAddr rfl rfl fd32_3 rfl rfl rfl rfl ?_
    refine s_load rfl rfl rfl rfl ty3 rfl (.inr rfl) (by conv => lhs; whnf) rfl rfl rfl ?_
    refine s_of (st_lss rfl rfl rfl) rfl rfl rfl rfl ?_
    refine s_mv (.inl rfl) (by conv => lhs; whnf) rfl rfl rfl ?_
    refine s_split (t := 6) rfl (fun b1 => ?_) (fun b1 => ?_)
    · replace h := cond_t h b1
      refine s_skip rfl rfl rfl ?_
      refine s_skip rfl rfl rfl ?_
      refine s_skip rfl rfl rfl ?_
      refine s_pickT rfl rfl (v := .sc (.bool true)) rfl rfl rfl rfl ?_
      refine s_mv (.inl rfl) (by conv => lhs; whnf) rfl rfl rfl ?_
      refine s_skip rfl rfl rfl ?_
      refine s_skip rfl rfl rfl ?_
      refine s_skip rfl rfl rfl ?_
      refine s_pickT rfl rfl (v := .sc (.bool true)) rfl rfl rfl rfl ?_
      refine rt_nil ?_
      refine Exists.intro ⟨true, h⟩ ?_
      refine entX [((1, 0), ⟨32, 6, [[.sc (.string p0.q.name), .sc (.int .i64 p0.q.ty), .sc (.int .i64 p0.kind), .lst 6 (List.map recV p0.l), .sc (.int .i64 p0.rank), .sc (.int .i64 p0.til)]], false, true⟩, some (1, 0))] [] ⟨⟨rfl, _, rfl, rfl, rfl, rfl, id, rowsCv_one (.cons (.free rfl) (.cons (.free rfl) (.cons (.free rfl) (.cons (.free rfl) (.cons (.free rfl) (.cons (.free rfl) .nil)))))), rowsZ_one rfl⟩, trivial⟩ trivial rfl rfl ?_
      exact ⟨(.ptr rfl), (.free rfl), trivial⟩
    · replace h := cond_f h b1
      refine s_fieldAddr rfl rfl fd32_3 rfl rfl rfl rfl ?_
      refine s_load rfl rfl rfl rfl ty3 rfl (.inr rfl) (by conv => lhs; whnf) rfl rfl rfl ?_
      refine s_of (st_gtr rfl rfl rfl) rfl rfl rfl rfl ?_
      refine s_pickF rfl rfl (by conv => lhs; whnf) rfl rfl rfl ?_
      refine s_mv (.inl rfl) (by conv => lhs; whnf) rfl rfl rfl ?_
      refine s_split (t := 11) rfl (fun b2 => ?_) (fun b2 => ?_)
      · replace h := cond_t h b2
        refine s_skip rfl rfl rfl ?_
        refine s_skip rfl rfl rfl ?_
        refine s_skip rfl rfl rfl ?_
        refine s_pickT rfl rfl (v := .sc (.bool true)) rfl rfl rfl rfl ?_
        refine rt_nil ?_
        refine Exists.intro ⟨true, h⟩ ?_
        refine entX [((1, 0), ⟨32, 6, [[.sc (.string p0.q.name), .sc (.int .i64 p0.q.ty), .sc (.int .i64 p0.kind), .lst 6 (List.map recV p0.l), .sc (.int .i64 p0.rank), .sc (.int .i64 p0.til)]], false, true⟩, some (1, 0))] [] ⟨⟨rfl, _, rfl, rfl, rfl, rfl, id, rowsCv_one (.cons (.free rfl) (.cons (.free rfl) (.cons (.free rfl) (.cons (.free rfl) (.cons (.free rfl) (.cons (.free rfl) .nil)))))), rowsZ_one rfl⟩, trivial⟩ trivial rfl rfl ?_
        exact ⟨(.ptr rfl), (.free rfl), trivial⟩
      · replace h := cond_f h b2
        refine s_fieldAddr rfl rfl fd32_4 rfl rfl rfl rfl ?_
        refine s_load rfl rfl rfl rfl ty3 rfl (.inr rfl) (by conv => lhs; whnf) rfl rfl rfl ?_
        refine s_of (st_lss rfl rfl rfl) rfl rfl rfl rfl ?_
        refine s_pickF rfl rfl (by conv => lhs; whnf) rfl rfl rfl ?_
        refine rt_nil ?_
        refine Exists.intro ⟨decide (p0.til < 0), h⟩ ?_
        refine entX [((1, 0), ⟨32, 6, [[.sc (.string p0.q.name), .sc (.int .i64 p0.q.ty), .sc (.int .i64 p0.kind), .lst 6 (List.map recV p0.l), .sc (.int .i64 p0.rank), .sc (.int .i64 p0.til)]], false, true⟩, some (1, 0))] [] ⟨⟨rfl, _, rfl, rfl, rfl, rfl, id, rowsCv_one (.cons (.free rfl) (.cons (.free rfl) (.cons (.free rfl) (.cons (.free rfl) (.cons (.free rfl) (.cons (.free rfl) .nil)))))), rowsZ_one rfl⟩, trivial⟩ trivial rfl rfl ?_
        exact ⟨(.ptr rfl), (.free rfl), trivial⟩
  · rintro ⟨j0_0, h⟩
    replace h : i_EntryOk_j0 p0 j0_0 = some r0 := h
    unfold i_EntryOk_j0 at h
    show Tri _ _ _ (inv_i_EntryOk_0 p0 j0_0)
    refine tri_cond rfl (fun c1 => ?_) (fun c1 => ?_)
    · replace h := cond_t h c1
      refine tri_seq ?_
      refine tri_region ?_
      refine s_mv (.inr rfl) (v := .sc (.bool false)) rfl rfl rfl rfl ?_
      refine rt_nil ?_
      refine tri_ret ?_
      have e0 := (some1 h); subst e0
      exact endY [] [] (rvC (resTmp rfl) rvN) trivial trivial rfl rfl rfl rfl (.free rfl)
    · replace h := cond_f h c1
      refine tri_skip ?_
      refine tri_seq ?_
      refine tri_seq ?_
      refine tri_region ?_
      refine s_fieldAddr rfl rfl fd32_1 rfl rfl rfl rfl ?_
      refine s_load rfl rfl rfl rfl ty3 rfl (.inr rfl) (by conv => lhs; whnf) rfl rfl rfl ?_
      refine rt_nil ?_
      refine tri_block ?_
      refine tri_seq ?_
      refine tri_region ?_
      refine s_of (st_eqI rfl rfl rfl) rfl rfl rfl rfl ?_
      refine s_mv (.inr rfl) (by conv => lhs; whnf) rfl rfl rfl ?_
      refine rt_nil ?_
      refine tri_cond rfl (fun c2 => ?_) (fun c2 => ?_)
      · replace h := cond_t h c2
        refine tri_seq ?_
        refine tri_draw mixed ?_
        refine s_fieldAddr rfl rfl fd32_0 rfl rfl rfl rfl ?_
        refine s_load (v := .agg (questV p0.q)) rfl rfl rfl rfl ty29 rfl (.inl rfl) rfl rfl rfl rfl ?_
        refine bnd1_elim h fun x3 q4 h => ?_
        refine s_callN (kb := []) (ns := []) (v := .sc (.bool x3)) rfl rfl cl47 (wi_QuestOk p0.q x3 q4) rfl (.cons (relAgg rfl) .nil) trivial memNil .nil memNil rfl trivial memNil rfl rfl rfl rfl rfl rfl ?_
        refine s_mv (.inl rfl) (by conv => lhs; whnf) rfl rfl rfl ?_
        refine s_split (t := 23) rfl (fun b5 => ?_) (fun b5 => ?_)
        · replace h := cond_t h b5
          refine s_fieldAddr rfl rfl fd32_2 rfl rfl rfl rfl ?_
          refine s_load rfl rfl rfl rfl ty30 rfl (.inr rfl) (by conv => lhs; whnf) rfl rfl rfl ?_
          refine s_lenL rfl sl30 rfl rfl rfl rfl ?_
          refine s_of (st_gtr rfl rfl rfl) rfl rfl rfl rfl ?_
          refine s_pickT rfl rfl (by conv => lhs; whnf) rfl rfl rfl ?_
          refine s_mv (.inl rfl) (by conv => lhs; whnf) rfl rfl rfl ?_
          refine s_split (t := 29) rfl (fun b6 => ?_) (fun b6 => ?_)
          · replace h := cond_t h b6
            refine s_fieldAddr rfl rfl fd32_2 rfl rfl rfl rfl ?_
            refine s_load rfl rfl rfl rfl ty30 rfl (.inr rfl) (by conv => lhs; whnf) rfl rfl rfl ?_
            refine bnd1_elim h fun x7 q8 h => ?_
            refine s_callN (kb := []) (ns := []) (v := .sc (.bool x7)) rfl rfl cl48 (wi_allOk p0.l 8 x7 q8) rfl (.cons (.free rfl) (.cons (.free rfl) .nil)) trivial memNil .nil memNil rfl trivial memNil rfl rfl rfl rfl rfl rfl ?_
            refine s_pickT rfl rfl (by conv => lhs; whnf) rfl rfl rfl ?_
            refine s_mv (.inl rfl) (by conv => lhs; whnf) rfl rfl rfl ?_
            refine s_split (t := 34) rfl (fun b9 => ?_) (fun b9 => ?_)
            · replace h := cond_t h b9
              refine s_fieldAddr rfl rfl fd32_2 rfl rfl rfl rfl ?_
              refine s_load rfl rfl rfl rfl ty30 rfl (.inr rfl) (by conv => lhs; whnf) rfl rfl rfl ?_
              refine s_fieldAddr rfl rfl fd32_0 rfl rfl rfl rfl ?_
              refine s_fieldAddr rfl rfl fd29_0 rfl rfl rfl rfl ?_
              refine s_load rfl rfl rfl rfl ty9 rfl (.inr rfl) (by conv => lhs; whnf) rfl rfl rfl ?_
              refine s_fieldAddr rfl rfl fd32_0 rfl rfl rfl rfl ?_
              refine s_fieldAddr rfl rfl fd29_1 rfl rfl rfl rfl ?_
              refine s_load rfl rfl rfl rfl ty3 rfl (.inr rfl) (by conv => lhs; whnf) rfl rfl rfl ?_
              refine bnd1_elim h fun x10 q11 h => ?_
              refine s_callN (kb := []) (ns := []) (v := .ref (43, 0) 0 x10.length) rfl rfl cl49 (wi_SetOf p0.l p0.q.name p0.q.ty x10 q11) rfl (.cons (.free rfl) (.cons (.free rfl) (.cons (.free rfl) .nil))) trivial memNil .nil memNil rfl ⟨(allSc_map recV_sc), trivial⟩ memNil rfl (by first | (simp only [V.mat, V.mat1, V.mat0, matL, matT, List.length_map]; done) | (simp only [V.mat, V.mat1, V.mat0, matL, matT, List.length_map]; rfl)) rfl rfl rfl rfl ?_
              refine s_len (m := x10.length) rfl sl30 rfl rfl rfl rfl ?_
              refine s_fieldAddr rfl rfl fd32_2 rfl rfl rfl rfl ?_
              refine s_load rfl rfl rfl rfl ty30 rfl (.inr rfl) (by conv => lhs; whnf) rfl rfl rfl ?_
              refine s_lenL rfl sl30 rfl rfl rfl rfl ?_
              refine s_of (st_eqI rfl rfl rfl) rfl rfl rfl rfl ?_
              refine s_pickT rfl rfl (by conv => lhs; whnf) rfl rfl rfl ?_
              refine s_mv (.inr rfl) (by conv => lhs; whnf) rfl rfl rfl ?_
              refine rt_nil ⟨by kernel_rfl, ?_⟩
              refine tri_ret ?_
              have e0 := (some1 h); subst e0
              exact endY [] [] (rvC (resTmp rfl) rvN) trivial trivial rfl rfl rfl rfl (.free rfl)
            · replace h := cond_f h b9
              refine s_skip rfl rfl rfl ?_
              refine s_skip rfl rfl rfl ?_
              refine s_skip rfl rfl rfl ?_
              refine s_skip rfl rfl rfl ?_
              refine s_skip rfl rfl rfl ?_
              refine s_skip rfl rfl rfl ?_
              refine s_skip rfl rfl rfl ?_
              refine s_skip rfl rfl rfl ?_
              refine s_skip rfl rfl rfl ?_
              refine s_skip rfl rfl rfl ?_
              refine s_skip rfl rfl rfl ?_
              refine s_skip rfl rfl rfl ?_
              refine s_skip rfl rfl rfl ?_
              refine s_skip rfl rfl rfl ?_
              refine s_pickF rfl rfl (v := .sc (.bool false)) rfl rfl rfl rfl ?_
              refine s_mv (.inr rfl) (by conv => lhs; whnf) rfl rfl rfl ?_
              refine rt_nil ⟨by kernel_rfl, ?_⟩
              refine tri_ret ?_
              have e0 := (some1 h); subst e0
              exact endY [] [] (rvC (resTmp rfl) rvN) trivial trivial rfl rfl rfl rfl (.free rfl)
          · replace h := cond_f h b6
            refine s_skip rfl rfl rfl ?_
            refine s_skip rfl rfl rfl ?_
            refine s_skip rfl rfl rfl ?_
            refine s_pickF rfl rfl (v := .sc (.bool false)) rfl rfl rfl rfl ?_
            refine s_mv (.inl rfl) (by conv => lhs; whnf) rfl rfl rfl ?_
            refine s_skip rfl rfl rfl ?_
            refine s_skip rfl rfl rfl ?_
            refine s_skip rfl rfl rfl ?_
            refine s_skip rfl rfl rfl ?_
            refine s_skip rfl rfl rfl ?_
            refine s_skip rfl rfl rfl ?_
            refine s_skip rfl rfl rfl ?_
            refine s_skip rfl rfl rfl ?_
            refine s_skip rfl rfl rfl ?_
            refine s_skip rfl rfl rfl ?_
            refine s_skip rfl rfl rfl ?_
            refine s_skip rfl rfl rfl ?_
            refine s_skip rfl rfl rfl ?_
            refine s_skip rfl rfl rfl ?_
            refine s_pickF rfl rfl (v := .sc (.bool false)) rfl rfl rfl rfl ?_
            refine s_mv (.inr rfl) (by conv => lhs; whnf) rfl rfl rfl ?_
            refine rt_nil ⟨by kernel_rfl, ?_⟩
            refine tri_ret ?_
            have e0 := (some1 h); subst e0
            exact endY [] [] (rvC (resTmp rfl) rvN) trivial trivial rfl rfl rfl rfl (.free rfl)
        · replace h := cond_f h b5
          refine s_skip rfl rfl rfl ?_
          refine s_skip rfl rfl rfl ?_
          refine s_skip rfl rfl rfl ?_
          refine s_skip rfl rfl rfl ?_
          refine s_pickF rfl rfl (v := .sc (.bool false)) rfl rfl rfl rfl ?_
          refine s_mv (.inl rfl) (by conv => lhs; whnf) rfl rfl rfl ?_
          refine s_skip rfl rfl rfl ?_
          refine s_skip rfl rfl rfl ?_
          refine s_skip rfl rfl rfl ?_
          refine s_pickF rfl rfl (v := .sc (.bool false)) rfl rfl rfl rfl ?_
          refine s_mv (.inl rfl) (by conv => lhs; whnf) rfl rfl rfl ?_
          refine s_skip rfl rfl rfl ?_
          refine s_skip rfl rfl rfl ?_
          refine s_skip rfl rfl rfl ?_
          refine s_skip rfl rfl rfl ?_
          refine s_skip rfl rfl rfl ?_
          refine s_skip rfl rfl rfl ?_
          refine s_skip rfl rfl rfl ?_
          refine s_skip rfl rfl rfl ?_
          refine s_skip rfl rfl rfl ?_
          refine s_skip rfl rfl rfl ?_
          refine s_skip rfl rfl rfl ?_
          refine s_skip rfl rfl rfl ?_
          refine s_skip rfl rfl rfl ?_
          refine s_skip rfl rfl rfl ?_
          refine s_pickF rfl rfl (v := .sc (.bool false)) rfl rfl rfl rfl ?_
          refine s_mv (.inr rfl) (by conv => lhs; whnf) rfl rfl rfl ?_
          refine rt_nil ⟨by kernel_rfl, ?_⟩
          refine tri_ret ?_
          have e0 := (some1 h); subst e0
          exact endY [] [] (rvC (resTmp rfl) rvN) trivial trivial rfl rfl rfl rfl (.free rfl)
      · replace h := cond_f h c2
        refine tri_seq ?_
        refine tri_region ?_
        refine s_of (st_eqI rfl rfl rfl) rfl rfl rfl rfl ?_
        refine s_mv (.inr rfl) (by conv => lhs; whnf) rfl rfl rfl ?_
        refine rt_nil ?_
        refine tri_cond rfl (fun c12 => ?_) (fun c12 => ?_)
        · replace h := cond_t h c12
          refine tri_seq ?_
          refine tri_region ?_
          refine s_fieldAddr rfl rfl fd32_0 rfl rfl rfl rfl ?_
          refine s_load (v := .agg (questV p0.q)) rfl rfl rfl rfl ty29 rfl (.inl rfl) rfl rfl rfl rfl ?_
          refine bnd1_elim h fun x13 q14 h => ?_
          refine s_callN (kb := []) (ns := []) (v := .sc (.bool x13)) rfl rfl cl47 (wi_QuestOk p0.q x13 q14) rfl (.cons (relAgg rfl) .nil) trivial memNil .nil memNil rfl trivial memNil rfl rfl rfl rfl rfl rfl ?_
          refine s_mv (.inl rfl) (by conv => lhs; whnf) rfl rfl rfl ?_
          refine s_split (t := 55) rfl (fun b15 => ?_) (fun b15 => ?_)
          · replace h := cond_t h b15
            refine s_fieldAddr rfl rfl fd32_2 rfl rfl rfl rfl ?_
            refine s_load rfl rfl rfl rfl ty30 rfl (.inr rfl) (by conv => lhs; whnf) rfl rfl rfl ?_
            refine s_lenL rfl sl30 rfl rfl rfl rfl ?_
            refine s_of (st_eqI rfl rfl rfl) rfl rfl rfl rfl ?_
            refine s_pickT rfl rfl (by conv => lhs; whnf) rfl rfl rfl ?_
            refine s_mv (.inr rfl) (by conv => lhs; whnf) rfl rfl rfl ?_
            refine rt_nil ?_
            refine tri_ret ?_
            have e0 := (some1 h); subst e0
            exact endY [] [] (rvC (resTmp rfl) rvN) trivial trivial rfl rfl rfl rfl (.free rfl)
          · replace h := cond_f h b15
            refine s_skip rfl rfl rfl ?_
            refine s_skip rfl rfl rfl ?_
            refine s_skip rfl rfl rfl ?_
            refine s_skip rfl rfl rfl ?_
            refine s_pickF rfl rfl (v := .sc (.bool false)) rfl rfl rfl rfl ?_
            refine s_mv (.inr rfl) (by conv => lhs; whnf) rfl rfl rfl ?_
            refine rt_nil ?_
            refine tri_ret ?_
            have e0 := (some1 h); subst e0
            exact endY [] [] (rvC (resTmp rfl) rvN) trivial trivial rfl rfl rfl rfl (.free rfl)
        · replace h := cond_f h c12
          refine tri_seq ?_
          refine tri_region ?_
          refine s_of (st_eqI rfl rfl rfl) rfl rfl rfl rfl ?_
          refine s_mv (.inr rfl) (by conv => lhs; whnf) rfl rfl rfl ?_
          refine rt_nil ?_
          refine tri_cond rfl (fun c16 => ?_) (fun c16 => ?_)
          · replace h := cond_t h c16
            refine tri_seq ?_
            refine tri_region ?_
            refine s_fieldAddr rfl rfl fd32_0 rfl rfl rfl rfl ?_
            refine s_fieldAddr rfl rfl fd29_0 rfl rfl rfl rfl ?_
            refine s_load rfl rfl rfl rfl ty9 rfl (.inr rfl) (by conv => lhs; whnf) rfl rfl rfl ?_
            refine bnd1_elim h fun x17 q18 h => ?_
            refine s_callN (kb := []) (ns := []) (v := .sc (.bool x17)) rfl rfl cl50 (wi_NameOk p0.q.name x17 q18) rfl (.cons (.free rfl) .nil) trivial memNil .nil memNil rfl trivial memNil rfl rfl rfl rfl rfl rfl ?_
            refine s_mv (.inl rfl) (by conv => lhs; whnf) rfl rfl rfl ?_
            refine s_split (t := 67) rfl (fun b19 => ?_) (fun b19 => ?_)
            · replace h := cond_t h b19
              refine s_fieldAddr rfl rfl fd32_0 rfl rfl rfl rfl ?_
              refine s_fieldAddr rfl rfl fd29_1 rfl rfl rfl rfl ?_
              refine s_load rfl rfl rfl rfl ty3 rfl (.inr rfl) (by conv => lhs; whnf) rfl rfl rfl ?_
              refine s_of (st_eqI rfl rfl rfl) rfl rfl rfl rfl ?_
              refine s_pickT rfl rfl (by conv => lhs; whnf) rfl rfl rfl ?_
              refine s_mv (.inl rfl) (by conv => lhs; whnf) rfl rfl rfl ?_
              refine s_split (t := 73) rfl (fun b20 => ?_) (fun b20 => ?_)
              · replace h := cond_t h b20
                refine s_fieldAddr rfl rfl fd32_2 rfl rfl rfl rfl ?_
                refine s_load rfl rfl rfl rfl ty30 rfl (.inr rfl) (by conv => lhs; whnf) rfl rfl rfl ?_
                refine s_lenL rfl sl30 rfl rfl rfl rfl ?_
                refine s_of (st_eqI rfl rfl rfl) rfl rfl rfl rfl ?_
                refine s_pickT rfl rfl (by conv => lhs; whnf) rfl rfl rfl ?_
                refine s_mv (.inr rfl) (by conv => lhs; whnf) rfl rfl rfl ?_
                refine rt_nil ?_
                refine tri_ret ?_
                have e0 := (some1 h); subst e0
                exact endY [] [] (rvC (resTmp rfl) rvN) trivial trivial rfl rfl rfl rfl (.free rfl)
              · replace h := cond_f h b20
                refine s_skip rfl rfl rfl ?_
                refine s_skip rfl rfl rfl ?_
                refine s_skip rfl rfl rfl ?_
                refine s_skip rfl rfl rfl ?_
                refine s_pickF rfl rfl (v := .sc (.bool false)) rfl rfl rfl rfl ?_
                refine s_mv (.inr rfl) (by conv => lhs; whnf) rfl rfl rfl ?_
                refine rt_nil ?_
                refine tri_ret ?_
                have e0 := (some1 h); subst e0
                exact endY [] [] (rvC (resTmp rfl) rvN) trivial trivial rfl rfl rfl rfl (.free rfl)
            · replace h := cond_f h b19
              refine s_skip rfl rfl rfl ?_
              refine s_skip rfl rfl rfl ?_
              refine s_skip rfl rfl rfl ?_
              refine s_skip rfl rfl rfl ?_
              refine s_pickF rfl rfl (v := .sc (.bool false)) rfl rfl rfl rfl ?_
              refine s_mv (.inl rfl) (by conv => lhs; whnf) rfl rfl rfl ?_
              refine s_skip rfl rfl rfl ?_
              refine s_skip rfl rfl rfl ?_
              refine s_skip rfl rfl rfl ?_
              refine s_skip rfl rfl rfl ?_
              refine s_pickF rfl rfl (v := .sc (.bool false)) rfl rfl rfl rfl ?_
              refine s_mv (.inr rfl) (by conv => lhs; whnf) rfl rfl rfl ?_
              refine rt_nil ?_
              refine tri_ret ?_
              have e0 := (some1 h); subst e0
              exact endY [] [] (rvC (resTmp rfl) rvN) trivial trivial rfl rfl rfl rfl (.free rfl)
          · replace h := cond_f h c16
            refine tri_skip ?_
            refine tri_seq ?_
            refine tri_region ?_
            refine s_mv (.inr rfl) (v := .sc (.bool false)) rfl rfl rfl rfl ?_
            refine rt_nil ?_
            refine tri_ret ?_
            have e0 := (some1 h); subst e0
            exact endY [] [] (rvC (resTmp rfl) rvN) trivial trivial rfl rfl rfl rfl (.free rfl)

/- impl.Entry] -/
def inv_slices_IndexFunc_Entry_0 (p0 : List MEntry) (fi1 : FuncId) (cp1 : List V) (v0_0 : Nat) : St := mkT 19 [(0, .lst 6 (List.map mEntryV p0)), (1, .fn fi1 cp1), (7, .sc (.int .i64 (p0.length : Int))), (8, .sc (.int .i64 (v0_0 : Int)))] []
set_option maxRecDepth 4000 in
set_option maxHeartbeats 800000 in
theorem wslices_IndexFunc_Entry (p0 : List MEntry) (fi1 : FuncId) (cp1 : List V) (hf1 : cp1.all (·.free) = true) (hb1 : callable Tryd.prog fi1 = true) (p1 : MEntry → Option Bool) (hg1 : ∀ (z0 : MEntry) v, p1 z0 = some v → Runs Tryd.prog fi1 ([.agg (mEntryV z0)] ++ cp1) [] (.sc (.bool v)) []) (r0 : Int) (h : slices_IndexFunc_Entry p0 p1 = some r0) : Runs Tryd.prog 75 [.lst 6 (List.map mEntryV p0), .fn fi1 cp1] [] (.sc (.int .i64 r0)) [] := by
  unfold slices_IndexFunc_Entry at h
  refine runsR [.tmp 4] Tryd.func75 rfl rfl rfl rfl ?_
  rw [Tryd.ntmps75]
  refine tri_seq ?_
  refine tri_region ?_
  refine s_mv (.inr rfl) (v := .sc (.int .i64 0)) rfl rfl rfl rfl ?_
  refine rt_nil ?_
  refine tri_seq ?_
  refine tri_seq ?_
  refine tri_region ?_
  refine s_mv (.inl rfl) (by conv => lhs; whnf) rfl rfl rfl ?_
  refine s_lenL rfl sl41 rfl rfl rfl rfl ?_
  refine s_mv (.inl rfl) (v := .sc (.int .i64 0)) rfl rfl rfl rfl ?_
  refine rt_nil ?_
  refine tri_block ?_
  refine tri_lstM 0 rfl (fun hl0 => ?_)
  refine tri_loop (ι := { p : (List MEntry) × Nat // p0.drop p.2 = p.1 ∧ slices_IndexFunc_Entry_l0 p1 p.1 p.2 = some r0 }) (fun p => inv_slices_IndexFunc_Entry_0 p0 fi1 cp1 p.1.2) (fun p => p.1.1.length) ⟨(p0, 0), rfl, h⟩ ?_ ?_
  · skip
    refine entX [] [] trivial trivial rfl rfl ?_
    exact ⟨(.free rfl), (cvFn hf1), (.free rfl), (.free rfl), trivial⟩
  · rintro ⟨⟨lrs0, v0_0⟩, hd0, h⟩
    replace hd0 : p0.drop v0_0 = lrs0 := hd0
    replace h : slices_IndexFunc_Entry_l0 p1 lrs0 v0_0 = some r0 := h
    show Tri _ _ _ (inv_slices_IndexFunc_Entry_0 p0 fi1 cp1 v0_0)
    refine tri_seq ?_
    refine tri_region ?_
    refine s_of (st_lss rfl rfl rfl) rfl rfl rfl rfl ?_
    refine rt_nil ?_
    refine tri_seq ?_
    refine tri_cond rfl (fun c1 => ?_) (fun c1 => ?_)
    · refine drop_elim hd0 c1 fun e0 rs0 he hx0 hn0 => ?_
      subst he
      rw [slices_IndexFunc_Entry_l0] at h
      refine tri_skip ?_
      refine tri_seq ?_
      refine tri_block ?_
      refine tri_seq ?_
      refine tri_region ?_
      refine s_mv (.inl rfl) (by conv => lhs; whnf) rfl rfl rfl ?_
      refine s_mv (.inr rfl) (by conv => lhs; whnf) rfl rfl rfl ?_
      refine rt_nil ?_
      refine tri_seq ?_
      refine tri_region ?_
      refine s_mv (.inl rfl) (by conv => lhs; whnf) rfl rfl rfl ?_
      refine s_mv (.inl rfl) (by conv => lhs; whnf) rfl rfl rfl ?_
      refine s_mv (.inl rfl) (by conv => lhs; whnf) rfl rfl rfl ?_
      refine s_indexF (i := v0_0) rfl rfl rfl sl41 (get_ltM hx0) rfl rfl rfl ?_
      refine s_loadFR rfl rfl (rowG hx0) ty32 rfl rfl rfl ?_
      refine bnd1_elim h fun x2 q3 h => ?_
      refine s_callN (kb := []) (ns := []) (v := .sc (.bool x2)) rfl rfl hb1 (hg1 e0 x2 q3) rfl (.cons (relAgg rfl) (argsFree hf1)) trivial memNil .nil memNil rfl trivial memNil rfl rfl rfl rfl rfl rfl ?_
      refine rt_nil ?_
      refine tri_cond rfl (fun c4 => ?_) (fun c4 => ?_)
      · replace h := cond_t h c4
        refine tri_seq ?_
        refine tri_region ?_
        refine s_mv (.inl rfl) (by conv => lhs; whnf) rfl rfl rfl ?_
        refine s_mv (.inr rfl) (by conv => lhs; whnf) rfl rfl rfl ?_
        refine rt_nil ?_
        refine tri_ret ?_
        have e0 := (some1 h); subst e0
        exact endY [] [] (rvC (resTmp rfl) rvN) trivial trivial rfl rfl rfl rfl (.free rfl)
      · replace h := cond_f h c4
        refine tri_skip ?_
        refine tri_region ?_
        refine s_inc (a := v0_0) (b := 1) rfl rfl rfl rfl (by have := get_lt hx0; have := hl0; omega) rfl rfl rfl ?_
        refine s_mv (.inl rfl) (by conv => lhs; whnf) rfl rfl rfl ?_
        refine rt_nil ?_
        refine Exists.intro ⟨(rs0, (v0_0 + 1)), hn0, h⟩ (And.intro (Nat.lt_succ_self _) ?_)
        refine entX [] [] trivial trivial rfl rfl ?_
        exact ⟨(.free rfl), (cvFn hf1), (.free rfl), (.free rfl), trivial⟩
    · have he := drop_f hd0 c1; subst he
      rw [slices_IndexFunc_Entry_l0] at h
      refine tri_exit ?_
      refine tri_seq ?_
      refine tri_region ?_
      refine s_mv (.inr rfl) (v := .sc (.int .i64 (-1))) rfl rfl rfl rfl ?_
      refine rt_nil ?_
      refine tri_ret ?_
      have e0 := (some1 h); subst e0
      exact endY [] [] (rvC (resTmp rfl) rvN) trivial trivial rfl rfl rfl rfl (.free rfl)

/- impl.Entry] -/

set_option maxRecDepth 4000 in
set_option maxHeartbeats 800000 in
theorem wslices_ContainsFunc_Entry (p0 : List MEntry) (fi1 : FuncId) (cp1 : List V) (hf1 : cp1.all (·.free) = true) (hb1 : callable Tryd.prog fi1 = true) (p1 : MEntry → Option Bool) (hg1 : ∀ (z0 : MEntry) v, p1 z0 = some v → Runs Tryd.prog fi1 ([.agg (mEntryV z0)] ++ cp1) [] (.sc (.bool v)) []) (r0 : Bool) (h : slices_ContainsFunc_Entry p0 p1 = some r0) : Runs Tryd.prog 56 [.lst 6 (List.map mEntryV p0), .fn fi1 cp1] [] (.sc (.bool r0)) [] := by
  unfold slices_ContainsFunc_Entry at h
  refine runsR [.tmp 4] Tryd.func56 rfl rfl rfl rfl ?_
  rw [Tryd.ntmps56]
  refine tri_seq ?_
  refine tri_region ?_
  refine s_mv (.inr rfl) (v := .sc (.bool false)) rfl rfl rfl rfl ?_
  refine rt_nil ?_
  refine tri_seq ?_
  refine tri_region ?_
  refine s_mv (.inl rfl) (by conv => lhs; whnf) rfl rfl rfl ?_
  refine s_mv (.inl rfl) (by conv => lhs; whnf) rfl rfl rfl ?_
  refine bnd1_elim h fun x1 q2 h => ?_
  refine s_callN (kb := []) (ns := []) (v := .sc (.int .i64 x1)) rfl rfl cl75 (wslices_IndexFunc_Entry p0 fi1 cp1 hf1 hb1 p1 hg1 x1 q2) rfl (.cons (.free rfl) (.cons (relFn hf1) .nil)) trivial memNil .nil memNil rfl trivial memNil rfl rfl rfl rfl rfl rfl ?_
  refine s_of (st_geq rfl rfl rfl) rfl rfl rfl rfl ?_
  refine s_mv (.inr rfl) (by conv => lhs; whnf) rfl rfl rfl ?_
  refine rt_nil ?_
  refine tri_ret ?_
  have e0 := (some1 h); subst e0
  exact endY [] [] (rvC (resTmp rfl) rvN) trivial trivial rfl rfl rfl rfl (.free rfl)

/- impl.CacheOk$1 -/

set_option maxRecDepth 4000 in
set_option maxHeartbeats 800000 in
theorem wi_CacheOk_1 (p0 : MEntry) (p1 : MEntry) (r0 : Bool) (h : i_CacheOk_1 p0 p1 = some r0) : Runs Tryd.prog 57 [.agg (mEntryV p0), .lptr 6 [[.sc (.string p1.q.name), .sc (.int .i64 p1.q.ty), .sc (.int .i64 p1.kind), .lst 6 (List.map recV p1.l), .sc (.int .i64 p1.rank), .sc (.int .i64 p1.til)]] 0 0] [] (.sc (.bool r0)) [] := by
  unfold i_CacheOk_1 at h
  refine runsR [.tmp 3] Tryd.func57 rfl rfl rfl rfl ?_
  rw [Tryd.ntmps57]
  refine tri_seq ?_
  refine tri_region ?_
  refine s_box rfl rfl rfl rfl rfl rfl rfl ?_
  refine s_mv (.inr rfl) (v := .sc (.bool false)) rfl rfl rfl rfl ?_
  refine rt_nil ?_
  refine tri_seq ?_
  refine tri_region ?_
  refine s_fieldAddr rfl rfl fd32_0 rfl rfl rfl rfl ?_
  refine s_load (v := .agg (questV p0.q)) rfl rfl rfl rfl ty29 rfl (.inl rfl) rfl rfl rfl rfl ?_
  refine s_fieldAddrF rfl rfl fd32_0 rfl rfl rfl rfl ?_
  refine s_loadF (v := .agg (questV p1.q)) rfl rfl rfl ty29 rfl (.inl rfl) rfl rfl rfl rfl ?_
  refine s_eqStruct (r' := (decide (p0.q.name = p1.q.name) && (decide (p0.q.ty = p1.q.ty) && true))) rfl rfl rfl fk29 rfl rfl rfl rfl rfl ?_
  refine s_mv (.inr rfl) (by conv => lhs; whnf) rfl rfl rfl ?_
  refine rt_nil ?_
  refine tri_ret ?_
  have e0 := (some1 h); subst e0
  exact endY [] [] (rvC (resTmp rfl) rvN) trivial trivial rfl rfl rfl rfl (.free rfl)

/- impl.CacheOk -/
def inv_i_CacheOk_2 (p0 : MCache) (v1_0 : Nat) (j2_0 : Bool) : St := mkT 41 [(1, .ptr (1, 0) 0 0), (22, .lst 6 (List.map mEntryV p0.l)), (23, .sc (.int .i64 (p0.l.length : Int))), (24, .sc (.int .i64 (v1_0 : Int))), (39, .sc (.bool j2_0))] [((1, 0), some ⟨43, 2, [[.sc (.int .i64 p0.cap), .lst 6 (List.map mEntryV p0.l)]], false, true⟩)]
def inv_i_CacheOk_1 (p0 : MCache) (v1_0 : Nat) : St := mkT 41 [(1, .ptr (1, 0) 0 0), (22, .lst 6 (List.map mEntryV p0.l)), (23, .sc (.int .i64 (p0.l.length : Int))), (24, .sc (.int .i64 (v1_0 : Int)))] [((1, 0), some ⟨43, 2, [[.sc (.int .i64 p0.cap), .lst 6 (List.map mEntryV p0.l)]], false, true⟩)]
def inv_i_CacheOk_0 (p0 : MCache) (j0_0 : Bool) : St := mkT 41 [(1, .ptr (1, 0) 0 0), (20, .sc (.bool j0_0))] [((1, 0), some ⟨43, 2, [[.sc (.int .i64 p0.cap), .lst 6 (List.map mEntryV p0.l)]], false, true⟩)]
set_option maxRecDepth 4000 in
set_option maxHeartbeats 800000 in
theorem wi_CacheOk (p0 : MCache) (r0 : Bool) (h : i_CacheOk p0 = some r0) : Runs Tryd.prog 17 [.agg (mCacheV p0)] [] (.sc (.bool r0)) [] := by
  unfold i_CacheOk at h
  refine runsR [.tmp 2] Tryd.func17 rfl rfl rfl rfl ?_
  rw [Tryd.ntmps17]
  refine tri_seq ?_
  refine tri_region ?_
  refine s_box rfl rfl rfl rfl rfl rfl rfl ?_
  refine s_mv (.inr rfl) (v := .sc (.bool false)) rfl rfl rfl rfl ?_
  refine rt_nil ?_
  refine tri_seq ?_
  refine tri_cutI (ι := { p : Bool // i_CacheOk_j0 p0 p = some r0 }) (fun p => inv_i_CacheOk_0 p0 p.1) ?_ ?_
  · skip
    refine tri_region ?_
    refine s_fieldAddr rfl rfl fd43_0 rfl rfl rfl rfl ?_
    refine s_load rfl rfl rfl rfl ty3 rfl (.inr rfl) (by conv => lhs; whnf) rfl rfl rfl ?_
    refine s_of (st_lss rfl rfl rfl) rfl rfl rfl rfl ?_
    refine s_mv (.inl rfl) (by conv => lhs; whnf) rfl rfl rfl ?_
    refine s_split (t := 8) rfl (fun b1 => ?_) (fun b1 => ?_)
    · replace h := cond_t h b1
      refine s_skip rfl rfl rfl ?_
      refine s_skip rfl rfl rfl ?_
      refine s_skip rfl rfl rfl ?_
      refine s_pickT rfl rfl (v := .sc (.bool true)) rfl rfl rfl rfl ?_
      refine s_mv (.inl rfl) (by conv => lhs; whnf) rfl rfl rfl ?_
      refine s_skip rfl rfl rfl ?_
      refine s_skip rfl rfl rfl ?_
      refine s_skip rfl rfl rfl ?_
      refine s_skip rfl rfl rfl ?_
      refine s_skip rfl rfl rfl ?_
      refine s_skip rfl rfl rfl ?_
      refine s_pickT rfl rfl (v := .sc (.bool true)) rfl rfl rfl rfl ?_
      refine rt_nil ?_
      refine Exists.intro ⟨true, h⟩ ?_
      refine entX [((1, 0), ⟨43, 2, [[.sc (.int .i64 p0.cap), .lst 6 (List.map mEntryV p0.l)]], false, true⟩, some (1, 0))] [] ⟨⟨rfl, _, rfl, rfl, rfl, rfl, id, rowsCv_one (.cons (.free rfl) (.cons (.free rfl) .nil)), rowsZ_one rfl⟩, trivial⟩ trivial rfl rfl ?_
      exact ⟨(.ptr rfl), (.free rfl), trivial⟩
    · replace h := cond_f h b1
      refine s_fieldAddr rfl rfl fd43_0 rfl rfl rfl rfl ?_
      refine s_load rfl rfl rfl rfl ty3 rfl (.inr rfl) (by conv => lhs; whnf) rfl rfl rfl ?_
      refine s_of (st_gtr rfl rfl rfl) rfl rfl rfl rfl ?_
      refine s_pickF rfl rfl (by conv => lhs; whnf) rfl rfl rfl ?_
      refine s_mv (.inl rfl) (by conv => lhs; whnf) rfl rfl rfl ?_
      refine s_split (t := 13) rfl (fun b2 => ?_) (fun b2 => ?_)
      · replace h := cond_t h b2
        refine s_skip rfl rfl rfl ?_
        refine s_skip rfl rfl rfl ?_
        refine s_skip rfl rfl rfl ?_
        refine s_skip rfl rfl rfl ?_
        refine s_skip rfl rfl rfl ?_
        refine s_skip rfl rfl rfl ?_
        refine s_pickT rfl rfl (v := .sc (.bool true)) rfl rfl rfl rfl ?_
        refine rt_nil ?_
        refine Exists.intro ⟨true, h⟩ ?_
        refine entX [((1, 0), ⟨43, 2, [[.sc (.int .i64 p0.cap), .lst 6 (List.map mEntryV p0.l)]], false, true⟩, some (1, 0))] [] ⟨⟨rfl, _, rfl, rfl, rfl, rfl, id, rowsCv_one (.cons (.free rfl) (.cons (.free rfl) .nil)), rowsZ_one rfl⟩, trivial⟩ trivial rfl rfl ?_
        exact ⟨(.ptr rfl), (.free rfl), trivial⟩
      · replace h := cond_f h b2
        refine s_fieldAddr rfl rfl fd43_1 rfl rfl rfl rfl ?_
        refine s_load rfl rfl rfl rfl ty41 rfl (.inr rfl) (by conv => lhs; whnf) rfl rfl rfl ?_
        refine s_lenL rfl sl41 rfl rfl rfl rfl ?_
        refine s_fieldAddr rfl rfl fd43_0 rfl rfl rfl rfl ?_
        refine s_load rfl rfl rfl rfl ty3 rfl (.inr rfl) (by conv => lhs; whnf) rfl rfl rfl ?_
        refine s_of (st_gtr rfl rfl rfl) rfl rfl rfl rfl ?_
        refine s_pickF rfl rfl (by conv => lhs; whnf) rfl rfl rfl ?_
        refine rt_nil ?_
        refine Exists.intro ⟨decide (p0.cap < (p0.l.length : Int)), h⟩ ?_
        refine entX [((1, 0), ⟨43, 2, [[.sc (.int .i64 p0.cap), .lst 6 (List.map mEntryV p0.l)]], false, true⟩, some (1, 0))] [] ⟨⟨rfl, _, rfl, rfl, rfl, rfl, id, rowsCv_one (.cons (.free rfl) (.cons (.free rfl) .nil)), rowsZ_one rfl⟩, trivial⟩ trivial rfl rfl ?_
        exact ⟨(.ptr rfl), (.free rfl), trivial⟩
  · rintro ⟨j0_0, h⟩
    replace h : i_CacheOk_j0 p0 j0_0 = some r0 := h
    unfold i_CacheOk_j0 at h
    show Tri _ _ _ (inv_i_CacheOk_0 p0 j0_0)
    refine tri_cond rfl (fun c1 => ?_) (fun c1 => ?_)
    · replace h := cond_t h c1
      refine tri_seq ?_
      refine tri_region ?_
      refine s_mv (.inr rfl) (v := .sc (.bool false)) rfl rfl rfl rfl ?_
      refine rt_nil ?_
      refine tri_ret ?_
      have e0 := (some1 h); subst e0
      exact endY [] [] (rvC (resTmp rfl) rvN) trivial trivial rfl rfl rfl rfl (.free rfl)
    · replace h := cond_f h c1
      refine tri_skip ?_
      refine tri_seq ?_
      refine tri_seq ?_
      refine tri_region ?_
      refine s_fieldAddr rfl rfl fd43_1 rfl rfl rfl rfl ?_
      refine s_load rfl rfl rfl rfl ty41 rfl (.inr rfl) (by conv => lhs; whnf) rfl rfl rfl ?_
      refine s_lenL rfl sl41 rfl rfl rfl rfl ?_
      refine s_mv (.inl rfl) (v := .sc (.int .i64 0)) rfl rfl rfl rfl ?_
      refine rt_nil ?_
      refine tri_block ?_
      refine tri_lstM 22 rfl (fun hl1 => ?_)
      refine tri_loop (ι := { p : (List MEntry) × Nat // p0.l.drop p.2 = p.1 ∧ i_CacheOk_l1 p0 p.1 p.2 = some r0 }) (fun p => inv_i_CacheOk_1 p0 p.1.2) (fun p => p.1.1.length) ⟨(p0.l, 0), rfl, h⟩ ?_ ?_
      · skip
        refine entX [((1, 0), ⟨43, 2, [[.sc (.int .i64 p0.cap), .lst 6 (List.map mEntryV p0.l)]], false, true⟩, some (1, 0))] [] ⟨⟨rfl, _, rfl, rfl, rfl, rfl, id, rowsCv_one (.cons (.free rfl) (.cons (.free rfl) .nil)), rowsZ_one rfl⟩, trivial⟩ trivial rfl rfl ?_
        exact ⟨(.ptr rfl), (.free rfl), (.free rfl), (.free rfl), trivial⟩
      · rintro ⟨⟨lrs1, v1_0⟩, hd1, h⟩
        replace hd1 : p0.l.drop v1_0 = lrs1 := hd1
        replace h : i_CacheOk_l1 p0 lrs1 v1_0 = some r0 := h
        show Tri _ _ _ (inv_i_CacheOk_1 p0 v1_0)
        refine tri_seq ?_
        refine tri_region ?_
        refine s_of (st_lss rfl rfl rfl) rfl rfl rfl rfl ?_
        refine rt_nil ?_
        refine tri_seq ?_
        refine tri_cond rfl (fun c2 => ?_) (fun c2 => ?_)
        · refine drop_elim hd1 c2 fun e1 rs1 he hx1 hn1 => ?_
          subst he
          rw [i_CacheOk_l1] at h
          refine tri_skip ?_
          refine tri_seq ?_
          refine tri_block ?_
          refine tri_seq ?_
          refine tri_region ?_
          refine s_mv (.inl rfl) (by conv => lhs; whnf) rfl rfl rfl ?_
          refine s_indexF (i := v1_0) rfl rfl rfl sl41 (get_ltM hx1) rfl rfl rfl ?_
          refine s_loadFR rfl rfl (rowG hx1) ty32 rfl rfl rfl ?_
          refine s_alloc rfl rfl rfl zc32 rfl rfl rfl rfl rfl ?_
          refine s_mv (.inr rfl) (by conv => lhs; whnf) rfl rfl rfl ?_
          refine s_storeB rfl rfl rfl ty32 rfl rfl rfl rfl rfl ?_
          refine rt_nil ?_
          refine tri_cutI (ι := { p : Bool // i_CacheOk_j2 v1_0 (i_CacheOk_l1 p0 rs1) p = some r0 }) (fun p => inv_i_CacheOk_2 p0 v1_0 p.1) ?_ ?_
          · skip
            refine tri_region ?_
            refine s_loadR rfl rfl rfl rfl ty32 rfl rfl rfl ?_
            refine bnd1_elim h fun x3 q4 h => ?_
            refine s_callN (kb := []) (ns := []) (v := .sc (.bool x3)) rfl rfl cl12 (wi_EntryOk e1 x3 q4) rfl (.cons (relAgg rfl) .nil) trivial memNil .nil memNil rfl trivial memNil rfl rfl rfl rfl rfl rfl ?_
            refine s_of (st_not rfl rfl) rfl rfl rfl rfl ?_
            refine s_mv (.inl rfl) (by conv => lhs; whnf) rfl rfl rfl ?_
            refine s_split (t := 32) rfl (fun b5 => ?_) (fun b5 => ?_)
            · replace h := cond_t h b5
              refine s_skip rfl rfl rfl ?_
              refine s_skip rfl rfl rfl ?_
              refine s_skip rfl rfl rfl ?_
              refine s_skip rfl rfl rfl ?_
              refine s_skip rfl rfl rfl ?_
              refine s_skip rfl rfl rfl ?_
              refine s_pickT rfl rfl (v := .sc (.bool true)) rfl rfl rfl rfl ?_
              refine rt_nil ?_
              refine Exists.intro ⟨true, h⟩ ?_
              refine entX [((1, 0), ⟨43, 2, [[.sc (.int .i64 p0.cap), .lst 6 (List.map mEntryV p0.l)]], false, true⟩, some (1, 0))] [] ⟨⟨rfl, _, rfl, rfl, rfl, rfl, id, rowsCv_one (.cons (.free rfl) (.cons (.free rfl) .nil)), rowsZ_one rfl⟩, trivial⟩ trivial rfl rfl ?_
              exact ⟨(.ptr rfl), (.free rfl), (.free rfl), (.free rfl), (.free rfl), trivial⟩
            · replace h := cond_f h b5
              refine s_fieldAddr rfl rfl fd43_1 rfl rfl rfl rfl ?_
              refine s_load rfl rfl rfl rfl ty41 rfl (.inr rfl) (by conv => lhs; whnf) rfl rfl rfl ?_
              refine s_mv (.inl rfl) (by conv => lhs; whnf) rfl rfl rfl ?_
              refine grd_elim h fun g6 h => ?_
              refine s_sliceFZ (a := ((0 : Nat) : Int)) (b := (v1_0 : Int)) rfl rfl sl41 rfl ⟨_, rfl⟩ g6 rfl rfl rfl ?_
              refine s_makeFunc (caps := [.ptr (4, 0) 0 0]) rfl rfl rfl rfl rfl ?_
              refine bnd1_elim h fun x7 q8 h => ?_
              refine s_callN (kb := [(4, 0)]) (ns := []) (v := .sc (.bool x7)) rfl rfl cl56 (wslices_ContainsFunc_Entry ((p0.l.drop ((0 : Nat) : Int).toNat).take ((v1_0 : Int).toNat - ((0 : Nat) : Int).toNat)) 57 ([.lptr 6 [[.sc (.string e1.q.name), .sc (.int .i64 e1.q.ty), .sc (.int .i64 e1.kind), .lst 6 (List.map recV e1.l), .sc (.int .i64 e1.rank), .sc (.int .i64 e1.til)]] 0 0]) rfl cl57 (fun a0 => i_CacheOk_1 a0 e1) (fun a0 v0 hv => wi_CacheOk_1 a0 e1 v0 hv) x7 q8) rfl (.cons (.free rfl) (.cons (relFnL rfl (.cons (relBoxL rfl (.head _) (.cons (.free rfl) (.cons (.free rfl) (.cons (.free rfl) (.cons (.free rfl) (.cons (.free rfl) (.cons (.free rfl) .nil)))))) rfl rfl) .nil)) .nil)) trivial memNil .nil (fun _ _ => List.not_mem_nil) rfl trivial memNil rfl rfl rfl rfl rfl rfl ?_
              refine s_pickF rfl rfl (by conv => lhs; whnf) rfl rfl rfl ?_
              refine rt_nil ?_
              refine Exists.intro ⟨x7, h⟩ ?_
              refine entX [((1, 0), ⟨43, 2, [[.sc (.int .i64 p0.cap), .lst 6 (List.map mEntryV p0.l)]], false, true⟩, some (1, 0))] [] ⟨⟨rfl, _, rfl, rfl, rfl, rfl, id, rowsCv_one (.cons (.free rfl) (.cons (.free rfl) .nil)), rowsZ_one rfl⟩, trivial⟩ trivial rfl rfl ?_
              exact ⟨(.ptr rfl), (.free rfl), (.free rfl), (.free rfl), (.free rfl), trivial⟩
          · rintro ⟨j2_0, h⟩
            replace h : i_CacheOk_j2 v1_0 (i_CacheOk_l1 p0 rs1) j2_0 = some r0 := h
            unfold i_CacheOk_j2 at h
            show Tri _ _ _ (inv_i_CacheOk_2 p0 v1_0 j2_0)
            refine tri_cond rfl (fun c3 => ?_) (fun c3 => ?_)
            · replace h := cond_t h c3
              refine tri_seq ?_
              refine tri_region ?_
              refine s_mv (.inr rfl) (v := .sc (.bool false)) rfl rfl rfl rfl ?_
              refine rt_nil ?_
              refine tri_ret ?_
              have e0 := (some1 h); subst e0
              exact endY [] [] (rvC (resTmp rfl) rvN) trivial trivial rfl rfl rfl rfl (.free rfl)
            · replace h := cond_f h c3
              refine tri_skip ?_
              refine tri_region ?_
              refine s_inc (a := v1_0) (b := 1) rfl rfl rfl rfl (by have := get_lt hx1; have := hl1; omega) rfl rfl rfl ?_
              refine s_mv (.inl rfl) (by conv => lhs; whnf) rfl rfl rfl ?_
              refine rt_nil ?_
              refine Exists.intro ⟨(rs1, (v1_0 + 1)), hn1, h⟩ (And.intro (Nat.lt_succ_self _) ?_)
              refine entX [((1, 0), ⟨43, 2, [[.sc (.int .i64 p0.cap), .lst 6 (List.map mEntryV p0.l)]], false, true⟩, some (1, 0))] [] ⟨⟨rfl, _, rfl, rfl, rfl, rfl, id, rowsCv_one (.cons (.free rfl) (.cons (.free rfl) .nil)), rowsZ_one rfl⟩, trivial⟩ trivial rfl rfl ?_
              exact ⟨(.ptr rfl), (.free rfl), (.free rfl), (.free rfl), trivial⟩
        · have he := drop_f hd1 c2; subst he
          rw [i_CacheOk_l1] at h
          refine tri_exit ?_
          refine tri_seq ?_
          refine tri_region ?_
          refine s_mv (.inr rfl) (v := .sc (.bool true)) rfl rfl rfl rfl ?_
          refine rt_nil ?_
          refine tri_ret ?_
          have e0 := (some1 h); subst e0
          exact endY [] [] (rvC (resTmp rfl) rvN) trivial trivial rfl rfl rfl rfl (.free rfl)

/- spec.CacheOk -/
def inv_s_CacheOk_2 (p0 : MCache) (v1_0 : Nat) (j2_0 : Bool) : St := mkT 41 [(1, .ptr (1, 0) 0 0), (3, .sc (.int .i64 (v1_0 : Int))), (29, .sc (.bool j2_0))] [((1, 0), some ⟨43, 2, [[.sc (.int .i64 p0.cap), .lst 6 (List.map mEntryV p0.l)]], false, true⟩)]
def inv_s_CacheOk_1 (p0 : MCache) (v1_0 : Nat) : St := mkT 41 [(1, .ptr (1, 0) 0 0), (3, .sc (.int .i64 (v1_0 : Int)))] [((1, 0), some ⟨43, 2, [[.sc (.int .i64 p0.cap), .lst 6 (List.map mEntryV p0.l)]], false, true⟩)]
def inv_s_CacheOk_0 (p0 : MCache) : St := mkT 41 [(1, .ptr (1, 0) 0 0)] [((1, 0), some ⟨43, 2, [[.sc (.int .i64 p0.cap), .lst 6 (List.map mEntryV p0.l)]], false, true⟩)]
set_option maxRecDepth 4000 in
set_option maxHeartbeats 800000 in
theorem ws_CacheOk (p0 : MCache) (r0 : Bool) (h : s_CacheOk p0 = some r0) : Runs Tryd.prog 15 [.agg (mCacheV p0)] [] (.sc (.bool r0)) [] := by
  unfold s_CacheOk at h
  refine runsR [.tmp 2] Tryd.func15 rfl rfl rfl rfl ?_
  rw [Tryd.ntmps15]
  refine tri_seq ?_
  refine tri_region ?_
  refine s_box rfl rfl rfl rfl rfl rfl rfl ?_
  refine s_mv (.inr rfl) (v := .sc (.bool false)) rfl rfl rfl rfl ?_
  refine rt_nil ?_
  refine tri_cutI (ι := { p : Unit // s_CacheOk_j0 p0 = some r0 }) (fun p => inv_s_CacheOk_0 p0) ?_ ?_
  · skip
    refine tri_seq ?_
    refine tri_region ?_
    refine s_mv (.inr rfl) (v := .sc (.int .i64 0)) rfl rfl rfl rfl ?_
    refine rt_nil ?_
    refine tri_block ?_
    refine tri_aggM 0 1 rfl rfl (fun hl1 => ?_)
    refine tri_loop (ι := { p : (List MEntry) × Nat // p0.l.drop p.2 = p.1 ∧ s_CacheOk_l1 p0 p.1 p.2 = some r0 }) (fun p => inv_s_CacheOk_1 p0 p.1.2) (fun p => p.1.1.length) ⟨(p0.l, 0), rfl, h⟩ ?_ ?_
    · skip
      refine entX [((1, 0), ⟨43, 2, [[.sc (.int .i64 p0.cap), .lst 6 (List.map mEntryV p0.l)]], false, true⟩, some (1, 0))] [] ⟨⟨rfl, _, rfl, rfl, rfl, rfl, id, rowsCv_one (.cons (.free rfl) (.cons (.free rfl) .nil)), rowsZ_one rfl⟩, trivial⟩ trivial rfl rfl ?_
      exact ⟨(.ptr rfl), (.free rfl), trivial⟩
    · rintro ⟨⟨lrs1, v1_0⟩, hd1, h⟩
      replace hd1 : p0.l.drop v1_0 = lrs1 := hd1
      replace h : s_CacheOk_l1 p0 lrs1 v1_0 = some r0 := h
      show Tri _ _ _ (inv_s_CacheOk_1 p0 v1_0)
      refine tri_seq ?_
      refine tri_seq ?_
      refine tri_region ?_
      refine s_mv (.inl rfl) (by conv => lhs; whnf) rfl rfl rfl ?_
      refine s_fieldAddr rfl rfl fd43_1 rfl rfl rfl rfl ?_
      refine s_load rfl rfl rfl rfl ty41 rfl (.inr rfl) (by conv => lhs; whnf) rfl rfl rfl ?_
      refine s_lenL rfl sl41 rfl rfl rfl rfl ?_
      refine s_of (st_lss rfl rfl rfl) rfl rfl rfl rfl ?_
      refine rt_nil ?_
      refine tri_cond rfl (fun c1 => ?_) (fun c1 => ?_)
      · refine drop_elim hd1 c1 fun e1 rs1 he hx1 hn1 => ?_
        subst he
        rw [s_CacheOk_l1] at h
        refine tri_skip ?_
        refine tri_seq ?_
        refine tri_block ?_
        refine tri_cutI (ι := { p : Bool // s_CacheOk_j2 v1_0 (s_CacheOk_l1 p0 rs1) p = some r0 }) (fun p => inv_s_CacheOk_2 p0 v1_0 p.1) ?_ ?_
        · skip
          refine tri_draw mixed ?_
          refine s_fieldAddr rfl rfl fd43_1 rfl rfl rfl rfl ?_
          refine s_load rfl rfl rfl rfl ty41 rfl (.inr rfl) (by conv => lhs; whnf) rfl rfl rfl ?_
          refine s_mv (.inl rfl) (by conv => lhs; whnf) rfl rfl rfl ?_
          refine s_indexF (i := v1_0) rfl rfl rfl sl41 (get_ltM hx1) rfl rfl rfl ?_
          refine s_loadFR rfl rfl (rowG hx1) ty32 rfl rfl rfl ?_
          refine bnd1_elim h fun x2 q3 h => ?_
          refine s_callN (kb := []) (ns := []) (v := .sc (.bool x2)) rfl rfl cl10 (ws_EntryOk e1 x2 q3) rfl (.cons (relAgg rfl) .nil) trivial memNil .nil memNil rfl trivial memNil rfl rfl rfl rfl rfl rfl ?_
          refine s_of (st_not rfl rfl) rfl rfl rfl rfl ?_
          refine s_mv (.inl rfl) (by conv => lhs; whnf) rfl rfl rfl ?_
          refine s_split (t := 18) rfl (fun b4 => ?_) (fun b4 => ?_)
          · replace h := cond_t h b4
            refine s_skip rfl rfl rfl ?_
            refine s_skip rfl rfl rfl ?_
            refine s_skip rfl rfl rfl ?_
            refine s_skip rfl rfl rfl ?_
            refine s_skip rfl rfl rfl ?_
            refine s_skip rfl rfl rfl ?_
            refine s_skip rfl rfl rfl ?_
            refine s_skip rfl rfl rfl ?_
            refine s_skip rfl rfl rfl ?_
            refine s_skip rfl rfl rfl ?_
            refine s_pickT rfl rfl (v := .sc (.bool true)) rfl rfl rfl rfl ?_
            refine rt_nil ⟨by kernel_rfl, ?_⟩
            refine Exists.intro ⟨true, h⟩ ?_
            refine entX [((1, 0), ⟨43, 2, [[.sc (.int .i64 p0.cap), .lst 6 (List.map mEntryV p0.l)]], false, true⟩, some (1, 0))] [] ⟨⟨rfl, _, rfl, rfl, rfl, rfl, id, rowsCv_one (.cons (.free rfl) (.cons (.free rfl) .nil)), rowsZ_one rfl⟩, trivial⟩ trivial rfl rfl ?_
            exact ⟨(.ptr rfl), (.free rfl), (.free rfl), trivial⟩
          · replace h := cond_f h b4
            refine s_loadR rfl rfl rfl rfl ty43 rfl rfl rfl ?_
            refine s_fieldAddr rfl rfl fd43_1 rfl rfl rfl rfl ?_
            refine s_load rfl rfl rfl rfl ty41 rfl (.inr rfl) (by conv => lhs; whnf) rfl rfl rfl ?_
            refine s_mv (.inl rfl) (by conv => lhs; whnf) rfl rfl rfl ?_
            refine s_indexF (i := v1_0) rfl rfl rfl sl41 (get_ltM hx1) rfl rfl rfl ?_
            refine s_fieldAddrF rfl rfl fd32_0 rfl rfl rfl rfl ?_
            refine s_loadF (v := .agg (questV e1.q)) rfl rfl (rowG hx1) ty29 rfl (.inl rfl) rfl rfl rfl rfl ?_
            refine bnd1_elim h fun x5 q6 h => ?_
            refine s_callN (kb := []) (ns := []) (v := .sc (.int .i64 x5)) rfl rfl cl54 (ws_l15At p0 e1.q x5 q6) rfl (.cons (relAgg rfl) (.cons (relAgg rfl) .nil)) trivial memNil .nil memNil rfl trivial memNil rfl rfl rfl rfl rfl rfl ?_
            refine s_mv (.inl rfl) (by conv => lhs; whnf) rfl rfl rfl ?_
            refine s_of (st_neI rfl rfl rfl) rfl rfl rfl rfl ?_
            refine s_pickF rfl rfl (by conv => lhs; whnf) rfl rfl rfl ?_
            refine rt_nil ⟨by kernel_rfl, ?_⟩
            refine Exists.intro ⟨!decide (x5 = (v1_0 : Int)), h⟩ ?_
            refine entX [((1, 0), ⟨43, 2, [[.sc (.int .i64 p0.cap), .lst 6 (List.map mEntryV p0.l)]], false, true⟩, some (1, 0))] [] ⟨⟨rfl, _, rfl, rfl, rfl, rfl, id, rowsCv_one (.cons (.free rfl) (.cons (.free rfl) .nil)), rowsZ_one rfl⟩, trivial⟩ trivial rfl rfl ?_
            exact ⟨(.ptr rfl), (.free rfl), (.free rfl), trivial⟩
        · rintro ⟨j2_0, h⟩
          replace h : s_CacheOk_j2 v1_0 (s_CacheOk_l1 p0 rs1) j2_0 = some r0 := h
          unfold s_CacheOk_j2 at h
          show Tri _ _ _ (inv_s_CacheOk_2 p0 v1_0 j2_0)
          refine tri_cond rfl (fun c2 => ?_) (fun c2 => ?_)
          · replace h := cond_t h c2
            refine tri_seq ?_
            refine tri_region ?_
            refine s_mv (.inr rfl) (v := .sc (.bool false)) rfl rfl rfl rfl ?_
            refine rt_nil ?_
            refine tri_ret ?_
            have e0 := (some1 h); subst e0
            exact endY [] [] (rvC (resTmp rfl) rvN) trivial trivial rfl rfl rfl rfl (.free rfl)
          · replace h := cond_f h c2
            refine tri_skip ?_
            refine tri_region ?_
            refine s_mv (.inl rfl) (by conv => lhs; whnf) rfl rfl rfl ?_
            refine s_inc (a := v1_0) (b := 1) rfl rfl rfl rfl (by have := get_lt hx1; have := hl1; omega) rfl rfl rfl ?_
            refine s_mv (.inr rfl) (by conv => lhs; whnf) rfl rfl rfl ?_
            refine rt_nil ?_
            refine Exists.intro ⟨(rs1, (v1_0 + 1)), hn1, h⟩ (And.intro (Nat.lt_succ_self _) ?_)
            refine entX [((1, 0), ⟨43, 2, [[.sc (.int .i64 p0.cap), .lst 6 (List.map mEntryV p0.l)]], false, true⟩, some (1, 0))] [] ⟨⟨rfl, _, rfl, rfl, rfl, rfl, id, rowsCv_one (.cons (.free rfl) (.cons (.free rfl) .nil)), rowsZ_one rfl⟩, trivial⟩ trivial rfl rfl ?_
            exact ⟨(.ptr rfl), (.free rfl), trivial⟩
      · have he := drop_f hd1 c1; subst he
        rw [s_CacheOk_l1] at h
        refine tri_exit ?_
        refine Exists.intro ⟨(), h⟩ ?_
        refine entX [((1, 0), ⟨43, 2, [[.sc (.int .i64 p0.cap), .lst 6 (List.map mEntryV p0.l)]], false, true⟩, some (1, 0))] [] ⟨⟨rfl, _, rfl, rfl, rfl, rfl, id, rowsCv_one (.cons (.free rfl) (.cons (.free rfl) .nil)), rowsZ_one rfl⟩, trivial⟩ trivial rfl rfl ?_
        exact ⟨(.ptr rfl), trivial⟩
  · rintro ⟨u, h⟩
    replace h : s_CacheOk_j0 p0 = some r0 := h
    unfold s_CacheOk_j0 at h
    show Tri _ _ _ (inv_s_CacheOk_0 p0)
    refine tri_seq ?_
    refine tri_region ?_
    refine s_fieldAddr rfl rfl fd43_0 rfl rfl rfl rfl ?_
    refine s_load rfl rfl rfl rfl ty3 rfl (.inr rfl) (by conv => lhs; whnf) rfl rfl rfl ?_
    refine bnd1_elim h fun x1 q2 h => ?_
    refine s_callN (kb := []) (ns := []) (v := .sc (.bool x1)) rfl rfl cl41 (ws_l1In p0.cap 1 60 x1 q2) rfl (.cons (.free rfl) (.cons (.free rfl) (.cons (.free rfl) .nil))) trivial memNil .nil memNil rfl trivial memNil rfl rfl rfl rfl rfl rfl ?_
    refine s_mv (.inl rfl) (by conv => lhs; whnf) rfl rfl rfl ?_
    refine s_split (t := 33) rfl (fun b3 => ?_) (fun b3 => ?_)
    · replace h := cond_t h b3
      refine s_fieldAddr rfl rfl fd43_1 rfl rfl rfl rfl ?_
      refine s_load rfl rfl rfl rfl ty41 rfl (.inr rfl) (by conv => lhs; whnf) rfl rfl rfl ?_
      refine s_lenL rfl sl41 rfl rfl rfl rfl ?_
      refine s_fieldAddr rfl rfl fd43_0 rfl rfl rfl rfl ?_
      refine s_load rfl rfl rfl rfl ty3 rfl (.inr rfl) (by conv => lhs; whnf) rfl rfl rfl ?_
      refine s_of (st_leq rfl rfl rfl) rfl rfl rfl rfl ?_
      refine s_pickT rfl rfl (by conv => lhs; whnf) rfl rfl rfl ?_
      refine s_mv (.inr rfl) (by conv => lhs; whnf) rfl rfl rfl ?_
      refine rt_nil ?_
      refine tri_ret ?_
      have e0 := (some1 h); subst e0
      exact endY [] [] (rvC (resTmp rfl) rvN) trivial trivial rfl rfl rfl rfl (.free rfl)
    · replace h := cond_f h b3
      refine s_skip rfl rfl rfl ?_
      refine s_skip rfl rfl rfl ?_
      refine s_skip rfl rfl rfl ?_
      refine s_skip rfl rfl rfl ?_
      refine s_skip rfl rfl rfl ?_
      refine s_skip rfl rfl rfl ?_
      refine s_pickF rfl rfl (v := .sc (.bool false)) rfl rfl rfl rfl ?_
      refine s_mv (.inr rfl) (by conv => lhs; whnf) rfl rfl rfl ?_
      refine rt_nil ?_
      refine tri_ret ?_
      have e0 := (some1 h); subst e0
      exact endY [] [] (rvC (resTmp rfl) rvN) trivial trivial rfl rfl rfl rfl (.free rfl)

/- impl.CacheNew -/
def inv_i_CacheNew_1 (p0 : Int) (j1_0 : Bool) : St := mkT 11 [(0, .sc (.int .i64 p0)), (2, .ptr (2, 0) 0 0), (8, .sc (.bool j1_0))] [((2, 0), some ⟨43, 2, [[.sc (.int .i64 0), .nils]], false, true⟩)]
def inv_i_CacheNew_0  (j0_0 : Int) : St := mkT 11 [(0, .sc (.int .i64 j0_0)), (2, .ptr (2, 0) 0 0)] [((2, 0), some ⟨43, 2, [[.sc (.int .i64 0), .nils]], false, true⟩)]
set_option maxRecDepth 4000 in
set_option maxHeartbeats 800000 in
theorem wi_CacheNew (p0 : Int) (r0 : MCache) (h : i_CacheNew p0 = some r0) : Runs Tryd.prog 30 [.sc (.int .i64 p0)] [] (.agg [.sc (.int .i64 r0.cap), .own 32 6 (List.map mEntryV r0.l)]) [] := by
  unfold i_CacheNew at h
  refine runsR [.cell 2 43] Tryd.func30 rfl rfl rfl rfl ?_
  rw [Tryd.ntmps30]
  refine tri_seq ?_
  refine tri_region ?_
  refine s_alloc rfl rfl rfl zc43 rfl rfl rfl rfl rfl ?_
  refine rt_nil ?_
  refine tri_cutI (ι := { p : Int // i_CacheNew_j0 p = some r0 }) (fun p => inv_i_CacheNew_0 p.1) ?_ ?_
  · skip
    refine tri_cutI (ι := { p : Bool // i_CacheNew_j1 p0 p = some r0 }) (fun p => inv_i_CacheNew_1 p0 p.1) ?_ ?_
    · skip
      refine tri_region ?_
      refine s_mv (.inl rfl) (by conv => lhs; whnf) rfl rfl rfl ?_
      refine s_of (st_lss rfl rfl rfl) rfl rfl rfl rfl ?_
      refine s_mv (.inl rfl) (by conv => lhs; whnf) rfl rfl rfl ?_
      refine s_split (t := 5) rfl (fun b1 => ?_) (fun b1 => ?_)
      · replace h := cond_t h b1
        refine s_skip rfl rfl rfl ?_
        refine s_skip rfl rfl rfl ?_
        refine s_pickT rfl rfl (v := .sc (.bool true)) rfl rfl rfl rfl ?_
        refine rt_nil ?_
        refine Exists.intro ⟨true, h⟩ ?_
        refine entX [((2, 0), ⟨43, 2, [[.sc (.int .i64 0), .nils]], false, true⟩, some (2, 0))] [] ⟨⟨rfl, _, rfl, rfl, rfl, rfl, id, rowsCv_one (.cons (.free rfl) (.cons (.free rfl) .nil)), rowsZ_one rfl⟩, trivial⟩ trivial rfl rfl ?_
        exact ⟨(.free rfl), (.ptr rfl), (.free rfl), trivial⟩
      · replace h := cond_f h b1
        refine s_mv (.inl rfl) (by conv => lhs; whnf) rfl rfl rfl ?_
        refine s_of (st_gtr rfl rfl rfl) rfl rfl rfl rfl ?_
        refine s_pickF rfl rfl (by conv => lhs; whnf) rfl rfl rfl ?_
        refine rt_nil ?_
        refine Exists.intro ⟨decide (60 < p0), h⟩ ?_
        refine entX [((2, 0), ⟨43, 2, [[.sc (.int .i64 0), .nils]], false, true⟩, some (2, 0))] [] ⟨⟨rfl, _, rfl, rfl, rfl, rfl, id, rowsCv_one (.cons (.free rfl) (.cons (.free rfl) .nil)), rowsZ_one rfl⟩, trivial⟩ trivial rfl rfl ?_
        exact ⟨(.free rfl), (.ptr rfl), (.free rfl), trivial⟩
    · rintro ⟨j1_0, h⟩
      replace h : i_CacheNew_j1 p0 j1_0 = some r0 := h
      unfold i_CacheNew_j1 at h
      show Tri _ _ _ (inv_i_CacheNew_1 p0 j1_0)
      refine tri_cond rfl (fun c1 => ?_) (fun c1 => ?_)
      · replace h := cond_t h c1
        refine tri_region ?_
        refine s_mv (.inr rfl) (v := .sc (.int .i64 1)) rfl rfl rfl rfl ?_
        refine rt_nil ?_
        refine Exists.intro ⟨1, h⟩ ?_
        refine entX [((2, 0), ⟨43, 2, [[.sc (.int .i64 0), .nils]], false, true⟩, some (2, 0))] [] ⟨⟨rfl, _, rfl, rfl, rfl, rfl, id, rowsCv_one (.cons (.free rfl) (.cons (.free rfl) .nil)), rowsZ_one rfl⟩, trivial⟩ trivial rfl rfl ?_
        exact ⟨(.free rfl), (.ptr rfl), trivial⟩
      · replace h := cond_f h c1
        refine tri_skip ?_
        refine Exists.intro ⟨p0, h⟩ ?_
        refine entX [((2, 0), ⟨43, 2, [[.sc (.int .i64 0), .nils]], false, true⟩, some (2, 0))] [] ⟨⟨rfl, _, rfl, rfl, rfl, rfl, id, rowsCv_one (.cons (.free rfl) (.cons (.free rfl) .nil)), rowsZ_one rfl⟩, trivial⟩ trivial rfl rfl ?_
        exact ⟨(.free rfl), (.ptr rfl), trivial⟩
  · rintro ⟨j0_0, h⟩
    replace h : i_CacheNew_j0 j0_0 = some r0 := h
    unfold i_CacheNew_j0 at h
    show Tri _ _ _ (inv_i_CacheNew_0 j0_0)
    refine tri_seq ?_
    refine tri_region ?_
    refine s_mv (.inl rfl) (by conv => lhs; whnf) rfl rfl rfl ?_
    refine s_build (cells' := [.sc (.int .i64 j0_0), .nils]) rfl stc43 rfl rfl rfl rfl rfl rfl rfl ?_
    refine s_storeB rfl rfl rfl ty43 rfl rfl rfl rfl rfl ?_
    refine rt_nil ?_
    refine tri_ret ?_
    have e0 := (some1 h); subst e0
    exact endY (v' := .agg [.sc (.int .i64 j0_0), .ref (2000, 1) 0 (([] : List MEntry).length)]) [((2000, 1), ⟨32, 6, List.map mEntryV ([] : List MEntry), false, true⟩, none)] [] (rvC (resCell rfl rfl ty43) rvN) ⟨rfl, trivial⟩ trivial rfl rfl (by kernel_rfl) (by first | (simp only [V.mat, V.mat1, V.mat0, matL, matT, List.length_map]; done) | (simp only [V.mat, V.mat1, V.mat0, matL, matT, List.length_map]; rfl)) (CvL.agg (.cons (.free rfl) (.cons (.nilRef rfl) .nil)))

/- laws.sameCache -/
def inv_w_sameCache_1 (p0 : MCache) (p1 : MCache) (v1_0 : Nat) : St := mkT 39 [(2, .ptr (2, 0) 0 0), (3, .ptr (3, 0) 0 0), (5, .sc (.int .i64 (v1_0 : Int)))] [((2, 0), some ⟨43, 2, [[.sc (.int .i64 p0.cap), .lst 6 (List.map mEntryV p0.l)]], false, true⟩), ((3, 0), some ⟨43, 2, [[.sc (.int .i64 p1.cap), .lst 6 (List.map mEntryV p1.l)]], false, true⟩)]
def inv_w_sameCache_0 (p0 : MCache) (p1 : MCache) (j0_0 : Bool) : St := mkT 39 [(2, .ptr (2, 0) 0 0), (3, .ptr (3, 0) 0 0), (19, .sc (.bool j0_0))] [((2, 0), some ⟨43, 2, [[.sc (.int .i64 p0.cap), .lst 6 (List.map mEntryV p0.l)]], false, true⟩), ((3, 0), some ⟨43, 2, [[.sc (.int .i64 p1.cap), .lst 6 (List.map mEntryV p1.l)]], false, true⟩)]
set_option maxRecDepth 4000 in
set_option maxHeartbeats 800000 in
theorem ww_sameCache (p0 : MCache) (p1 : MCache) (r0 : Bool) (h : w_sameCache p0 p1 = some r0) : Runs Tryd.prog 22 [.agg (mCacheV p0), .agg (mCacheV p1)] [] (.sc (.bool r0)) [] := by
  unfold w_sameCache at h
  refine runsR [.tmp 4] Tryd.func22 rfl rfl rfl rfl ?_
  rw [Tryd.ntmps22]
  refine tri_seq ?_
  refine tri_region ?_
  refine s_box rfl rfl rfl rfl rfl rfl rfl ?_
  refine s_box rfl rfl rfl rfl rfl rfl rfl ?_
  refine s_mv (.inr rfl) (v := .sc (.bool false)) rfl rfl rfl rfl ?_
  refine rt_nil ?_
  refine tri_seq ?_
  refine tri_cutI (ι := { p : Bool // w_sameCache_j0 p0 p1 p = some r0 }) (fun p => inv_w_sameCache_0 p0 p1 p.1) ?_ ?_
  · skip
    refine tri_region ?_
    refine s_fieldAddr rfl rfl fd43_0 rfl rfl rfl rfl ?_
    refine s_load rfl rfl rfl rfl ty3 rfl (.inr rfl) (by conv => lhs; whnf) rfl rfl rfl ?_
    refine s_fieldAddr rfl rfl fd43_0 rfl rfl rfl rfl ?_
    refine s_load rfl rfl rfl rfl ty3 rfl (.inr rfl) (by conv => lhs; whnf) rfl rfl rfl ?_
    refine s_of (st_neI rfl rfl rfl) rfl rfl rfl rfl ?_
    refine s_mv (.inl rfl) (by conv => lhs; whnf) rfl rfl rfl ?_
    refine s_split (t := 11) rfl (fun b1 => ?_) (fun b1 => ?_)
    · replace h := cond_t h b1
      refine s_skip rfl rfl rfl ?_
      refine s_skip rfl rfl rfl ?_
      refine s_skip rfl rfl rfl ?_
      refine s_skip rfl rfl rfl ?_
      refine s_skip rfl rfl rfl ?_
      refine s_skip rfl rfl rfl ?_
      refine s_skip rfl rfl rfl ?_
      refine s_pickT rfl rfl (v := .sc (.bool true)) rfl rfl rfl rfl ?_
      refine rt_nil ?_
      refine Exists.intro ⟨true, h⟩ ?_
      refine entX [((2, 0), ⟨43, 2, [[.sc (.int .i64 p0.cap), .lst 6 (List.map mEntryV p0.l)]], false, true⟩, some (2, 0)), ((3, 0), ⟨43, 2, [[.sc (.int .i64 p1.cap), .lst 6 (List.map mEntryV p1.l)]], false, true⟩, some (3, 0))] [] ⟨⟨rfl, _, rfl, rfl, rfl, rfl, id, rowsCv_one (.cons (.free rfl) (.cons (.free rfl) .nil)), rowsZ_one rfl⟩, ⟨rfl, _, rfl, rfl, rfl, rfl, id, rowsCv_one (.cons (.free rfl) (.cons (.free rfl) .nil)), rowsZ_one rfl⟩, trivial⟩ trivial rfl rfl ?_
      exact ⟨(.ptr rfl), (.ptr rfl), (.free rfl), trivial⟩
    · replace h := cond_f h b1
      refine s_fieldAddr rfl rfl fd43_1 rfl rfl rfl rfl ?_
      refine s_load rfl rfl rfl rfl ty41 rfl (.inr rfl) (by conv => lhs; whnf) rfl rfl rfl ?_
      refine s_lenL rfl sl41 rfl rfl rfl rfl ?_
      refine s_fieldAddr rfl rfl fd43_1 rfl rfl rfl rfl ?_
      refine s_load rfl rfl rfl rfl ty41 rfl (.inr rfl) (by conv => lhs; whnf) rfl rfl rfl ?_
      refine s_lenL rfl sl41 rfl rfl rfl rfl ?_
      refine s_of (st_neI rfl rfl rfl) rfl rfl rfl rfl ?_
      refine s_pickF rfl rfl (by conv => lhs; whnf) rfl rfl rfl ?_
      refine rt_nil ?_
      refine Exists.intro ⟨!decide ((p0.l.length : Int) = (p1.l.length : Int)), h⟩ ?_
      refine entX [((2, 0), ⟨43, 2, [[.sc (.int .i64 p0.cap), .lst 6 (List.map mEntryV p0.l)]], false, true⟩, some (2, 0)), ((3, 0), ⟨43, 2, [[.sc (.int .i64 p1.cap), .lst 6 (List.map mEntryV p1.l)]], false, true⟩, some (3, 0))] [] ⟨⟨rfl, _, rfl, rfl, rfl, rfl, id, rowsCv_one (.cons (.free rfl) (.cons (.free rfl) .nil)), rowsZ_one rfl⟩, ⟨rfl, _, rfl, rfl, rfl, rfl, id, rowsCv_one (.cons (.free rfl) (.cons (.free rfl) .nil)), rowsZ_one rfl⟩, trivial⟩ trivial rfl rfl ?_
      exact ⟨(.ptr rfl), (.ptr rfl), (.free rfl), trivial⟩
  · rintro ⟨j0_0, h⟩
    replace h : w_sameCache_j0 p0 p1 j0_0 = some r0 := h
    unfold w_sameCache_j0 at h
    show Tri _ _ _ (inv_w_sameCache_0 p0 p1 j0_0)
    refine tri_cond rfl (fun c1 => ?_) (fun c1 => ?_)
    · replace h := cond_t h c1
      refine tri_seq ?_
      refine tri_region ?_
      refine s_mv (.inr rfl) (v := .sc (.bool false)) rfl rfl rfl rfl ?_
      refine rt_nil ?_
      refine tri_ret ?_
      have e0 := (some1 h); subst e0
      exact endY [] [] (rvC (resTmp rfl) rvN) trivial trivial rfl rfl rfl rfl (.free rfl)
    · replace h := cond_f h c1
      refine tri_skip ?_
      refine tri_seq ?_
      refine tri_seq ?_
      refine tri_region ?_
      refine s_mv (.inr rfl) (v := .sc (.int .i64 0)) rfl rfl rfl rfl ?_
      refine rt_nil ?_
      refine tri_block ?_
      refine tri_boxM (2, 0) 1 rfl rfl (fun hl1 => ?_)
      refine tri_loop (ι := { p : (List MEntry) × Nat // p0.l.drop p.2 = p.1 ∧ w_sameCache_l1 p1 p.1 p.2 = some r0 }) (fun p => inv_w_sameCache_1 p0 p1 p.1.2) (fun p => p.1.1.length) ⟨(p0.l, 0), rfl, h⟩ ?_ ?_
      · skip
        refine entX [((2, 0), ⟨43, 2, [[.sc (.int .i64 p0.cap), .lst 6 (List.map mEntryV p0.l)]], false, true⟩, some (2, 0)), ((3, 0), ⟨43, 2, [[.sc (.int .i64 p1.cap), .lst 6 (List.map mEntryV p1.l)]], false, true⟩, some (3, 0))] [] ⟨⟨rfl, _, rfl, rfl, rfl, rfl, id, rowsCv_one (.cons (.free rfl) (.cons (.free rfl) .nil)), rowsZ_one rfl⟩, ⟨rfl, _, rfl, rfl, rfl, rfl, id, rowsCv_one (.cons (.free rfl) (.cons (.free rfl) .nil)), rowsZ_one rfl⟩, trivial⟩ trivial rfl rfl ?_
        exact ⟨(.ptr rfl), (.ptr rfl), (.free rfl), trivial⟩
      · rintro ⟨⟨lrs1, v1_0⟩, hd1, h⟩
        replace hd1 : p0.l.drop v1_0 = lrs1 := hd1
        replace h : w_sameCache_l1 p1 lrs1 v1_0 = some r0 := h
        show Tri _ _ _ (inv_w_sameCache_1 p0 p1 v1_0)
        refine tri_seq ?_
        refine tri_seq ?_
        refine tri_region ?_
        refine s_mv (.inl rfl) (by conv => lhs; whnf) rfl rfl rfl ?_
        refine s_fieldAddr rfl rfl fd43_1 rfl rfl rfl rfl ?_
        refine s_load rfl rfl rfl rfl ty41 rfl (.inr rfl) (by conv => lhs; whnf) rfl rfl rfl ?_
        refine s_lenL rfl sl41 rfl rfl rfl rfl ?_
        refine s_of (st_lss rfl rfl rfl) rfl rfl rfl rfl ?_
        refine rt_nil ?_
        refine tri_cond rfl (fun c2 => ?_) (fun c2 => ?_)
        · refine drop_elim hd1 c2 fun e1 rs1 he hx1 hn1 => ?_
          subst he
          rw [w_sameCache_l1] at h
          refine tri_skip ?_
          refine tri_seq ?_
          refine tri_block ?_
          refine tri_seq ?_
          refine tri_draw mixed ?_
          refine s_fieldAddr rfl rfl fd43_1 rfl rfl rfl rfl ?_
          refine s_load rfl rfl rfl rfl ty41 rfl (.inr rfl) (by conv => lhs; whnf) rfl rfl rfl ?_
          refine s_mv (.inl rfl) (by conv => lhs; whnf) rfl rfl rfl ?_
          refine s_indexF (i := v1_0) rfl rfl rfl sl41 (get_ltM hx1) rfl rfl rfl ?_
          refine s_loadFR rfl rfl (rowG hx1) ty32 rfl rfl rfl ?_
          refine s_fieldAddr rfl rfl fd43_1 rfl rfl rfl rfl ?_
          refine s_load rfl rfl rfl rfl ty41 rfl (.inr rfl) (by conv => lhs; whnf) rfl rfl rfl ?_
          refine s_mv (.inl rfl) (by conv => lhs; whnf) rfl rfl rfl ?_
          refine bnd1_elim h fun x3 q4 h => ?_
          have q4a := (idx_some q4).1; have q4b := (idx_some q4).2
          refine s_indexFZ rfl rfl rfl sl41 q4a (get_ltM q4b) rfl rfl rfl ?_
          refine s_loadFR rfl rfl (rowG q4b) ty32 rfl rfl rfl ?_
          refine bnd1_elim h fun x5 q6 h => ?_
          refine s_callN (kb := []) (ns := []) (v := .sc (.bool x5)) rfl rfl cl29 (ww_sameEntry e1 x3 x5 q6) rfl (.cons (relAgg rfl) (.cons (relAgg rfl) .nil)) trivial memNil .nil memNil rfl trivial memNil rfl rfl rfl rfl rfl rfl ?_
          refine s_of (st_not rfl rfl) rfl rfl rfl rfl ?_
          refine rt_nil ⟨by kernel_rfl, ?_⟩
          refine tri_cond rfl (fun c7 => ?_) (fun c7 => ?_)
          · replace h := cond_t h c7
            refine tri_seq ?_
            refine tri_region ?_
            refine s_mv (.inr rfl) (v := .sc (.bool false)) rfl rfl rfl rfl ?_
            refine rt_nil ?_
            refine tri_ret ?_
            have e0 := (some1 h); subst e0
            exact endY [] [] (rvC (resTmp rfl) rvN) trivial trivial rfl rfl rfl rfl (.free rfl)
          · replace h := cond_f h c7
            refine tri_skip ?_
            refine tri_region ?_
            refine s_mv (.inl rfl) (by conv => lhs; whnf) rfl rfl rfl ?_
            refine s_inc (a := v1_0) (b := 1) rfl rfl rfl rfl (by have := get_lt hx1; have := hl1; omega) rfl rfl rfl ?_
            refine s_mv (.inr rfl) (by conv => lhs; whnf) rfl rfl rfl ?_
            refine rt_nil ?_
            refine Exists.intro ⟨(rs1, (v1_0 + 1)), hn1, h⟩ (And.intro (Nat.lt_succ_self _) ?_)
            refine entX [((2, 0), ⟨43, 2, [[.sc (.int .i64 p0.cap), .lst 6 (List.map mEntryV p0.l)]], false, true⟩, some (2, 0)), ((3, 0), ⟨43, 2, [[.sc (.int .i64 p1.cap), .lst 6 (List.map mEntryV p1.l)]], false, true⟩, some (3, 0))] [] ⟨⟨rfl, _, rfl, rfl, rfl, rfl, id, rowsCv_one (.cons (.free rfl) (.cons (.free rfl) .nil)), rowsZ_one rfl⟩, ⟨rfl, _, rfl, rfl, rfl, rfl, id, rowsCv_one (.cons (.free rfl) (.cons (.free rfl) .nil)), rowsZ_one rfl⟩, trivial⟩ trivial rfl rfl ?_
            exact ⟨(.ptr rfl), (.ptr rfl), (.free rfl), trivial⟩
        · have he := drop_f hd1 c2; subst he
          rw [w_sameCache_l1] at h
          refine tri_exit ?_
          refine tri_seq ?_
          refine tri_region ?_
          refine s_mv (.inr rfl) (v := .sc (.bool true)) rfl rfl rfl rfl ?_
          refine rt_nil ?_
          refine tri_ret ?_
          have e0 := (some1 h); subst e0
          exact endY [] [] (rvC (resTmp rfl) rvN) trivial trivial rfl rfl rfl rfl (.free rfl)

/- laws.FnKeepsBent -/
def inv_w_FnKeepsBent_3 (x5 : Int) (x6 : Quest) (x7 : Int) (x9 : MEntry) (v2_0 : Nat) (j3_0 : Bool) : St := mkT 131 [(4, .sc (.int .i64 x5)), (5, .ptr (5, 0) 0 0), (6, .sc (.int .i64 x7)), (7, .ptr (7, 0) 0 0), (13, .sc (.int .i64 (v2_0 : Int))), (114, .sc (.bool j3_0))] [((5, 0), some ⟨29, 2, [[.sc (.string x6.name), .sc (.int .i64 x6.ty)]], false, true⟩), ((7, 0), some ⟨32, 6, [[.sc (.string x9.q.name), .sc (.int .i64 x9.q.ty), .sc (.int .i64 x9.kind), .ref (28, 103) 0 x9.l.length, .sc (.int .i64 x9.rank), .sc (.int .i64 x9.til)]], false, true⟩), ((28, 103), some ⟨60, 6, List.map recV x9.l, false, true⟩)]
def inv_w_FnKeepsBent_2 (x5 : Int) (x6 : Quest) (x7 : Int) (x9 : MEntry) (v2_0 : Nat) : St := mkT 131 [(4, .sc (.int .i64 x5)), (5, .ptr (5, 0) 0 0), (6, .sc (.int .i64 x7)), (7, .ptr (7, 0) 0 0), (13, .sc (.int .i64 (v2_0 : Int)))] [((5, 0), some ⟨29, 2, [[.sc (.string x6.name), .sc (.int .i64 x6.ty)]], false, true⟩), ((7, 0), some ⟨32, 6, [[.sc (.string x9.q.name), .sc (.int .i64 x9.q.ty), .sc (.int .i64 x9.kind), .ref (28, 103) 0 x9.l.length, .sc (.int .i64 x9.rank), .sc (.int .i64 x9.til)]], false, true⟩), ((28, 103), some ⟨60, 6, List.map recV x9.l, false, true⟩)]
def inv_w_FnKeepsBent_1 (x5 : Int) (x6 : Quest) (x7 : Int) (x9 : MEntry) : St := mkT 131 [(4, .sc (.int .i64 x5)), (5, .ptr (5, 0) 0 0), (6, .sc (.int .i64 x7)), (7, .ptr (7, 0) 0 0)] [((5, 0), some ⟨29, 2, [[.sc (.string x6.name), .sc (.int .i64 x6.ty)]], false, true⟩), ((7, 0), some ⟨32, 6, [[.sc (.string x9.q.name), .sc (.int .i64 x9.q.ty), .sc (.int .i64 x9.kind), .ref (28, 103) 0 x9.l.length, .sc (.int .i64 x9.rank), .sc (.int .i64 x9.til)]], false, true⟩), ((28, 103), some ⟨60, 6, List.map recV x9.l, false, true⟩)]
def inv_w_FnKeepsBent_0 (x5 : Int) (x6 : Quest) (x7 : Int) (x9 : MEntry) (x10 : Bool) (j0_0 : Bool) : St := mkT 131 [(4, .sc (.int .i64 x5)), (5, .ptr (5, 0) 0 0), (6, .sc (.int .i64 x7)), (7, .ptr (7, 0) 0 0), (8, .sc (.bool x10)), (72, .sc (.bool j0_0))] [((5, 0), some ⟨29, 2, [[.sc (.string x6.name), .sc (.int .i64 x6.ty)]], false, true⟩), ((7, 0), some ⟨32, 6, [[.sc (.string x9.q.name), .sc (.int .i64 x9.q.ty), .sc (.int .i64 x9.kind), .ref (28, 103) 0 x9.l.length, .sc (.int .i64 x9.rank), .sc (.int .i64 x9.til)]], false, true⟩), ((28, 103), some ⟨60, 6, List.map recV x9.l, false, true⟩)]
set_option maxRecDepth 4000 in
set_option maxHeartbeats 800000 in
theorem ww_FnKeepsBent (p0 : List Int) (r0 : Bool) (h : w_FnKeepsBent p0 = some r0) : Runs Tryd.prog 6 [.lst 1 (List.map byteV p0)] [] (.sc (.bool r0)) [] := by
  unfold w_FnKeepsBent at h
  refine runsR [.tmp 2] Tryd.func6 rfl rfl rfl rfl ?_
  rw [Tryd.ntmps6]
  refine tri_seq ?_
  refine tri_region ?_
  refine s_mv (.inr rfl) (v := .sc (.bool false)) rfl rfl rfl rfl ?_
  refine rt_nil ?_
  refine tri_seq ?_
  refine tri_seq ?_
  refine tri_region ?_
  refine s_mv (.inl rfl) (by conv => lhs; whnf) rfl rfl rfl ?_
  refine bnd1_elim h fun x1 q2 h => ?_
  refine s_callN (kb := []) (ns := []) (v := .sc (.bool x1)) rfl rfl cl19 (ww_big p0 x1 q2) rfl (.cons (.free rfl) .nil) trivial memNil .nil memNil rfl trivial memNil rfl rfl rfl rfl rfl rfl ?_
  refine rt_nil ?_
  refine tri_cond rfl (fun c3 => ?_) (fun c3 => ?_)
  · replace h := cond_t h c3
    refine tri_seq ?_
    refine tri_region ?_
    refine s_mv (.inr rfl) (v := .sc (.bool true)) rfl rfl rfl rfl ?_
    refine rt_nil ?_
    refine tri_ret ?_
    have e0 := (some1 h); subst e0
    exact endY [] [] (rvC (resTmp rfl) rvN) trivial trivial rfl rfl rfl rfl (.free rfl)
  · replace h := cond_f h c3
    refine tri_skip ?_
    refine tri_seq ?_
    refine tri_region ?_
    refine s_mv (.inl rfl) (by conv => lhs; whnf) rfl rfl rfl ?_
    refine bnd4_elim h fun x4 x5 x6 x7 q8 h => ?_
    refine s_callZ (kb := []) (ns := []) (v := .tup [.agg [.sc (.int .i64 x4.cap), .ref (18, 101) 0 x4.l.length], .sc (.int .i64 x5), .agg (questV x6), .sc (.int .i64 x7)]) rfl rfl cl24 (ws_DrawLook p0 x4 x5 x6 x7 q8) rfl (.cons (.free rfl) .nil) trivial memNil .nil memNil trivial rfl ⟨(allFree_map mEntryV_free), trivial⟩ memNil rfl (by first | (simp only [V.mat, V.mat1, V.mat0, matL, matT, List.length_map]; done) | (simp only [V.mat, V.mat1, V.mat0, matL, matT, List.length_map]; rfl)) rfl rfl rfl rfl ?_
    refine s_mv (.inl rfl) (by conv => lhs; whnf) rfl rfl rfl ?_
    refine s_extract rfl rfl rfl rfl rfl rfl ?_
    refine s_extract rfl rfl rfl rfl rfl rfl ?_
    refine s_extract rfl rfl rfl rfl rfl rfl ?_
    refine s_extract rfl rfl rfl rfl rfl rfl ?_
    refine s_alloc rfl rfl rfl zc43 rfl rfl rfl rfl rfl ?_
    refine s_alloc rfl rfl rfl zc29 rfl rfl rfl rfl rfl ?_
    refine s_storeB rfl rfl rfl ty43 rfl rfl rfl rfl rfl ?_
    refine s_mv (.inr rfl) (by conv => lhs; whnf) rfl rfl rfl ?_
    refine s_storeB rfl rfl rfl ty29 rfl rfl rfl rfl rfl ?_
    refine s_mv (.inr rfl) (by conv => lhs; whnf) rfl rfl rfl ?_
    refine rt_nil ?_
    refine tri_seq ?_
    refine tri_region ?_
    refine s_loadR rfl rfl rfl rfl ty43 rfl rfl rfl ?_
    refine s_mv (.inl rfl) (by conv => lhs; whnf) rfl rfl rfl ?_
    refine s_loadR rfl rfl rfl rfl ty29 rfl rfl rfl ?_
    refine s_mv (.inl rfl) (by conv => lhs; whnf) rfl rfl rfl ?_
    refine bnd2_elim h fun x9 x10 q11 h => ?_
    refine s_callN (kb := [(18, 101)]) (ns := []) (v := .tup [.agg [.sc (.string x9.q.name), .sc (.int .i64 x9.q.ty), .sc (.int .i64 x9.kind), .ref (28, 103) 0 x9.l.length, .sc (.int .i64 x9.rank), .sc (.int .i64 x9.til)], .sc (.bool x10)]) rfl rfl cl25 (wi_Look x4 x5 x6 x7 x9 x10 q11) rfl (.cons (relAggL (.cons (.free rfl) (.cons (lendL rfl (.head _) rfl mEntryV_free mEntryV_len) .nil))) (.cons (.free rfl) (.cons (relAgg rfl) (.cons (.free rfl) .nil)))) trivial memNil .nil (fun _ _ => List.not_mem_nil) rfl ⟨(allSc_map recV_sc), trivial⟩ memNil rfl (by first | (simp only [V.mat, V.mat1, V.mat0, matL, matT, List.length_map]; done) | (simp only [V.mat, V.mat1, V.mat0, matL, matT, List.length_map]; rfl)) rfl rfl rfl rfl ?_
    refine s_mv (.inl rfl) (by conv => lhs; whnf) rfl rfl rfl ?_
    refine s_extract rfl rfl rfl rfl rfl rfl ?_
    refine s_extract rfl rfl rfl rfl rfl rfl ?_
    refine s_alloc rfl rfl rfl zc32 rfl rfl rfl rfl rfl ?_
    refine s_storeB rfl rfl rfl ty32 rfl rfl rfl rfl rfl ?_
    refine s_mv (.inr rfl) (by conv => lhs; whnf) rfl rfl rfl ?_
    refine rt_nil ?_
    refine tri_seq ?_
    refine tri_region ?_
    refine s_loadR rfl rfl rfl rfl ty43 rfl rfl rfl ?_
    refine s_mv (.inl rfl) (by conv => lhs; whnf) rfl rfl rfl ?_
    refine s_loadR rfl rfl rfl rfl ty29 rfl rfl rfl ?_
    refine s_mv (.inl rfl) (by conv => lhs; whnf) rfl rfl rfl ?_
    refine bnd2_elim h fun x12 x13 q14 h => ?_
    refine s_callN (kb := [(18, 101)]) (ns := []) (v := .tup [.agg [.sc (.string x12.q.name), .sc (.int .i64 x12.q.ty), .sc (.int .i64 x12.kind), .ref (36, 103) 0 x12.l.length, .sc (.int .i64 x12.rank), .sc (.int .i64 x12.til)], .sc (.bool x13)]) rfl rfl cl26 (ws_Look x4 x5 x6 x7 x12 x13 q14) rfl (.cons (relAggL (.cons (.free rfl) (.cons (lendL rfl (.head _) rfl mEntryV_free mEntryV_len) .nil))) (.cons (.free rfl) (.cons (relAgg rfl) (.cons (.free rfl) .nil)))) trivial memNil .nil (fun _ _ => List.not_mem_nil) rfl ⟨(allSc_map recV_sc), trivial⟩ memNil rfl (by first | (simp only [V.mat, V.mat1, V.mat0, matL, matT, List.length_map]; done) | (simp only [V.mat, V.mat1, V.mat0, matL, matT, List.length_map]; rfl)) rfl rfl rfl rfl ?_
    refine s_mv (.inl rfl) (by conv => lhs; whnf) rfl rfl rfl ?_
    refine s_extract rfl rfl rfl rfl rfl rfl ?_
    refine s_extract rfl rfl rfl rfl rfl rfl ?_
    refine s_alloc rfl rfl rfl zc32 rfl rfl rfl rfl rfl ?_
    refine s_storeB rfl rfl rfl ty32 rfl rfl rfl rfl rfl ?_
    refine s_mv (.inr rfl) (by conv => lhs; whnf) rfl rfl rfl ?_
    refine rt_nil ?_
    refine tri_seq ?_
    refine tri_region ?_
    refine s_mv (.inl rfl) (by conv => lhs; whnf) rfl rfl rfl ?_
    refine bnd1_elim h fun x15 q16 h => ?_
    refine s_callZ (kb := []) (ns := []) (v := .agg [.sc (.int .i64 x15.cap), .ref (40, 1) 0 x15.l.length]) rfl rfl cl27 (ws_DrawCacheOk p0 x15 q16) rfl (.cons (.free rfl) .nil) trivial memNil .nil memNil trivial rfl ⟨(allFree_map mEntryV_free), trivial⟩ memNil rfl (by first | (simp only [V.mat, V.mat1, V.mat0, matL, matT, List.length_map]; done) | (simp only [V.mat, V.mat1, V.mat0, matL, matT, List.length_map]; rfl)) rfl rfl rfl rfl ?_
    refine s_alloc rfl rfl rfl zc43 rfl rfl rfl rfl rfl ?_
    refine s_storeB rfl rfl rfl ty43 rfl rfl rfl rfl rfl ?_
    refine rt_nil ?_
    refine tri_seq ?_
    refine tri_region ?_
    refine s_mv (.inl rfl) (by conv => lhs; whnf) rfl rfl rfl ?_
    refine bnd1_elim h fun x17 q18 h => ?_
    refine s_callN (kb := []) (ns := []) (v := .sc (.int .i64 x17)) rfl rfl cl28 (ws_DrawCacheNew p0 x17 q18) rfl (.cons (.free rfl) .nil) trivial memNil .nil memNil rfl trivial memNil rfl rfl rfl rfl rfl rfl ?_
    refine s_mv (.inr rfl) (by conv => lhs; whnf) rfl rfl rfl ?_
    refine rt_nil ?_
    refine tri_seq ?_
    refine tri_cutI (ι := { p : Bool // w_FnKeepsBent_j0 x5 x6 x7 x9 x10 p = some r0 }) (fun p => inv_w_FnKeepsBent_0 x5 x6 x7 x9 x10 p.1) ?_ ?_
    · skip
      refine tri_draw mixed ?_
      refine s_loadR rfl rfl rfl rfl ty32 rfl rfl rfl ?_
      refine s_loadR rfl rfl rfl rfl ty32 rfl rfl rfl ?_
      refine bnd1_elim h fun x19 q20 h => ?_
      refine s_callN (kb := [(28, 103), (36, 103)]) (ns := []) (v := .sc (.bool x19)) rfl rfl cl29 (ww_sameEntry x9 x12 x19 q20) rfl (.cons (relAggL (.cons (.free rfl) (.cons (.free rfl) (.cons (.free rfl) (.cons (lendL rfl (.head _) rfl recV_free recV_len) (.cons (.free rfl) (.cons (.free rfl) .nil))))))) (.cons (relAggL (.cons (.free rfl) (.cons (.free rfl) (.cons (.free rfl) (.cons (lendL rfl (.tail _ (.head _)) rfl recV_free recV_len) (.cons (.free rfl) (.cons (.free rfl) .nil))))))) .nil)) trivial memNil .nil (fun _ _ => List.not_mem_nil) rfl trivial memNil rfl rfl rfl rfl rfl rfl ?_
      refine s_of (st_not rfl rfl) rfl rfl rfl rfl ?_
      refine s_mv (.inl rfl) (by conv => lhs; whnf) rfl rfl rfl ?_
      refine s_split (t := 47) rfl (fun b21 => ?_) (fun b21 => ?_)
      · replace h := cond_t h b21
        refine s_skip rfl rfl rfl ?_
        refine s_skip rfl rfl rfl ?_
        refine s_skip rfl rfl rfl ?_
        refine s_pickT rfl rfl (v := .sc (.bool true)) rfl rfl rfl rfl ?_
        refine s_mv (.inl rfl) (by conv => lhs; whnf) rfl rfl rfl ?_
        refine s_skip rfl rfl rfl ?_
        refine s_skip rfl rfl rfl ?_
        refine s_skip rfl rfl rfl ?_
        refine s_skip rfl rfl rfl ?_
        refine s_skip rfl rfl rfl ?_
        refine s_pickT rfl rfl (v := .sc (.bool true)) rfl rfl rfl rfl ?_
        refine s_mv (.inl rfl) (by conv => lhs; whnf) rfl rfl rfl ?_
        refine s_skip rfl rfl rfl ?_
        refine s_skip rfl rfl rfl ?_
        refine s_skip rfl rfl rfl ?_
        refine s_skip rfl rfl rfl ?_
        refine s_skip rfl rfl rfl ?_
        refine s_skip rfl rfl rfl ?_
        refine s_pickT rfl rfl (v := .sc (.bool true)) rfl rfl rfl rfl ?_
        refine s_mv (.inl rfl) (by conv => lhs; whnf) rfl rfl rfl ?_
        refine s_skip rfl rfl rfl ?_
        refine s_skip rfl rfl rfl ?_
        refine s_skip rfl rfl rfl ?_
        refine s_skip rfl rfl rfl ?_
        refine s_pickT rfl rfl (v := .sc (.bool true)) rfl rfl rfl rfl ?_
        refine rt_nil ⟨by kernel_rfl, ?_⟩
        refine Exists.intro ⟨true, h⟩ ?_
        refine entX [((5, 0), ⟨29, 2, [[.sc (.string x6.name), .sc (.int .i64 x6.ty)]], false, true⟩, some (5, 0)), ((7, 0), ⟨32, 6, [[.sc (.string x9.q.name), .sc (.int .i64 x9.q.ty), .sc (.int .i64 x9.kind), .ref (28, 103) 0 x9.l.length, .sc (.int .i64 x9.rank), .sc (.int .i64 x9.til)]], false, true⟩, some (7, 0)), ((28, 103), ⟨60, 6, List.map recV x9.l, false, true⟩, some (28, 103))] [] ⟨⟨rfl, _, rfl, rfl, rfl, rfl, id, rowsCv_one (.cons (.free rfl) (.cons (.free rfl) .nil)), rowsZ_one rfl⟩, ⟨rfl, _, rfl, rfl, rfl, rfl, id, rowsCv_one (.cons (.free rfl) (.cons (.free rfl) (.cons (.free rfl) (.cons (.ref rfl) (.cons (.free rfl) (.cons (.free rfl) .nil)))))), rowsZ_one rfl⟩, ⟨rfl, _, rfl, rfl, rfl, rfl, id, rowsCv_eq rfl (allFree_map recV_free), rowsZ_map recV_len⟩, trivial⟩ trivial rfl rfl ?_
        exact ⟨(.free rfl), (.ptr rfl), (.free rfl), (.ptr rfl), (.free rfl), (.free rfl), trivial⟩
      · replace h := cond_f h b21
        refine s_mv (.inl rfl) (by conv => lhs; whnf) rfl rfl rfl ?_
        refine s_mv (.inl rfl) (by conv => lhs; whnf) rfl rfl rfl ?_
        refine s_of (st_neB isb4 rfl rfl rfl) rfl rfl rfl rfl ?_
        refine s_pickF rfl rfl (by conv => lhs; whnf) rfl rfl rfl ?_
        refine s_mv (.inl rfl) (by conv => lhs; whnf) rfl rfl rfl ?_
        refine s_split (t := 52) rfl (fun b22 => ?_) (fun b22 => ?_)
        · replace h := cond_t h b22
          refine s_skip rfl rfl rfl ?_
          refine s_skip rfl rfl rfl ?_
          refine s_skip rfl rfl rfl ?_
          refine s_skip rfl rfl rfl ?_
          refine s_skip rfl rfl rfl ?_
          refine s_pickT rfl rfl (v := .sc (.bool true)) rfl rfl rfl rfl ?_
          refine s_mv (.inl rfl) (by conv => lhs; whnf) rfl rfl rfl ?_
          refine s_skip rfl rfl rfl ?_
          refine s_skip rfl rfl rfl ?_
          refine s_skip rfl rfl rfl ?_
          refine s_skip rfl rfl rfl ?_
          refine s_skip rfl rfl rfl ?_
          refine s_skip rfl rfl rfl ?_
          refine s_pickT rfl rfl (v := .sc (.bool true)) rfl rfl rfl rfl ?_
          refine s_mv (.inl rfl) (by conv => lhs; whnf) rfl rfl rfl ?_
          refine s_skip rfl rfl rfl ?_
          refine s_skip rfl rfl rfl ?_
          refine s_skip rfl rfl rfl ?_
          refine s_skip rfl rfl rfl ?_
          refine s_pickT rfl rfl (v := .sc (.bool true)) rfl rfl rfl rfl ?_
          refine rt_nil ⟨by kernel_rfl, ?_⟩
          refine Exists.intro ⟨true, h⟩ ?_
          refine entX [((5, 0), ⟨29, 2, [[.sc (.string x6.name), .sc (.int .i64 x6.ty)]], false, true⟩, some (5, 0)), ((7, 0), ⟨32, 6, [[.sc (.string x9.q.name), .sc (.int .i64 x9.q.ty), .sc (.int .i64 x9.kind), .ref (28, 103) 0 x9.l.length, .sc (.int .i64 x9.rank), .sc (.int .i64 x9.til)]], false, true⟩, some (7, 0)), ((28, 103), ⟨60, 6, List.map recV x9.l, false, true⟩, some (28, 103))] [] ⟨⟨rfl, _, rfl, rfl, rfl, rfl, id, rowsCv_one (.cons (.free rfl) (.cons (.free rfl) .nil)), rowsZ_one rfl⟩, ⟨rfl, _, rfl, rfl, rfl, rfl, id, rowsCv_one (.cons (.free rfl) (.cons (.free rfl) (.cons (.free rfl) (.cons (.ref rfl) (.cons (.free rfl) (.cons (.free rfl) .nil)))))), rowsZ_one rfl⟩, ⟨rfl, _, rfl, rfl, rfl, rfl, id, rowsCv_eq rfl (allFree_map recV_free), rowsZ_map recV_len⟩, trivial⟩ trivial rfl rfl ?_
          exact ⟨(.free rfl), (.ptr rfl), (.free rfl), (.ptr rfl), (.free rfl), (.free rfl), trivial⟩
        · replace h := cond_f h b22
          refine s_loadR rfl rfl rfl rfl ty43 rfl rfl rfl ?_
          refine bnd1_elim h fun x23 q24 h => ?_
          refine s_callN (kb := [(40, 1)]) (ns := []) (v := .sc (.bool x23)) rfl rfl cl17 (wi_CacheOk x15 x23 q24) rfl (.cons (relAggL (.cons (.free rfl) (.cons (lendL rfl (.head _) rfl mEntryV_free mEntryV_len) .nil))) .nil) trivial memNil .nil (fun _ _ => List.not_mem_nil) rfl trivial memNil rfl rfl rfl rfl rfl rfl ?_
          refine s_loadR rfl rfl rfl rfl ty43 rfl rfl rfl ?_
          refine bnd1_elim h fun x25 q26 h => ?_
          refine s_callN (kb := [(40, 1)]) (ns := []) (v := .sc (.bool x25)) rfl rfl cl15 (ws_CacheOk x15 x25 q26) rfl (.cons (relAggL (.cons (.free rfl) (.cons (lendL rfl (.head _) rfl mEntryV_free mEntryV_len) .nil))) .nil) trivial memNil .nil (fun _ _ => List.not_mem_nil) rfl trivial memNil rfl rfl rfl rfl rfl rfl ?_
          refine s_of (st_neB isb4 rfl rfl rfl) rfl rfl rfl rfl ?_
          refine s_pickF rfl rfl (by conv => lhs; whnf) rfl rfl rfl ?_
          refine s_mv (.inl rfl) (by conv => lhs; whnf) rfl rfl rfl ?_
          refine s_split (t := 59) rfl (fun b27 => ?_) (fun b27 => ?_)
          · replace h := cond_t h b27
            refine s_skip rfl rfl rfl ?_
            refine s_skip rfl rfl rfl ?_
            refine s_skip rfl rfl rfl ?_
            refine s_skip rfl rfl rfl ?_
            refine s_skip rfl rfl rfl ?_
            refine s_skip rfl rfl rfl ?_
            refine s_pickT rfl rfl (v := .sc (.bool true)) rfl rfl rfl rfl ?_
            refine s_mv (.inl rfl) (by conv => lhs; whnf) rfl rfl rfl ?_
            refine s_skip rfl rfl rfl ?_
            refine s_skip rfl rfl rfl ?_
            refine s_skip rfl rfl rfl ?_
            refine s_skip rfl rfl rfl ?_
            refine s_pickT rfl rfl (v := .sc (.bool true)) rfl rfl rfl rfl ?_
            refine rt_nil ⟨by kernel_rfl, ?_⟩
            refine Exists.intro ⟨true, h⟩ ?_
            refine entX [((5, 0), ⟨29, 2, [[.sc (.string x6.name), .sc (.int .i64 x6.ty)]], false, true⟩, some (5, 0)), ((7, 0), ⟨32, 6, [[.sc (.string x9.q.name), .sc (.int .i64 x9.q.ty), .sc (.int .i64 x9.kind), .ref (28, 103) 0 x9.l.length, .sc (.int .i64 x9.rank), .sc (.int .i64 x9.til)]], false, true⟩, some (7, 0)), ((28, 103), ⟨60, 6, List.map recV x9.l, false, true⟩, some (28, 103))] [] ⟨⟨rfl, _, rfl, rfl, rfl, rfl, id, rowsCv_one (.cons (.free rfl) (.cons (.free rfl) .nil)), rowsZ_one rfl⟩, ⟨rfl, _, rfl, rfl, rfl, rfl, id, rowsCv_one (.cons (.free rfl) (.cons (.free rfl) (.cons (.free rfl) (.cons (.ref rfl) (.cons (.free rfl) (.cons (.free rfl) .nil)))))), rowsZ_one rfl⟩, ⟨rfl, _, rfl, rfl, rfl, rfl, id, rowsCv_eq rfl (allFree_map recV_free), rowsZ_map recV_len⟩, trivial⟩ trivial rfl rfl ?_
            exact ⟨(.free rfl), (.ptr rfl), (.free rfl), (.ptr rfl), (.free rfl), (.free rfl), trivial⟩
          · replace h := cond_f h b27
            refine s_mv (.inl rfl) (by conv => lhs; whnf) rfl rfl rfl ?_
            refine bnd1_elim h fun x28 q29 h => ?_
            refine s_callZ (kb := []) (ns := []) (v := .agg [.sc (.int .i64 x28.cap), .ref (61, 1) 0 x28.l.length]) rfl rfl cl30 (wi_CacheNew x17 x28 q29) rfl (.cons (.free rfl) .nil) trivial memNil .nil memNil trivial rfl ⟨(allFree_map mEntryV_free), trivial⟩ memNil rfl (by first | (simp only [V.mat, V.mat1, V.mat0, matL, matT, List.length_map]; done) | (simp only [V.mat, V.mat1, V.mat0, matL, matT, List.length_map]; rfl)) rfl rfl rfl rfl ?_
            refine s_mv (.inl rfl) (by conv => lhs; whnf) rfl rfl rfl ?_
            refine bnd1_elim h fun x30 q31 h => ?_
            refine s_callZ (kb := []) (ns := []) (v := .agg [.sc (.int .i64 x30.cap), .ref (63, 1) 0 x30.l.length]) rfl rfl cl31 (ws_CacheNew x17 x30 q31) rfl (.cons (.free rfl) .nil) trivial memNil .nil memNil trivial rfl ⟨(allFree_map mEntryV_free), trivial⟩ memNil rfl (by first | (simp only [V.mat, V.mat1, V.mat0, matL, matT, List.length_map]; done) | (simp only [V.mat, V.mat1, V.mat0, matL, matT, List.length_map]; rfl)) rfl rfl rfl rfl ?_
            refine bnd1_elim h fun x32 q33 h => ?_
            refine s_callN (kb := [(61, 1), (63, 1)]) (ns := []) (v := .sc (.bool x32)) rfl rfl cl22 (ww_sameCache x28 x30 x32 q33) rfl (.cons (relAggL (.cons (.free rfl) (.cons (lendL rfl (.head _) rfl mEntryV_free mEntryV_len) .nil))) (.cons (relAggL (.cons (.free rfl) (.cons (lendL rfl (.tail _ (.head _)) rfl mEntryV_free mEntryV_len) .nil))) .nil)) trivial memNil .nil (fun _ _ => List.not_mem_nil) rfl trivial memNil rfl rfl rfl rfl rfl rfl ?_
            refine s_of (st_not rfl rfl) rfl rfl rfl rfl ?_
            refine s_pickF rfl rfl (by conv => lhs; whnf) rfl rfl rfl ?_
            refine s_mv (.inl rfl) (by conv => lhs; whnf) rfl rfl rfl ?_
            refine s_split (t := 67) rfl (fun b34 => ?_) (fun b34 => ?_)
            · replace h := cond_t h b34
              refine s_skip rfl rfl rfl ?_
              refine s_skip rfl rfl rfl ?_
              refine s_skip rfl rfl rfl ?_
              refine s_skip rfl rfl rfl ?_
              refine s_pickT rfl rfl (v := .sc (.bool true)) rfl rfl rfl rfl ?_
              refine rt_nil ⟨by kernel_rfl, ?_⟩
              refine Exists.intro ⟨true, h⟩ ?_
              refine entX [((5, 0), ⟨29, 2, [[.sc (.string x6.name), .sc (.int .i64 x6.ty)]], false, true⟩, some (5, 0)), ((7, 0), ⟨32, 6, [[.sc (.string x9.q.name), .sc (.int .i64 x9.q.ty), .sc (.int .i64 x9.kind), .ref (28, 103) 0 x9.l.length, .sc (.int .i64 x9.rank), .sc (.int .i64 x9.til)]], false, true⟩, some (7, 0)), ((28, 103), ⟨60, 6, List.map recV x9.l, false, true⟩, some (28, 103))] [] ⟨⟨rfl, _, rfl, rfl, rfl, rfl, id, rowsCv_one (.cons (.free rfl) (.cons (.free rfl) .nil)), rowsZ_one rfl⟩, ⟨rfl, _, rfl, rfl, rfl, rfl, id, rowsCv_one (.cons (.free rfl) (.cons (.free rfl) (.cons (.free rfl) (.cons (.ref rfl) (.cons (.free rfl) (.cons (.free rfl) .nil)))))), rowsZ_one rfl⟩, ⟨rfl, _, rfl, rfl, rfl, rfl, id, rowsCv_eq rfl (allFree_map recV_free), rowsZ_map recV_len⟩, trivial⟩ trivial rfl rfl ?_
              exact ⟨(.free rfl), (.ptr rfl), (.free rfl), (.ptr rfl), (.free rfl), (.free rfl), trivial⟩
            · replace h := cond_f h b34
              refine s_mv (.inl rfl) (by conv => lhs; whnf) rfl rfl rfl ?_
              refine bnd1_elim h fun x35 q36 h => ?_
              refine s_callZ (kb := []) (ns := []) (v := .agg [.sc (.int .i64 x35.cap), .ref (69, 1) 0 x35.l.length]) rfl rfl cl30 (wi_CacheNew x17 x35 q36) rfl (.cons (.free rfl) .nil) trivial memNil .nil memNil trivial rfl ⟨(allFree_map mEntryV_free), trivial⟩ memNil rfl (by first | (simp only [V.mat, V.mat1, V.mat0, matL, matT, List.length_map]; done) | (simp only [V.mat, V.mat1, V.mat0, matL, matT, List.length_map]; rfl)) rfl rfl rfl rfl ?_
              refine bnd1_elim h fun x37 q38 h => ?_
              refine s_callN (kb := [(69, 1)]) (ns := []) (v := .sc (.bool x37)) rfl rfl cl17 (wi_CacheOk x35 x37 q38) rfl (.cons (relAggL (.cons (.free rfl) (.cons (lendL rfl (.head _) rfl mEntryV_free mEntryV_len) .nil))) .nil) trivial memNil .nil (fun _ _ => List.not_mem_nil) rfl trivial memNil rfl rfl rfl rfl rfl rfl ?_
              refine s_of (st_not rfl rfl) rfl rfl rfl rfl ?_
              refine s_pickF rfl rfl (by conv => lhs; whnf) rfl rfl rfl ?_
              refine rt_nil ⟨by kernel_rfl, ?_⟩
              refine Exists.intro ⟨!x37, h⟩ ?_
              refine entX [((5, 0), ⟨29, 2, [[.sc (.string x6.name), .sc (.int .i64 x6.ty)]], false, true⟩, some (5, 0)), ((7, 0), ⟨32, 6, [[.sc (.string x9.q.name), .sc (.int .i64 x9.q.ty), .sc (.int .i64 x9.kind), .ref (28, 103) 0 x9.l.length, .sc (.int .i64 x9.rank), .sc (.int .i64 x9.til)]], false, true⟩, some (7, 0)), ((28, 103), ⟨60, 6, List.map recV x9.l, false, true⟩, some (28, 103))] [] ⟨⟨rfl, _, rfl, rfl, rfl, rfl, id, rowsCv_one (.cons (.free rfl) (.cons (.free rfl) .nil)), rowsZ_one rfl⟩, ⟨rfl, _, rfl, rfl, rfl, rfl, id, rowsCv_one (.cons (.free rfl) (.cons (.free rfl) (.cons (.free rfl) (.cons (.ref rfl) (.cons (.free rfl) (.cons (.free rfl) .nil)))))), rowsZ_one rfl⟩, ⟨rfl, _, rfl, rfl, rfl, rfl, id, rowsCv_eq rfl (allFree_map recV_free), rowsZ_map recV_len⟩, trivial⟩ trivial rfl rfl ?_
              exact ⟨(.free rfl), (.ptr rfl), (.free rfl), (.ptr rfl), (.free rfl), (.free rfl), trivial⟩
    · rintro ⟨j0_0, h⟩
      replace h : w_FnKeepsBent_j0 x5 x6 x7 x9 x10 j0_0 = some r0 := h
      unfold w_FnKeepsBent_j0 at h
      show Tri _ _ _ (inv_w_FnKeepsBent_0 x5 x6 x7 x9 x10 j0_0)
      refine tri_cond rfl (fun c19 => ?_) (fun c19 => ?_)
      · replace h := cond_t h c19
        refine tri_seq ?_
        refine tri_region ?_
        refine s_mv (.inr rfl) (v := .sc (.bool false)) rfl rfl rfl rfl ?_
        refine rt_nil ?_
        refine tri_ret ?_
        have e0 := (some1 h); subst e0
        exact endY [] [] (rvC (resTmp rfl) rvN) trivial trivial rfl rfl rfl rfl (.free rfl)
      · replace h := cond_f h c19
        refine tri_skip ?_
        refine tri_seq ?_
        refine tri_seq ?_
        refine tri_region ?_
        refine s_mv (.inl rfl) (by conv => lhs; whnf) rfl rfl rfl ?_
        refine s_of (st_not rfl rfl) rfl rfl rfl rfl ?_
        refine rt_nil ?_
        refine tri_cond rfl (fun c20 => ?_) (fun c20 => ?_)
        · replace h := cond_t h c20
          refine tri_seq ?_
          refine tri_region ?_
          refine s_fieldAddr rfl rfl fd32_2 rfl rfl rfl rfl ?_
          refine s_load rfl rfl rfl rfl ty30 rfl (.inr rfl) (by conv => lhs; whnf) rfl rfl rfl ?_
          refine s_len (m := x9.l.length) rfl sl30 rfl rfl rfl rfl ?_
          refine s_of (st_eqI rfl rfl rfl) rfl rfl rfl rfl ?_
          refine s_mv (.inr rfl) (by conv => lhs; whnf) rfl rfl rfl ?_
          refine rt_nil ?_
          refine tri_ret ?_
          have e0 := (some1 h); subst e0
          exact endY [] [] (rvC (resTmp rfl) rvN) trivial trivial rfl rfl rfl rfl (.free rfl)
        · replace h := cond_f h c20
          refine tri_skip ?_
          refine tri_cutI (ι := { p : Unit // w_FnKeepsBent_j1 x5 x6 x7 x9 = some r0 }) (fun p => inv_w_FnKeepsBent_1 x5 x6 x7 x9) ?_ ?_
          · skip
            refine tri_seq ?_
            refine tri_region ?_
            refine s_mv (.inr rfl) (v := .sc (.int .i64 0)) rfl rfl rfl rfl ?_
            refine rt_nil ?_
            refine tri_block ?_
            refine tri_ownM (28, 103) rfl (fun hl2 => ?_)
            refine tri_loop (ι := { p : (List Rec) × Nat // x9.l.drop p.2 = p.1 ∧ w_FnKeepsBent_l2 x5 x6 x7 x9 p.1 p.2 = some r0 }) (fun p => inv_w_FnKeepsBent_2 x5 x6 x7 x9 p.1.2) (fun p => p.1.1.length) ⟨(x9.l, 0), rfl, h⟩ ?_ ?_
            · skip
              refine entX [((5, 0), ⟨29, 2, [[.sc (.string x6.name), .sc (.int .i64 x6.ty)]], false, true⟩, some (5, 0)), ((7, 0), ⟨32, 6, [[.sc (.string x9.q.name), .sc (.int .i64 x9.q.ty), .sc (.int .i64 x9.kind), .ref (28, 103) 0 x9.l.length, .sc (.int .i64 x9.rank), .sc (.int .i64 x9.til)]], false, true⟩, some (7, 0)), ((28, 103), ⟨60, 6, List.map recV x9.l, false, true⟩, some (28, 103))] [] ⟨⟨rfl, _, rfl, rfl, rfl, rfl, id, rowsCv_one (.cons (.free rfl) (.cons (.free rfl) .nil)), rowsZ_one rfl⟩, ⟨rfl, _, rfl, rfl, rfl, rfl, id, rowsCv_one (.cons (.free rfl) (.cons (.free rfl) (.cons (.free rfl) (.cons (.ref rfl) (.cons (.free rfl) (.cons (.free rfl) .nil)))))), rowsZ_one rfl⟩, ⟨rfl, _, rfl, rfl, rfl, rfl, id, rowsCv_eq rfl (allFree_map recV_free), rowsZ_map recV_len⟩, trivial⟩ trivial rfl rfl ?_
              exact ⟨(.free rfl), (.ptr rfl), (.free rfl), (.ptr rfl), (.free rfl), trivial⟩
            · rintro ⟨⟨lrs2, v2_0⟩, hd2, h⟩
              replace hd2 : x9.l.drop v2_0 = lrs2 := hd2
              replace h : w_FnKeepsBent_l2 x5 x6 x7 x9 lrs2 v2_0 = some r0 := h
              show Tri _ _ _ (inv_w_FnKeepsBent_2 x5 x6 x7 x9 v2_0)
              refine tri_seq ?_
              refine tri_seq ?_
              refine tri_region ?_
              refine s_mv (.inl rfl) (by conv => lhs; whnf) rfl rfl rfl ?_
              refine s_fieldAddr rfl rfl fd32_2 rfl rfl rfl rfl ?_
              refine s_load rfl rfl rfl rfl ty30 rfl (.inr rfl) (by conv => lhs; whnf) rfl rfl rfl ?_
              refine s_len (m := x9.l.length) rfl sl30 rfl rfl rfl rfl ?_
              refine s_of (st_lss rfl rfl rfl) rfl rfl rfl rfl ?_
              refine rt_nil ?_
              refine tri_cond rfl (fun c21 => ?_) (fun c21 => ?_)
              · refine drop_elim hd2 c21 fun e2 rs2 he hx2 hn2 => ?_
                subst he
                rw [w_FnKeepsBent_l2] at h
                refine tri_skip ?_
                refine tri_seq ?_
                refine tri_block ?_
                refine tri_cutI (ι := { p : Bool // w_FnKeepsBent_j3 v2_0 (w_FnKeepsBent_l2 x5 x6 x7 x9 rs2) p = some r0 }) (fun p => inv_w_FnKeepsBent_3 x5 x6 x7 x9 v2_0 p.1) ?_ ?_
                · skip
                  refine tri_draw mixed ?_
                  refine s_fieldAddr rfl rfl fd32_2 rfl rfl rfl rfl ?_
                  refine s_load rfl rfl rfl rfl ty30 rfl (.inr rfl) (by conv => lhs; whnf) rfl rfl rfl ?_
                  refine s_mv (.inl rfl) (by conv => lhs; whnf) rfl rfl rfl ?_
                  refine s_index0 (i := v2_0) rfl rfl rfl rfl sl30 rfl (get_lt hx2) rfl rfl rfl ?_
                  refine s_fieldAddr rfl rfl fd60_2 rfl rfl rfl rfl ?_
                  refine s_load rfl rfl rfl (rowG hx2) ty3 rfl (.inr rfl) (by conv => lhs; whnf) rfl rfl rfl ?_
                  refine s_of (st_lss rfl rfl rfl) rfl rfl rfl rfl ?_
                  refine s_mv (.inl rfl) (by conv => lhs; whnf) rfl rfl rfl ?_
                  refine s_split (t := 93) rfl (fun b22 => ?_) (fun b22 => ?_)
                  · replace h := cond_t h b22
                    refine s_skip rfl rfl rfl ?_
                    refine s_skip rfl rfl rfl ?_
                    refine s_skip rfl rfl rfl ?_
                    refine s_skip rfl rfl rfl ?_
                    refine s_skip rfl rfl rfl ?_
                    refine s_skip rfl rfl rfl ?_
                    refine s_skip rfl rfl rfl ?_
                    refine s_skip rfl rfl rfl ?_
                    refine s_skip rfl rfl rfl ?_
                    refine s_skip rfl rfl rfl ?_
                    refine s_skip rfl rfl rfl ?_
                    refine s_pickT rfl rfl (v := .sc (.bool true)) rfl rfl rfl rfl ?_
                    refine s_mv (.inl rfl) (by conv => lhs; whnf) rfl rfl rfl ?_
                    refine s_skip rfl rfl rfl ?_
                    refine s_skip rfl rfl rfl ?_
                    refine s_skip rfl rfl rfl ?_
                    refine s_skip rfl rfl rfl ?_
                    refine s_skip rfl rfl rfl ?_
                    refine s_skip rfl rfl rfl ?_
                    refine s_skip rfl rfl rfl ?_
                    refine s_pickT rfl rfl (v := .sc (.bool true)) rfl rfl rfl rfl ?_
                    refine rt_nil ⟨by kernel_rfl, ?_⟩
                    refine Exists.intro ⟨true, h⟩ ?_
                    refine entX [((5, 0), ⟨29, 2, [[.sc (.string x6.name), .sc (.int .i64 x6.ty)]], false, true⟩, some (5, 0)), ((7, 0), ⟨32, 6, [[.sc (.string x9.q.name), .sc (.int .i64 x9.q.ty), .sc (.int .i64 x9.kind), .ref (28, 103) 0 x9.l.length, .sc (.int .i64 x9.rank), .sc (.int .i64 x9.til)]], false, true⟩, some (7, 0)), ((28, 103), ⟨60, 6, List.map recV x9.l, false, true⟩, some (28, 103))] [] ⟨⟨rfl, _, rfl, rfl, rfl, rfl, id, rowsCv_one (.cons (.free rfl) (.cons (.free rfl) .nil)), rowsZ_one rfl⟩, ⟨rfl, _, rfl, rfl, rfl, rfl, id, rowsCv_one (.cons (.free rfl) (.cons (.free rfl) (.cons (.free rfl) (.cons (.ref rfl) (.cons (.free rfl) (.cons (.free rfl) .nil)))))), rowsZ_one rfl⟩, ⟨rfl, _, rfl, rfl, rfl, rfl, id, rowsCv_eq rfl (allFree_map recV_free), rowsZ_map recV_len⟩, trivial⟩ trivial rfl rfl ?_
                    exact ⟨(.free rfl), (.ptr rfl), (.free rfl), (.ptr rfl), (.free rfl), (.free rfl), trivial⟩
                  · replace h := cond_f h b22
                    refine s_fieldAddr rfl rfl fd32_2 rfl rfl rfl rfl ?_
                    refine s_load rfl rfl rfl rfl ty30 rfl (.inr rfl) (by conv => lhs; whnf) rfl rfl rfl ?_
                    refine s_mv (.inl rfl) (by conv => lhs; whnf) rfl rfl rfl ?_
                    refine s_index0 (i := v2_0) rfl rfl rfl rfl sl30 rfl (get_lt hx2) rfl rfl rfl ?_
                    refine s_fieldAddr rfl rfl fd60_2 rfl rfl rfl rfl ?_
                    refine s_load rfl rfl rfl (rowG hx2) ty3 rfl (.inr rfl) (by conv => lhs; whnf) rfl rfl rfl ?_
                    refine s_fieldAddr rfl rfl fd32_4 rfl rfl rfl rfl ?_
                    refine s_load rfl rfl rfl rfl ty3 rfl (.inr rfl) (by conv => lhs; whnf) rfl rfl rfl ?_
                    refine s_mv (.inl rfl) (by conv => lhs; whnf) rfl rfl rfl ?_
                    refine grd_elim h fun g23 h => ?_
                    refine s_subI rfl rfl rfl rfl g23 rfl rfl rfl ?_
                    refine s_of (st_gtr rfl rfl rfl) rfl rfl rfl rfl ?_
                    refine s_pickF rfl rfl (by conv => lhs; whnf) rfl rfl rfl ?_
                    refine s_mv (.inl rfl) (by conv => lhs; whnf) rfl rfl rfl ?_
                    refine s_split (t := 106) rfl (fun b24 => ?_) (fun b24 => ?_)
                    · replace h := cond_t h b24
                      refine s_skip rfl rfl rfl ?_
                      refine s_skip rfl rfl rfl ?_
                      refine s_skip rfl rfl rfl ?_
                      refine s_skip rfl rfl rfl ?_
                      refine s_skip rfl rfl rfl ?_
                      refine s_skip rfl rfl rfl ?_
                      refine s_skip rfl rfl rfl ?_
                      refine s_pickT rfl rfl (v := .sc (.bool true)) rfl rfl rfl rfl ?_
                      refine rt_nil ⟨by kernel_rfl, ?_⟩
                      refine Exists.intro ⟨true, h⟩ ?_
                      refine entX [((5, 0), ⟨29, 2, [[.sc (.string x6.name), .sc (.int .i64 x6.ty)]], false, true⟩, some (5, 0)), ((7, 0), ⟨32, 6, [[.sc (.string x9.q.name), .sc (.int .i64 x9.q.ty), .sc (.int .i64 x9.kind), .ref (28, 103) 0 x9.l.length, .sc (.int .i64 x9.rank), .sc (.int .i64 x9.til)]], false, true⟩, some (7, 0)), ((28, 103), ⟨60, 6, List.map recV x9.l, false, true⟩, some (28, 103))] [] ⟨⟨rfl, _, rfl, rfl, rfl, rfl, id, rowsCv_one (.cons (.free rfl) (.cons (.free rfl) .nil)), rowsZ_one rfl⟩, ⟨rfl, _, rfl, rfl, rfl, rfl, id, rowsCv_one (.cons (.free rfl) (.cons (.free rfl) (.cons (.free rfl) (.cons (.ref rfl) (.cons (.free rfl) (.cons (.free rfl) .nil)))))), rowsZ_one rfl⟩, ⟨rfl, _, rfl, rfl, rfl, rfl, id, rowsCv_eq rfl (allFree_map recV_free), rowsZ_map recV_len⟩, trivial⟩ trivial rfl rfl ?_
                      exact ⟨(.free rfl), (.ptr rfl), (.free rfl), (.ptr rfl), (.free rfl), (.free rfl), trivial⟩
                    · replace h := cond_f h b24
                      refine s_fieldAddr rfl rfl fd32_2 rfl rfl rfl rfl ?_
                      refine s_load rfl rfl rfl rfl ty30 rfl (.inr rfl) (by conv => lhs; whnf) rfl rfl rfl ?_
                      refine s_mv (.inl rfl) (by conv => lhs; whnf) rfl rfl rfl ?_
                      refine s_index0 (i := v2_0) rfl rfl rfl rfl sl30 rfl (get_lt hx2) rfl rfl rfl ?_
                      refine s_fieldAddr rfl rfl fd60_2 rfl rfl rfl rfl ?_
                      refine s_load rfl rfl rfl (rowG hx2) ty3 rfl (.inr rfl) (by conv => lhs; whnf) rfl rfl rfl ?_
                      refine s_of (st_gtr rfl rfl rfl) rfl rfl rfl rfl ?_
                      refine s_pickF rfl rfl (by conv => lhs; whnf) rfl rfl rfl ?_
                      refine rt_nil ⟨by kernel_rfl, ?_⟩
                      refine Exists.intro ⟨decide (100000 < e2.ttl), h⟩ ?_
                      refine entX [((5, 0), ⟨29, 2, [[.sc (.string x6.name), .sc (.int .i64 x6.ty)]], false, true⟩, some (5, 0)), ((7, 0), ⟨32, 6, [[.sc (.string x9.q.name), .sc (.int .i64 x9.q.ty), .sc (.int .i64 x9.kind), .ref (28, 103) 0 x9.l.length, .sc (.int .i64 x9.rank), .sc (.int .i64 x9.til)]], false, true⟩, some (7, 0)), ((28, 103), ⟨60, 6, List.map recV x9.l, false, true⟩, some (28, 103))] [] ⟨⟨rfl, _, rfl, rfl, rfl, rfl, id, rowsCv_one (.cons (.free rfl) (.cons (.free rfl) .nil)), rowsZ_one rfl⟩, ⟨rfl, _, rfl, rfl, rfl, rfl, id, rowsCv_one (.cons (.free rfl) (.cons (.free rfl) (.cons (.free rfl) (.cons (.ref rfl) (.cons (.free rfl) (.cons (.free rfl) .nil)))))), rowsZ_one rfl⟩, ⟨rfl, _, rfl, rfl, rfl, rfl, id, rowsCv_eq rfl (allFree_map recV_free), rowsZ_map recV_len⟩, trivial⟩ trivial rfl rfl ?_
                      exact ⟨(.free rfl), (.ptr rfl), (.free rfl), (.ptr rfl), (.free rfl), (.free rfl), trivial⟩
                · rintro ⟨j3_0, h⟩
                  replace h : w_FnKeepsBent_j3 v2_0 (w_FnKeepsBent_l2 x5 x6 x7 x9 rs2) j3_0 = some r0 := h
                  unfold w_FnKeepsBent_j3 at h
                  show Tri _ _ _ (inv_w_FnKeepsBent_3 x5 x6 x7 x9 v2_0 j3_0)
                  refine tri_cond rfl (fun c22 => ?_) (fun c22 => ?_)
                  · replace h := cond_t h c22
                    refine tri_seq ?_
                    refine tri_region ?_
                    refine s_mv (.inr rfl) (v := .sc (.bool false)) rfl rfl rfl rfl ?_
                    refine rt_nil ?_
                    refine tri_ret ?_
                    have e0 := (some1 h); subst e0
                    exact endY [] [] (rvC (resTmp rfl) rvN) trivial trivial rfl rfl rfl rfl (.free rfl)
                  · replace h := cond_f h c22
                    refine tri_skip ?_
                    refine tri_region ?_
                    refine s_mv (.inl rfl) (by conv => lhs; whnf) rfl rfl rfl ?_
                    refine s_inc (a := v2_0) (b := 1) rfl rfl rfl rfl (by have := get_lt hx2; have := hl2; omega) rfl rfl rfl ?_
                    refine s_mv (.inr rfl) (by conv => lhs; whnf) rfl rfl rfl ?_
                    refine rt_nil ?_
                    refine Exists.intro ⟨(rs2, (v2_0 + 1)), hn2, h⟩ (And.intro (Nat.lt_succ_self _) ?_)
                    refine entX [((5, 0), ⟨29, 2, [[.sc (.string x6.name), .sc (.int .i64 x6.ty)]], false, true⟩, some (5, 0)), ((7, 0), ⟨32, 6, [[.sc (.string x9.q.name), .sc (.int .i64 x9.q.ty), .sc (.int .i64 x9.kind), .ref (28, 103) 0 x9.l.length, .sc (.int .i64 x9.rank), .sc (.int .i64 x9.til)]], false, true⟩, some (7, 0)), ((28, 103), ⟨60, 6, List.map recV x9.l, false, true⟩, some (28, 103))] [] ⟨⟨rfl, _, rfl, rfl, rfl, rfl, id, rowsCv_one (.cons (.free rfl) (.cons (.free rfl) .nil)), rowsZ_one rfl⟩, ⟨rfl, _, rfl, rfl, rfl, rfl, id, rowsCv_one (.cons (.free rfl) (.cons (.free rfl) (.cons (.free rfl) (.cons (.ref rfl) (.cons (.free rfl) (.cons (.free rfl) .nil)))))), rowsZ_one rfl⟩, ⟨rfl, _, rfl, rfl, rfl, rfl, id, rowsCv_eq rfl (allFree_map recV_free), rowsZ_map recV_len⟩, trivial⟩ trivial rfl rfl ?_
                    exact ⟨(.free rfl), (.ptr rfl), (.free rfl), (.ptr rfl), (.free rfl), trivial⟩
              · have he := drop_f hd2 c21; subst he
                rw [w_FnKeepsBent_l2] at h
                refine tri_exit ?_
                refine Exists.intro ⟨(), h⟩ ?_
                refine entX [((5, 0), ⟨29, 2, [[.sc (.string x6.name), .sc (.int .i64 x6.ty)]], false, true⟩, some (5, 0)), ((7, 0), ⟨32, 6, [[.sc (.string x9.q.name), .sc (.int .i64 x9.q.ty), .sc (.int .i64 x9.kind), .ref (28, 103) 0 x9.l.length, .sc (.int .i64 x9.rank), .sc (.int .i64 x9.til)]], false, true⟩, some (7, 0)), ((28, 103), ⟨60, 6, List.map recV x9.l, false, true⟩, some (28, 103))] [] ⟨⟨rfl, _, rfl, rfl, rfl, rfl, id, rowsCv_one (.cons (.free rfl) (.cons (.free rfl) .nil)), rowsZ_one rfl⟩, ⟨rfl, _, rfl, rfl, rfl, rfl, id, rowsCv_one (.cons (.free rfl) (.cons (.free rfl) (.cons (.free rfl) (.cons (.ref rfl) (.cons (.free rfl) (.cons (.free rfl) .nil)))))), rowsZ_one rfl⟩, ⟨rfl, _, rfl, rfl, rfl, rfl, id, rowsCv_eq rfl (allFree_map recV_free), rowsZ_map recV_len⟩, trivial⟩ trivial rfl rfl ?_
                exact ⟨(.free rfl), (.ptr rfl), (.free rfl), (.ptr rfl), trivial⟩
          · rintro ⟨u, h⟩
            replace h : w_FnKeepsBent_j1 x5 x6 x7 x9 = some r0 := h
            unfold w_FnKeepsBent_j1 at h
            show Tri _ _ _ (inv_w_FnKeepsBent_1 x5 x6 x7 x9)
            refine tri_seq ?_
            refine tri_region ?_
            refine s_fieldAddr rfl rfl fd32_0 rfl rfl rfl rfl ?_
            refine s_load (v := .agg (questV x9.q)) rfl rfl rfl rfl ty29 rfl (.inl rfl) rfl rfl rfl rfl ?_
            refine s_loadR rfl rfl rfl rfl ty29 rfl rfl rfl ?_
            refine s_eqStruct (r' := (decide (x9.q.name = x6.name) && (decide (x9.q.ty = x6.ty) && true))) rfl rfl rfl fk29 rfl rfl rfl rfl rfl ?_
            refine s_mv (.inl rfl) (by conv => lhs; whnf) rfl rfl rfl ?_
            refine s_split (t := 119) rfl (fun b21 => ?_) (fun b21 => ?_)
            · replace h := cond_t h b21
              refine s_fieldAddr rfl rfl fd32_3 rfl rfl rfl rfl ?_
              refine s_load rfl rfl rfl rfl ty3 rfl (.inr rfl) (by conv => lhs; whnf) rfl rfl rfl ?_
              refine s_mv (.inl rfl) (by conv => lhs; whnf) rfl rfl rfl ?_
              refine s_of (st_geq rfl rfl rfl) rfl rfl rfl rfl ?_
              refine s_pickT rfl rfl (by conv => lhs; whnf) rfl rfl rfl ?_
              refine s_mv (.inl rfl) (by conv => lhs; whnf) rfl rfl rfl ?_
              refine s_split (t := 125) rfl (fun b22 => ?_) (fun b22 => ?_)
              · replace h := cond_t h b22
                refine s_fieldAddr rfl rfl fd32_4 rfl rfl rfl rfl ?_
                refine s_load rfl rfl rfl rfl ty3 rfl (.inr rfl) (by conv => lhs; whnf) rfl rfl rfl ?_
                refine s_mv (.inl rfl) (by conv => lhs; whnf) rfl rfl rfl ?_
                refine s_of (st_gtr rfl rfl rfl) rfl rfl rfl rfl ?_
                refine s_pickT rfl rfl (by conv => lhs; whnf) rfl rfl rfl ?_
                refine s_mv (.inr rfl) (by conv => lhs; whnf) rfl rfl rfl ?_
                refine rt_nil ?_
                refine tri_ret ?_
                have e0 := (some1 h); subst e0
                exact endY [] [] (rvC (resTmp rfl) rvN) trivial trivial rfl rfl rfl rfl (.free rfl)
              · replace h := cond_f h b22
                refine s_skip rfl rfl rfl ?_
                refine s_skip rfl rfl rfl ?_
                refine s_skip rfl rfl rfl ?_
                refine s_skip rfl rfl rfl ?_
                refine s_pickF rfl rfl (v := .sc (.bool false)) rfl rfl rfl rfl ?_
                refine s_mv (.inr rfl) (by conv => lhs; whnf) rfl rfl rfl ?_
                refine rt_nil ?_
                refine tri_ret ?_
                have e0 := (some1 h); subst e0
                exact endY [] [] (rvC (resTmp rfl) rvN) trivial trivial rfl rfl rfl rfl (.free rfl)
            · replace h := cond_f h b21
              refine s_skip rfl rfl rfl ?_
              refine s_skip rfl rfl rfl ?_
              refine s_skip rfl rfl rfl ?_
              refine s_skip rfl rfl rfl ?_
              refine s_pickF rfl rfl (v := .sc (.bool false)) rfl rfl rfl rfl ?_
              refine s_mv (.inl rfl) (by conv => lhs; whnf) rfl rfl rfl ?_
              refine s_skip rfl rfl rfl ?_
              refine s_skip rfl rfl rfl ?_
              refine s_skip rfl rfl rfl ?_
              refine s_skip rfl rfl rfl ?_
              refine s_pickF rfl rfl (v := .sc (.bool false)) rfl rfl rfl rfl ?_
              refine s_mv (.inr rfl) (by conv => lhs; whnf) rfl rfl rfl ?_
              refine rt_nil ?_
              refine tri_ret ?_
              have e0 := (some1 h); subst e0
              exact endY [] [] (rvC (resTmp rfl) rvN) trivial trivial rfl rfl rfl rfl (.free rfl)

end Go.Abs.M
