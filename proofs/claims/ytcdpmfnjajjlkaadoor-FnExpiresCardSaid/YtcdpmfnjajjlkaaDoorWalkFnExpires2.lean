/- Walks of the functions that the law of FnExpires reaches: what each of them computes, where its pure function does not fail. -/
import Derived.Test.YtcdpmfnjajjlkaaDoorWalkFnExpires1
namespace Go.Abs.M
open Go Go.Abs Go.Proofs
theorem cl12 : callable Tryd.prog 12 = true := by kernel_rfl
theorem cl17 : callable Tryd.prog 17 = true := by kernel_rfl
theorem cl19 : callable Tryd.prog 19 = true := by kernel_rfl
theorem cl20 : callable Tryd.prog 20 = true := by kernel_rfl
theorem cl21 : callable Tryd.prog 21 = true := by kernel_rfl
theorem cl22 : callable Tryd.prog 22 = true := by kernel_rfl
theorem cl23 : callable Tryd.prog 23 = true := by kernel_rfl
theorem cl47 : callable Tryd.prog 47 = true := by kernel_rfl
theorem cl48 : callable Tryd.prog 48 = true := by kernel_rfl
theorem cl49 : callable Tryd.prog 49 = true := by kernel_rfl
theorem cl56 : callable Tryd.prog 56 = true := by kernel_rfl
theorem cl57 : callable Tryd.prog 57 = true := by kernel_rfl
/- impl.EntryOk -/
def inv_i_EntryOk_0 (p0 : MEntry) (j0_0 : Bool) : St := mkT 79 [(1, .ptr (1, 0) 0 0), (15, .sc (.bool j0_0))] [((1, 0), some ⟨32, 6, [[.sc (.string p0.q.name), .sc (.int .i64 p0.q.ty), .sc (.int .i64 p0.kind), .lst 6 (List.map recV p0.l), .sc (.int .i64 p0.rank), .sc (.int .i64 p0.til)]], false, true⟩)]
set_option maxRecDepth 4000 in
set_option maxHeartbeats 800000 in
theorem wi_EntryOk (p0 : MEntry) (r0 : Bool) (h : i_EntryOk p0 = some r0) : Runs Tryd.prog 12 [.agg (mEntryV p0)] [] (.sc (.bool r0)) [] := by
  unfold i_EntryOk at h
  refine runsR [.tmp 2] Tryd.func12 rfl rfl rfl rfl ?_
  rw [Tryd.ntmps12]
  refine tri_seq ?_
  refine tri_region ?_
  refine s_box rfl rfl rfl rfl rfl rfl rfl ?_
  refine s_mv (.inr rfl) (v := .sc (.bool false)) rfl rfl rfl rfl ?_
  refine rt_nil ?_
  refine tri_seq ?_
  refine tri_cutI (ι := { p : Bool // i_EntryOk_j0 p0 p = some r0 }) (fun p => inv_i_EntryOk_0 p0 p.1) ?_ ?_
  · skip
    refine tri_region ?_
    refine s_fieldAddr rfl rfl fd32_3 rfl rfl rfl rfl ?_
    refine s_load rfl rfl rfl rfl ty3 rfl (.inr rfl) (by conv => lhs; whnf) rfl rfl rfl ?_
    refine s_of (st_lss rfl rfl rfl) rfl rfl rfl rfl ?_
    refine s_mv (.inl rfl) (by conv => lhs; whnf) rfl rfl rfl ?_
    refine s_split (t := 6) rfl (fun b1 => ?_) (fun b1 => ?_)
    · replace h := cond_t h b1
      refine s_skip rfl rfl rfl ?_
      refine s_skip rfl rfl rfl ?_
      refine s_skip rfl rfl rfl ?_
      refine s_pickT rfl rfl (v := .sc (.bool true)) rfl rfl rfl rfl ?_
      refine s_mv (.inl rfl) (by conv => lhs; whnf) rfl rfl rfl ?_
      refine s_skip rfl rfl rfl ?_
      refine s_skip rfl rfl rfl ?_
      refine s_skip rfl rfl rfl ?_
      refine s_pickT rfl rfl (v := .sc (.bool true)) rfl rfl rfl rfl ?_
      refine rt_nil ?_
      refine Exists.intro ⟨true, h⟩ ?_
      refine entX [((1, 0), ⟨32, 6, [[.sc (.string p0.q.name), .sc (.int .i64 p0.q.ty), .sc (.int .i64 p0.kind), .lst 6 (List.map recV p0.l), .sc (.int .i64 p0.rank), .sc (.int .i64 p0.til)]], false, true⟩, some (1, 0))] [] ⟨⟨rfl, _, rfl, rfl, rfl, rfl, id, rowsCv_one (.cons (.free rfl) (.cons (.free rfl) (.cons (.free rfl) (.cons (.free rfl) (.cons (.free rfl) (.cons (.free rfl) .nil)))))), rowsZ_one rfl⟩, trivial⟩ trivial rfl rfl ?_
      exact ⟨(.ptr rfl), (.free rfl), trivial⟩
    · replace h := cond_f h b1
      refine s_fieldAddr rfl rfl fd32_3 rfl rfl rfl rfl ?_
      refine s_load rfl rfl rfl rfl ty3 rfl (.inr rfl) (by conv => lhs; whnf) rfl rfl rfl ?_
      refine s_of (st_gtr rfl rfl rfl) rfl rfl rfl rfl ?_
      refine s_pickF rfl rfl (by conv => lhs; whnf) rfl rfl rfl ?_
      refine s_mv (.inl rfl) (by conv => lhs; whnf) rfl rfl rfl ?_
      refine s_split (t := 11) rfl (fun b2 => ?_) (fun b2 => ?_)
      · replace h := cond_t h b2
        refine s_skip rfl rfl rfl ?_
        refine s_skip rfl rfl rfl ?_
        refine s_skip rfl rfl rfl ?_
        refine s_pickT rfl rfl (v := .sc (.bool true)) rfl rfl rfl rfl ?_
        refine rt_nil ?_
        refine Exists.intro ⟨true, h⟩ ?_
        refine entX [((1, 0), ⟨32, 6, [[.sc (.string p0.q.name), .sc (.int .i64 p0.q.ty), .sc (.int .i64 p0.kind), .lst 6 (List.map recV p0.l), .sc (.int .i64 p0.rank), .sc (.int .i64 p0.til)]], false, true⟩, some (1, 0))] [] ⟨⟨rfl, _, rfl, rfl, rfl, rfl, id, rowsCv_one (.cons (.free rfl) (.cons (.free rfl) (.cons (.free rfl) (.cons (.free rfl) (.cons (.free rfl) (.cons (.free rfl) .nil)))))), rowsZ_one rfl⟩, trivial⟩ trivial rfl rfl ?_
        exact ⟨(.ptr rfl), (.free rfl), trivial⟩
      · replace h := cond_f h b2
        refine s_fieldAddr rfl rfl fd32_4 rfl rfl rfl rfl ?_
        refine s_load rfl rfl rfl rfl ty3 rfl (.inr rfl) (by conv => lhs; whnf) rfl rfl rfl ?_
        refine s_of (st_lss rfl rfl rfl) rfl rfl rfl rfl ?_
        refine s_pickF rfl rfl (by conv => lhs; whnf) rfl rfl rfl ?_
        refine rt_nil ?_
        refine Exists.intro ⟨decide (p0.til < 0), h⟩ ?_
        refine entX [((1, 0), ⟨32, 6, [[.sc (.string p0.q.name), .sc (.int .i64 p0.q.ty), .sc (.int .i64 p0.kind), .lst 6 (List.map recV p0.l), .sc (.int .i64 p0.rank), .sc (.int .i64 p0.til)]], false, true⟩, some (1, 0))] [] ⟨⟨rfl, _, rfl, rfl, rfl, rfl, id, rowsCv_one (.cons (.free rfl) (.cons (.free rfl) (.cons (.free rfl) (.cons (.free rfl) (.cons (.free rfl) (.cons (.free rfl) .nil)))))), rowsZ_one rfl⟩, trivial⟩ trivial rfl rfl ?_
        exact ⟨(.ptr rfl), (.free rfl), trivial⟩
  · rintro ⟨j0_0, h⟩
    replace h : i_EntryOk_j0 p0 j0_0 = some r0 := h
    unfold i_EntryOk_j0 at h
    show Tri _ _ _ (inv_i_EntryOk_0 p0 j0_0)
    refine tri_cond rfl (fun c1 => ?_) (fun c1 => ?_)
    · replace h := cond_t h c1
      refine tri_seq ?_
      refine tri_region ?_
      refine s_mv (.inr rfl) (v := .sc (.bool false)) rfl rfl rfl rfl ?_
      refine rt_nil ?_
      refine tri_ret ?_
      have e0 := (some1 h); subst e0
      exact endY [] [] (rvC (resTmp rfl) rvN) trivial trivial rfl rfl rfl rfl (.free rfl)
    · replace h := cond_f h c1
      refine tri_skip ?_
      refine tri_seq ?_
      refine tri_seq ?_
      refine tri_region ?_
      refine s_fieldAddr rfl rfl fd32_1 rfl rfl rfl rfl ?_
      refine s_load rfl rfl rfl rfl ty3 rfl (.inr rfl) (by conv => lhs; whnf) rfl rfl rfl ?_
      refine rt_nil ?_
      refine tri_block ?_
      refine tri_seq ?_
      refine tri_region ?_
      refine s_of (st_eqI rfl rfl rfl) rfl rfl rfl rfl ?_
      refine s_mv (.inr rfl) (by conv => lhs; whnf) rfl rfl rfl ?_
      refine rt_nil ?_
      refine tri_cond rfl (fun c2 => ?_) (fun c2 => ?_)
      · replace h := cond_t h c2
        refine tri_seq ?_
        refine tri_draw mixed ?_
        refine s_fieldAddr rfl rfl fd32_0 rfl rfl rfl rfl ?_
        refine s_load (v := .agg (questV p0.q)) rfl rfl rfl rfl ty29 rfl (.inl rfl) rfl rfl rfl rfl ?_
        refine bnd1_elim h fun x3 q4 h => ?_
        refine s_callN (kb := []) (ns := []) (v := .sc (.bool x3)) rfl rfl cl47 (wi_QuestOk p0.q x3 q4) rfl (.cons (relAgg rfl) .nil) trivial memNil .nil memNil rfl trivial memNil rfl rfl rfl rfl rfl rfl ?_
        refine s_mv (.inl rfl) (by conv => lhs; whnf) rfl rfl rfl ?_
        refine s_split (t := 23) rfl (fun b5 => ?_) (fun b5 => ?_)
        · replace h := cond_t h b5
          refine s_fieldAddr rfl rfl fd32_2 rfl rfl rfl rfl ?_
          refine s_load rfl rfl rfl rfl ty30 rfl (.inr rfl) (by conv => lhs; whnf) rfl rfl rfl ?_
          refine s_lenL rfl sl30 rfl rfl rfl rfl ?_
          refine s_of (st_gtr rfl rfl rfl) rfl rfl rfl rfl ?_
          refine s_pickT rfl rfl (by conv => lhs; whnf) rfl rfl rfl ?_
          refine s_mv (.inl rfl) (by conv => lhs; whnf) rfl rfl rfl ?_
          refine s_split (t := 29) rfl (fun b6 => ?_) (fun b6 => ?_)
          · replace h := cond_t h b6
            refine s_fieldAddr rfl rfl fd32_2 rfl rfl rfl rfl ?_
            refine s_load rfl rfl rfl rfl ty30 rfl (.inr rfl) (by conv => lhs; whnf) rfl rfl rfl ?_
            refine bnd1_elim h fun x7 q8 h => ?_
            refine s_callN (kb := []) (ns := []) (v := .sc (.bool x7)) rfl rfl cl48 (wi_allOk p0.l 8 x7 q8) rfl (.cons (.free rfl) (.cons (.free rfl) .nil)) trivial memNil .nil memNil rfl trivial memNil rfl rfl rfl rfl rfl rfl ?_
            refine s_pickT rfl rfl (by conv => lhs; whnf) rfl rfl rfl ?_
            refine s_mv (.inl rfl) (by conv => lhs; whnf) rfl rfl rfl ?_
            refine s_split (t := 34) rfl (fun b9 => ?_) (fun b9 => ?_)
            · replace h := cond_t h b9
              refine s_fieldAddr rfl rfl fd32_2 rfl rfl rfl rfl ?_
              refine s_load rfl rfl rfl rfl ty30 rfl (.inr rfl) (by conv => lhs; whnf) rfl rfl rfl ?_
              refine s_fieldAddr rfl rfl fd32_0 rfl rfl rfl rfl ?_
              refine s_fieldAddr rfl rfl fd29_0 rfl rfl rfl rfl ?_
              refine s_load rfl rfl rfl rfl ty9 rfl (.inr rfl) (by conv => lhs; whnf) rfl rfl rfl ?_
              refine s_fieldAddr rfl rfl fd32_0 rfl rfl rfl rfl ?_
              refine s_fieldAddr rfl rfl fd29_1 rfl rfl rfl rfl ?_
              refine s_load rfl rfl rfl rfl ty3 rfl (.inr rfl) (by conv => lhs; whnf) rfl rfl rfl ?_
              refine bnd1_elim h fun x10 q11 h => ?_
              refine s_callN (kb := []) (ns := []) (v := .ref (43, 0) 0 x10.length) rfl rfl cl49 (wi_SetOf p0.l p0.q.name p0.q.ty x10 q11) rfl (.cons (.free rfl) (.cons (.free rfl) (.cons (.free rfl) .nil))) trivial memNil .nil memNil rfl ⟨(allSc_map recV_sc), trivial⟩ memNil rfl (by first | (simp only [V.mat, V.mat1, V.mat0, matL, matT, List.length_map]; done) | (simp only [V.mat, V.mat1, V.mat0, matL, matT, List.length_map]; rfl)) rfl rfl rfl rfl ?_
              refine s_len (m := x10.length) rfl sl30 rfl rfl rfl rfl ?_
              refine s_fieldAddr rfl rfl fd32_2 rfl rfl rfl rfl ?_
              refine s_load rfl rfl rfl rfl ty30 rfl (.inr rfl) (by conv => lhs; whnf) rfl rfl rfl ?_
              refine s_lenL rfl sl30 rfl rfl rfl rfl ?_
              refine s_of (st_eqI rfl rfl rfl) rfl rfl rfl rfl ?_
              refine s_pickT rfl rfl (by conv => lhs; whnf) rfl rfl rfl ?_
              refine s_mv (.inr rfl) (by conv => lhs; whnf) rfl rfl rfl ?_
              refine rt_nil ⟨by kernel_rfl, ?_⟩
              refine tri_ret ?_
              have e0 := (some1 h); subst e0
              exact endY [] [] (rvC (resTmp rfl) rvN) trivial trivial rfl rfl rfl rfl (.free rfl)
            · replace h := cond_f h b9
              refine s_skip rfl rfl rfl ?_
              refine s_skip rfl rfl rfl ?_
              refine s_skip rfl rfl rfl ?_
              refine s_skip rfl rfl rfl ?_
              refine s_skip rfl rfl rfl ?_
              refine s_skip rfl rfl rfl ?_
              refine s_skip rfl rfl rfl ?_
              refine s_skip rfl rfl rfl ?_
              refine s_skip rfl rfl rfl ?_
              refine s_skip rfl rfl rfl ?_
              refine s_skip rfl rfl rfl ?_
              refine s_skip rfl rfl rfl ?_
              refine s_skip rfl rfl rfl ?_
              refine s_skip rfl rfl rfl ?_
              refine s_pickF rfl rfl (v := .sc (.bool false)) rfl rfl rfl rfl ?_
              refine s_mv (.inr rfl) (by conv => lhs; whnf) rfl rfl rfl ?_
              refine rt_nil ⟨by kernel_rfl, ?_⟩
              refine tri_ret ?_
              have e0 := (some1 h); subst e0
              exact endY [] [] (rvC (resTmp rfl) rvN) trivial trivial rfl rfl rfl rfl (.free rfl)
          · replace h := cond_f h b6
            refine s_skip rfl rfl rfl ?_
            refine s_skip rfl rfl rfl ?_
            refine s_skip rfl rfl rfl ?_
            refine s_pickF rfl rfl (v := .sc (.bool false)) rfl rfl rfl rfl ?_
            refine s_mv (.inl rfl) (by conv => lhs; whnf) rfl rfl rfl ?_
            refine s_skip rfl rfl rfl ?_
            refine s_skip rfl rfl rfl ?_
            refine s_skip rfl rfl rfl ?_
            refine s_skip rfl rfl rfl ?_
            refine s_skip rfl rfl rfl ?_
            refine s_skip rfl rfl rfl ?_
            refine s_skip rfl rfl rfl ?_
            refine s_skip rfl rfl rfl ?_
            refine s_skip rfl rfl rfl ?_
            refine s_skip rfl rfl rfl ?_
            refine s_skip rfl rfl rfl ?_
            refine s_skip rfl rfl rfl ?_
            refine s_skip rfl rfl rfl ?_
            refine s_skip rfl rfl rfl ?_
            refine s_pickF rfl rfl (v := .sc (.bool false)) rfl rfl rfl rfl ?_
            refine s_mv (.inr rfl) (by conv => lhs; whnf) rfl rfl rfl ?_
            refine rt_nil ⟨by kernel_rfl, ?_⟩
            refine tri_ret ?_
            have e0 := (some1 h); subst e0
            exact endY [] [] (rvC (resTmp rfl) rvN) trivial trivial rfl rfl rfl rfl (.free rfl)
        · replace h := cond_f h b5
          refine s_skip rfl rfl rfl ?_
          refine s_skip rfl rfl rfl ?_
          refine s_skip rfl rfl rfl ?_
          refine s_skip rfl rfl rfl ?_
          refine s_pickF rfl rfl (v := .sc (.bool false)) rfl rfl rfl rfl ?_
          refine s_mv (.inl rfl) (by conv => lhs; whnf) rfl rfl rfl ?_
          refine s_skip rfl rfl rfl ?_
          refine s_skip rfl rfl rfl ?_
          refine s_skip rfl rfl rfl ?_
          refine s_pickF rfl rfl (v := .sc (.bool false)) rfl rfl rfl rfl ?_
          refine s_mv (.inl rfl) (by conv => lhs; whnf) rfl rfl rfl ?_
          refine s_skip rfl rfl rfl ?_
          refine s_skip rfl rfl rfl ?_
          refine s_skip rfl rfl rfl ?_
          refine s_skip rfl rfl rfl ?_
          refine s_skip rfl rfl rfl ?_
          refine s_skip rfl rfl rfl ?_
          refine s_skip rfl rfl rfl ?_
          refine s_skip rfl rfl rfl ?_
          refine s_skip rfl rfl rfl ?_
          refine s_skip rfl rfl rfl ?_
          refine s_skip rfl rfl rfl ?_
          refine s_skip rfl rfl rfl ?_
          refine s_skip rfl rfl rfl ?_
          refine s_skip rfl rfl rfl ?_
          refine s_pickF rfl rfl (v := .sc (.bool false)) rfl rfl rfl rfl ?_
          refine s_mv (.inr rfl) (by conv => lhs; whnf) rfl rfl rfl ?_
          refine rt_nil ⟨by kernel_rfl, ?_⟩
          refine tri_ret ?_
          have e0 := (some1 h); subst e0
          exact endY [] [] (rvC (resTmp rfl) rvN) trivial trivial rfl rfl rfl rfl (.free rfl)
      · replace h := cond_f h c2
        refine tri_seq ?_
        refine tri_region ?_
        refine s_of (st_eqI rfl rfl rfl) rfl rfl rfl rfl ?_
        refine s_mv (.inr rfl) (by conv => lhs; whnf) rfl rfl rfl ?_
        refine rt_nil ?_
        refine tri_cond rfl (fun c12 => ?_) (fun c12 => ?_)
        · replace h := cond_t h c12
          refine tri_seq ?_
          refine tri_region ?_
          refine s_fieldAddr rfl rfl fd32_0 rfl rfl rfl rfl ?_
          refine s_load (v := .agg (questV p0.q)) rfl rfl rfl rfl ty29 rfl (.inl rfl) rfl rfl rfl rfl ?_
          refine bnd1_elim h fun x13 q14 h => ?_
          refine s_callN (kb := []) (ns := []) (v := .sc (.bool x13)) rfl rfl cl47 (wi_QuestOk p0.q x13 q14) rfl (.cons (relAgg rfl) .nil) trivial memNil .nil memNil rfl trivial memNil rfl rfl rfl rfl rfl rfl ?_
          refine s_mv (.inl rfl) (by conv => lhs; whnf) rfl rfl rfl ?_
          refine s_split (t := 55) rfl (fun b15 => ?_) (fun b15 => ?_)
          · replace h := cond_t h b15
            refine s_fieldAddr rfl rfl fd32_2 rfl rfl rfl rfl ?_
            refine s_load rfl rfl rfl rfl ty30 rfl (.inr rfl) (by conv => lhs; whnf) rfl rfl rfl ?_
            refine s_lenL rfl sl30 rfl rfl rfl rfl ?_
            refine s_of (st_eqI rfl rfl rfl) rfl rfl rfl rfl ?_
            refine s_pickT rfl rfl (by conv => lhs; whnf) rfl rfl rfl ?_
            refine s_mv (.inr rfl) (by conv => lhs; whnf) rfl rfl rfl ?_
            refine rt_nil ?_
            refine tri_ret ?_
            have e0 := (some1 h); subst e0
            exact endY [] [] (rvC (resTmp rfl) rvN) trivial trivial rfl rfl rfl rfl (.free rfl)
          · replace h := cond_f h b15
            refine s_skip rfl rfl rfl ?_
            refine s_skip rfl rfl rfl ?_
            refine s_skip rfl rfl rfl ?_
            refine s_skip rfl rfl rfl ?_
            refine s_pickF rfl rfl (v := .sc (.bool false)) rfl rfl rfl rfl ?_
            refine s_mv (.inr rfl) (by conv => lhs; whnf) rfl rfl rfl ?_
            refine rt_nil ?_
            refine tri_ret ?_
            have e0 := (some1 h); subst e0
            exact endY [] [] (rvC (resTmp rfl) rvN) trivial trivial rfl rfl rfl rfl (.free rfl)
        · replace h := cond_f h c12
          refine tri_seq ?_
          refine tri_region ?_
          refine s_of (st_eqI rfl rfl rfl) rfl rfl rfl rfl ?_
          refine s_mv (.inr rfl) (by conv => lhs; whnf) rfl rfl rfl ?_
          refine rt_nil ?_
          refine tri_cond rfl (fun c16 => ?_) (fun c16 => ?_)
          · replace h := cond_t h c16
            refine tri_seq ?_
            refine tri_region ?_
            refine s_fieldAddr rfl rfl fd32_0 rfl rfl rfl rfl ?_
            refine s_fieldAddr rfl rfl fd29_0 rfl rfl rfl rfl ?_
            refine s_load rfl rfl rfl rfl ty9 rfl (.inr rfl) (by conv => lhs; whnf) rfl rfl rfl ?_
            refine bnd1_elim h fun x17 q18 h => ?_
            refine s_callN (kb := []) (ns := []) (v := .sc (.bool x17)) rfl rfl cl50 (wi_NameOk p0.q.name x17 q18) rfl (.cons (.free rfl) .nil) trivial memNil .nil memNil rfl trivial memNil rfl rfl rfl rfl rfl rfl ?_
            refine s_mv (.inl rfl) (by conv => lhs; whnf) rfl rfl rfl ?_
            refine s_split (t := 67) rfl (fun b19 => ?_) (fun b19 => ?_)
            · replace h := cond_t h b19
              refine s_fieldAddr rfl rfl fd32_0 rfl rfl rfl rfl ?_
              refine s_fieldAddr rfl rfl fd29_1 rfl rfl rfl rfl ?_
              refine s_load rfl rfl rfl rfl ty3 rfl (.inr rfl) (by conv => lhs; whnf) rfl rfl rfl ?_
              refine s_of (st_eqI rfl rfl rfl) rfl rfl rfl rfl ?_
              refine s_pickT rfl rfl (by conv => lhs; whnf) rfl rfl rfl ?_
              refine s_mv (.inl rfl) (by conv => lhs; whnf) rfl rfl rfl ?_
              refine s_split (t := 73) rfl (fun b20 => ?_) (fun b20 => ?_)
              · replace h := cond_t h b20
                refine s_fieldAddr rfl rfl fd32_2 rfl rfl rfl rfl ?_
                refine s_load rfl rfl rfl rfl ty30 rfl (.inr rfl) (by conv => lhs; whnf) rfl rfl rfl ?_
                refine s_lenL rfl sl30 rfl rfl rfl rfl ?_
                refine s_of (st_eqI rfl rfl rfl) rfl rfl rfl rfl ?_
                refine s_pickT rfl rfl (by conv => lhs; whnf) rfl rfl rfl ?_
                refine s_mv (.inr rfl) (by conv => lhs; whnf) rfl rfl rfl ?_
                refine rt_nil ?_
                refine tri_ret ?_
                have e0 := (some1 h); subst e0
                exact endY [] [] (rvC (resTmp rfl) rvN) trivial trivial rfl rfl rfl rfl (.free rfl)
              · replace h := cond_f h b20
                refine s_skip rfl rfl rfl ?_
                refine s_skip rfl rfl rfl ?_
                refine s_skip rfl rfl rfl ?_
                refine s_skip rfl rfl rfl ?_
                refine s_pickF rfl rfl (v := .sc (.bool false)) rfl rfl rfl rfl ?_
                refine s_mv (.inr rfl) (by conv => lhs; whnf) rfl rfl rfl ?_
                refine rt_nil ?_
                refine tri_ret ?_
                have e0 := (some1 h); subst e0
                exact endY [] [] (rvC (resTmp rfl) rvN) trivial trivial rfl rfl rfl rfl (.free rfl)
            · replace h := cond_f h b19
              refine s_skip rfl rfl rfl ?_
              refine s_skip rfl rfl rfl ?_
              refine s_skip rfl rfl rfl ?_
              refine s_skip rfl rfl rfl ?_
              refine s_pickF rfl rfl (v := .sc (.bool false)) rfl rfl rfl rfl ?_
              refine s_mv (.inl rfl) (by conv => lhs; whnf) rfl rfl rfl ?_
              refine s_skip rfl rfl rfl ?_
              refine s_skip rfl rfl rfl ?_
              refine s_skip rfl rfl rfl ?_
              refine s_skip rfl rfl rfl ?_
              refine s_pickF rfl rfl (v := .sc (.bool false)) rfl rfl rfl rfl ?_
              refine s_mv (.inr rfl) (by conv => lhs; whnf) rfl rfl rfl ?_
              refine rt_nil ?_
              refine tri_ret ?_
              have e0 := (some1 h); subst e0
              exact endY [] [] (rvC (resTmp rfl) rvN) trivial trivial rfl rfl rfl rfl (.free rfl)
          · replace h := cond_f h c16
            refine tri_skip ?_
            refine tri_seq ?_
            refine tri_region ?_
            refine s_mv (.inr rfl) (v := .sc (.bool false)) rfl rfl rfl rfl ?_
            refine rt_nil ?_
            refine tri_ret ?_
            have e0 := (some1 h); subst e0
            exact endY [] [] (rvC (resTmp rfl) rvN) trivial trivial rfl rfl rfl rfl (.free rfl)

/- impl.Entry] -/

set_option maxRecDepth 4000 in
set_option maxHeartbeats 800000 in
theorem wslices_ContainsFunc_Entry (p0 : List MEntry) (fi1 : FuncId) (cp1 : List V) (hf1 : cp1.all (·.free) = true) (hb1 : callable Tryd.prog fi1 = true) (p1 : MEntry → Option Bool) (hg1 : ∀ (z0 : MEntry) v, p1 z0 = some v → Runs Tryd.prog fi1 ([.agg (mEntryV z0)] ++ cp1) [] (.sc (.bool v)) []) (r0 : Bool) (h : slices_ContainsFunc_Entry p0 p1 = some r0) : Runs Tryd.prog 56 [.lst 6 (List.map mEntryV p0), .fn fi1 cp1] [] (.sc (.bool r0)) [] := by
  unfold slices_ContainsFunc_Entry at h
  refine runsR [.tmp 4] Tryd.func56 rfl rfl rfl rfl ?_
  rw [Tryd.ntmps56]
  refine tri_seq ?_
  refine tri_region ?_
  refine s_mv (.inr rfl) (v := .sc (.bool false)) rfl rfl rfl rfl ?_
  refine rt_nil ?_
  refine tri_seq ?_
  refine tri_region ?_
  refine s_mv (.inl rfl) (by conv => lhs; whnf) rfl rfl rfl ?_
  refine s_mv (.inl rfl) (by conv => lhs; whnf) rfl rfl rfl ?_
  refine bnd1_elim h fun x1 q2 h => ?_
  refine s_callN (kb := []) (ns := []) (v := .sc (.int .i64 x1)) rfl rfl cl75 (wslices_IndexFunc_Entry p0 fi1 cp1 hf1 hb1 p1 hg1 x1 q2) rfl (.cons (.free rfl) (.cons (relFn hf1) .nil)) trivial memNil .nil memNil rfl trivial memNil rfl rfl rfl rfl rfl rfl ?_
  refine s_of (st_geq rfl rfl rfl) rfl rfl rfl rfl ?_
  refine s_mv (.inr rfl) (by conv => lhs; whnf) rfl rfl rfl ?_
  refine rt_nil ?_
  refine tri_ret ?_
  have e0 := (some1 h); subst e0
  exact endY [] [] (rvC (resTmp rfl) rvN) trivial trivial rfl rfl rfl rfl (.free rfl)

/- impl.CacheOk$1 -/

set_option maxRecDepth 4000 in
set_option maxHeartbeats 800000 in
theorem wi_CacheOk_1 (p0 : MEntry) (p1 : MEntry) (r0 : Bool) (h : i_CacheOk_1 p0 p1 = some r0) : Runs Tryd.prog 57 [.agg (mEntryV p0), .lptr 6 [[.sc (.string p1.q.name), .sc (.int .i64 p1.q.ty), .sc (.int .i64 p1.kind), .lst 6 (List.map recV p1.l), .sc (.int .i64 p1.rank), .sc (.int .i64 p1.til)]] 0 0] [] (.sc (.bool r0)) [] := by
  unfold i_CacheOk_1 at h
  refine runsR [.tmp 3] Tryd.func57 rfl rfl rfl rfl ?_
  rw [Tryd.ntmps57]
  refine tri_seq ?_
  refine tri_region ?_
  refine s_box rfl rfl rfl rfl rfl rfl rfl ?_
  refine s_mv (.inr rfl) (v := .sc (.bool false)) rfl rfl rfl rfl ?_
  refine rt_nil ?_
  refine tri_seq ?_
  refine tri_region ?_
  refine s_fieldAddr rfl rfl fd32_0 rfl rfl rfl rfl ?_
  refine s_load (v := .agg (questV p0.q)) rfl rfl rfl rfl ty29 rfl (.inl rfl) rfl rfl rfl rfl ?_
  refine s_fieldAddrF rfl rfl fd32_0 rfl rfl rfl rfl ?_
  refine s_loadF (v := .agg (questV p1.q)) rfl rfl rfl ty29 rfl (.inl rfl) rfl rfl rfl rfl ?_
  refine s_eqStruct (r' := (decide (p0.q.name = p1.q.name) && (decide (p0.q.ty = p1.q.ty) && true))) rfl rfl rfl fk29 rfl rfl rfl rfl rfl ?_
  refine s_mv (.inr rfl) (by conv => lhs; whnf) rfl rfl rfl ?_
  refine rt_nil ?_
  refine tri_ret ?_
  have e0 := (some1 h); subst e0
  exact endY [] [] (rvC (resTmp rfl) rvN) trivial trivial rfl rfl rfl rfl (.free rfl)

/- impl.CacheOk -/
def inv_i_CacheOk_2 (p0 : MCache) (v1_0 : Nat) (j2_0 : Bool) : St := mkT 41 [(1, .ptr (1, 0) 0 0), (22, .lst 6 (List.map mEntryV p0.l)), (23, .sc (.int .i64 (p0.l.length : Int))), (24, .sc (.int .i64 (v1_0 : Int))), (39, .sc (.bool j2_0))] [((1, 0), some ⟨43, 2, [[.sc (.int .i64 p0.cap), .lst 6 (List.map mEntryV p0.l)]], false, true⟩)]
def inv_i_CacheOk_1 (p0 : MCache) (v1_0 : Nat) : St := mkT 41 [(1, .ptr (1, 0) 0 0), (22, .lst 6 (List.map mEntryV p0.l)), (23, .sc (.int .i64 (p0.l.length : Int))), (24, .sc (.int .i64 (v1_0 : Int)))] [((1, 0), some ⟨43, 2, [[.sc (.int .i64 p0.cap), .lst 6 (List.map mEntryV p0.l)]], false, true⟩)]
def inv_i_CacheOk_0 (p0 : MCache) (j0_0 : Bool) : St := mkT 41 [(1, .ptr (1, 0) 0 0), (20, .sc (.bool j0_0))] [((1, 0), some ⟨43, 2, [[.sc (.int .i64 p0.cap), .lst 6 (List.map mEntryV p0.l)]], false, true⟩)]
set_option maxRecDepth 4000 in
set_option maxHeartbeats 800000 in
theorem wi_CacheOk (p0 : MCache) (r0 : Bool) (h : i_CacheOk p0 = some r0) : Runs Tryd.prog 17 [.agg (mCacheV p0)] [] (.sc (.bool r0)) [] := by
  unfold i_CacheOk at h
  refine runsR [.tmp 2] Tryd.func17 rfl rfl rfl rfl ?_
  rw [Tryd.ntmps17]
  refine tri_seq ?_
  refine tri_region ?_
  refine s_box rfl rfl rfl rfl rfl rfl rfl ?_
  refine s_mv (.inr rfl) (v := .sc (.bool false)) rfl rfl rfl rfl ?_
  refine rt_nil ?_
  refine tri_seq ?_
  refine tri_cutI (ι := { p : Bool // i_CacheOk_j0 p0 p = some r0 }) (fun p => inv_i_CacheOk_0 p0 p.1) ?_ ?_
  · skip
    refine tri_region ?_
    refine s_fieldAddr rfl rfl fd43_0 rfl rfl rfl rfl ?_
    refine s_load rfl rfl rfl rfl ty3 rfl (.inr rfl) (by conv => lhs; whnf) rfl rfl rfl ?_
    refine s_of (st_lss rfl rfl rfl) rfl rfl rfl rfl ?_
    refine s_mv (.inl rfl) (by conv => lhs; whnf) rfl rfl rfl ?_
    refine s_split (t := 8) rfl (fun b1 => ?_) (fun b1 => ?_)
    · replace h := cond_t h b1
      refine s_skip rfl rfl rfl ?_
      refine s_skip rfl rfl rfl ?_
      refine s_skip rfl rfl rfl ?_
      refine s_pickT rfl rfl (v := .sc (.bool true)) rfl rfl rfl rfl ?_
      refine s_mv (.inl rfl) (by conv => lhs; whnf) rfl rfl rfl ?_
      refine s_skip rfl rfl rfl ?_
      refine s_skip rfl rfl rfl ?_
      refine s_skip rfl rfl rfl ?_
      refine s_skip rfl rfl rfl ?_
      refine s_skip rfl rfl rfl ?_
      refine s_skip rfl rfl rfl ?_
      refine s_pickT rfl rfl (v := .sc (.bool true)) rfl rfl rfl rfl ?_
      refine rt_nil ?_
      refine Exists.intro ⟨true, h⟩ ?_
      refine entX [((1, 0), ⟨43, 2, [[.sc (.int .i64 p0.cap), .lst 6 (List.map mEntryV p0.l)]], false, true⟩, some (1, 0))] [] ⟨⟨rfl, _, rfl, rfl, rfl, rfl, id, rowsCv_one (.cons (.free rfl) (.cons (.free rfl) .nil)), rowsZ_one rfl⟩, trivial⟩ trivial rfl rfl ?_
      exact ⟨(.ptr rfl), (.free rfl), trivial⟩
    · replace h := cond_f h b1
      refine s_fieldAddr rfl rfl fd43_0 rfl rfl rfl rfl ?_
      refine s_load rfl rfl rfl rfl ty3 rfl (.inr rfl) (by conv => lhs; whnf) rfl rfl rfl ?_
      refine s_of (st_gtr rfl rfl rfl) rfl rfl rfl rfl ?_
      refine s_pickF rfl rfl (by conv => lhs; whnf) rfl rfl rfl ?_
      refine s_mv (.inl rfl) (by conv => lhs; whnf) rfl rfl rfl ?_
      refine s_split (t := 13) rfl (fun b2 => ?_) (fun b2 => ?_)
      · replace h := cond_t h b2
        refine s_skip rfl rfl rfl ?_
        refine s_skip rfl rfl rfl ?_
        refine s_skip rfl rfl rfl ?_
        refine s_skip rfl rfl rfl ?_
        refine s_skip rfl rfl rfl ?_
        refine s_skip rfl rfl rfl ?_
        refine s_pickT rfl rfl (v := .sc (.bool true)) rfl rfl rfl rfl ?_
        refine rt_nil ?_
        refine Exists.intro ⟨true, h⟩ ?_
        refine entX [((1, 0), ⟨43, 2, [[.sc (.int .i64 p0.cap), .lst 6 (List.map mEntryV p0.l)]], false, true⟩, some (1, 0))] [] ⟨⟨rfl, _, rfl, rfl, rfl, rfl, id, rowsCv_one (.cons (.free rfl) (.cons (.free rfl) .nil)), rowsZ_one rfl⟩, trivial⟩ trivial rfl rfl ?_
        exact ⟨(.ptr rfl), (.free rfl), trivial⟩
      · replace h := cond_f h b2
        refine s_fieldAddr rfl rfl fd43_1 rfl rfl rfl rfl ?_
        refine s_load rfl rfl rfl rfl ty41 rfl (.inr rfl) (by conv => lhs; whnf) rfl rfl rfl ?_
        refine s_lenL rfl sl41 rfl rfl rfl rfl ?_
        refine s_fieldAddr rfl rfl fd43_0 rfl rfl rfl rfl ?_
        refine s_load rfl rfl rfl rfl ty3 rfl (.inr rfl) (by conv => lhs; whnf) rfl rfl rfl ?_
        refine s_of (st_gtr rfl rfl rfl) rfl rfl rfl rfl ?_
        refine s_pickF rfl rfl (by conv => lhs; whnf) rfl rfl rfl ?_
        refine rt_nil ?_
        refine Exists.intro ⟨decide (p0.cap < (p0.l.length : Int)), h⟩ ?_
        refine entX [((1, 0), ⟨43, 2, [[.sc (.int .i64 p0.cap), .lst 6 (List.map mEntryV p0.l)]], false, true⟩, some (1, 0))] [] ⟨⟨rfl, _, rfl, rfl, rfl, rfl, id, rowsCv_one (.cons (.free rfl) (.cons (.free rfl) .nil)), rowsZ_one rfl⟩, trivial⟩ trivial rfl rfl ?_
        exact ⟨(.ptr rfl), (.free rfl), trivial⟩
  · rintro ⟨j0_0, h⟩
    replace h : i_CacheOk_j0 p0 j0_0 = some r0 := h
    unfold i_CacheOk_j0 at h
    show Tri _ _ _ (inv_i_CacheOk_0 p0 j0_0)
    refine tri_cond rfl (fun c1 => ?_) (fun c1 => ?_)
    · replace h := cond_t h c1
      refine tri_seq ?_
      refine tri_region ?_
      refine s_mv (.inr rfl) (v := .sc (.bool false)) rfl rfl rfl rfl ?_
      refine rt_nil ?_
      refine tri_ret ?_
      have e0 := (some1 h); subst e0
      exact endY [] [] (rvC (resTmp rfl) rvN) trivial trivial rfl rfl rfl rfl (.free rfl)
    · replace h := cond_f h c1
      refine tri_skip ?_
      refine tri_seq ?_
      refine tri_seq ?_
      refine tri_region ?_
      refine s_fieldAddr rfl rfl fd43_1 rfl rfl rfl rfl ?_
      refine s_load rfl rfl rfl rfl ty41 rfl (.inr rfl) (by conv => lhs; whnf) rfl rfl rfl ?_
      refine s_lenL rfl sl41 rfl rfl rfl rfl ?_
      refine s_mv (.inl rfl) (v := .sc (.int .i64 0)) rfl rfl rfl rfl ?_
      refine rt_nil ?_
      refine tri_block ?_
      refine tri_lstM 22 rfl (fun hl1 => ?_)
      refine tri_loop (ι := { p : (List MEntry) × Nat // p0.l.drop p.2 = p.1 ∧ i_CacheOk_l1 p0 p.1 p.2 = some r0 }) (fun p => inv_i_CacheOk_1 p0 p.1.2) (fun p => p.1.1.length) ⟨(p0.l, 0), rfl, h⟩ ?_ ?_
      · skip
        refine entX [((1, 0), ⟨43, 2, [[.sc (.int .i64 p0.cap), .lst 6 (List.map mEntryV p0.l)]], false, true⟩, some (1, 0))] [] ⟨⟨rfl, _, rfl, rfl, rfl, rfl, id, rowsCv_one (.cons (.free rfl) (.cons (.free rfl) .nil)), rowsZ_one rfl⟩, trivial⟩ trivial rfl rfl ?_
        exact ⟨(.ptr rfl), (.free rfl), (.free rfl), (.free rfl), trivial⟩
      · rintro ⟨⟨lrs1, v1_0⟩, hd1, h⟩
        replace hd1 : p0.l.drop v1_0 = lrs1 := hd1
        replace h : i_CacheOk_l1 p0 lrs1 v1_0 = some r0 := h
        show Tri _ _ _ (inv_i_CacheOk_1 p0 v1_0)
        refine tri_seq ?_
        refine tri_region ?_
        refine s_of (st_lss rfl rfl rfl) rfl rfl rfl rfl ?_
        refine rt_nil ?_
        refine tri_seq ?_
        refine tri_cond rfl (fun c2 => ?_) (fun c2 => ?_)
        · refine drop_elim hd1 c2 fun e1 rs1 he hx1 hn1 => ?_
          subst he
          rw [i_CacheOk_l1] at h
          refine tri_skip ?_
          refine tri_seq ?_
          refine tri_block ?_
          refine tri_seq ?_
          refine tri_region ?_
          refine s_mv (.inl rfl) (by conv => lhs; whnf) rfl rfl rfl ?_
          refine s_indexF (i := v1_0) rfl rfl rfl sl41 (get_ltM hx1) rfl rfl rfl ?_
          refine s_loadFR rfl rfl (rowG hx1) ty32 rfl rfl rfl ?_
          refine s_alloc rfl rfl rfl zc32 rfl rfl rfl rfl rfl ?_
          refine s_mv (.inr rfl) (by conv => lhs; whnf) rfl rfl rfl ?_
          refine s_storeB rfl rfl rfl ty32 rfl rfl rfl rfl rfl ?_
          refine rt_nil ?_
          refine tri_cutI (ι := { p : Bool // i_CacheOk_j2 v1_0 (i_CacheOk_l1 p0 rs1) p = some r0 }) (fun p => inv_i_CacheOk_2 p0 v1_0 p.1) ?_ ?_
          · skip
            refine tri_region ?_
            refine s_loadR rfl rfl rfl rfl ty32 rfl rfl rfl ?_
            refine bnd1_elim h fun x3 q4 h => ?_
            refine s_callN (kb := []) (ns := []) (v := .sc (.bool x3)) rfl rfl cl12 (wi_EntryOk e1 x3 q4) rfl (.cons (relAgg rfl) .nil) trivial memNil .nil memNil rfl trivial memNil rfl rfl rfl rfl rfl rfl ?_
            refine s_of (st_not rfl rfl) rfl rfl rfl rfl ?_
            refine s_mv (.inl rfl) (by conv => lhs; whnf) rfl rfl rfl ?_
            refine s_split (t := 32) rfl (fun b5 => ?_) (fun b5 => ?_)
            · replace h := cond_t h b5
              refine s_skip rfl rfl rfl ?_
              refine s_skip rfl rfl rfl ?_
              refine s_skip rfl rfl rfl ?_
              refine s_skip rfl rfl rfl ?_
              refine s_skip rfl rfl rfl ?_
              refine s_skip rfl rfl rfl ?_
              refine s_pickT rfl rfl (v := .sc (.bool true)) rfl rfl rfl rfl ?_
              refine rt_nil ?_
              refine Exists.intro ⟨true, h⟩ ?_
              refine entX [((1, 0), ⟨43, 2, [[.sc (.int .i64 p0.cap), .lst 6 (List.map mEntryV p0.l)]], false, true⟩, some (1, 0))] [] ⟨⟨rfl, _, rfl, rfl, rfl, rfl, id, rowsCv_one (.cons (.free rfl) (.cons (.free rfl) .nil)), rowsZ_one rfl⟩, trivial⟩ trivial rfl rfl ?_
              exact ⟨(.ptr rfl), (.free rfl), (.free rfl), (.free rfl), (.free rfl), trivial⟩
            · replace h := cond_f h b5
              refine s_fieldAddr rfl rfl fd43_1 rfl rfl rfl rfl ?_
              refine s_load rfl rfl rfl rfl ty41 rfl (.inr rfl) (by conv => lhs; whnf) rfl rfl rfl ?_
              refine s_mv (.inl rfl) (by conv => lhs; whnf) rfl rfl rfl ?_
              refine grd_elim h fun g6 h => ?_
              refine s_sliceFZ (a := ((0 : Nat) : Int)) (b := (v1_0 : Int)) rfl rfl sl41 rfl ⟨_, rfl⟩ g6 rfl rfl rfl ?_
              refine s_makeFunc (caps := [.ptr (4, 0) 0 0]) rfl rfl rfl rfl rfl ?_
              refine bnd1_elim h fun x7 q8 h => ?_
              refine s_callN (kb := [(4, 0)]) (ns := []) (v := .sc (.bool x7)) rfl rfl cl56 (wslices_ContainsFunc_Entry ((p0.l.drop ((0 : Nat) : Int).toNat).take ((v1_0 : Int).toNat - ((0 : Nat) : Int).toNat)) 57 ([.lptr 6 [[.sc (.string e1.q.name), .sc (.int .i64 e1.q.ty), .sc (.int .i64 e1.kind), .lst 6 (List.map recV e1.l), .sc (.int .i64 e1.rank), .sc (.int .i64 e1.til)]] 0 0]) rfl cl57 (fun a0 => i_CacheOk_1 a0 e1) (fun a0 v0 hv => wi_CacheOk_1 a0 e1 v0 hv) x7 q8) rfl (.cons (.free rfl) (.cons (relFnL rfl (.cons (relBoxL rfl (.head _) (.cons (.free rfl) (.cons (.free rfl) (.cons (.free rfl) (.cons (.free rfl) (.cons (.free rfl) (.cons (.free rfl) .nil)))))) rfl rfl) .nil)) .nil)) trivial memNil .nil (fun _ _ => List.not_mem_nil) rfl trivial memNil rfl rfl rfl rfl rfl rfl ?_
              refine s_pickF rfl rfl (by conv => lhs; whnf) rfl rfl rfl ?_
              refine rt_nil ?_
              refine Exists.intro ⟨x7, h⟩ ?_
              refine entX [((1, 0), ⟨43, 2, [[.sc (.int .i64 p0.cap), .lst 6 (List.map mEntryV p0.l)]], false, true⟩, some (1, 0))] [] ⟨⟨rfl, _, rfl, rfl, rfl, rfl, id, rowsCv_one (.cons (.free rfl) (.cons (.free rfl) .nil)), rowsZ_one rfl⟩, trivial⟩ trivial rfl rfl ?_
              exact ⟨(.ptr rfl), (.free rfl), (.free rfl), (.free rfl), (.free rfl), trivial⟩
          · rintro ⟨j2_0, h⟩
            replace h : i_CacheOk_j2 v1_0 (i_CacheOk_l1 p0 rs1) j2_0 = some r0 := h
            unfold i_CacheOk_j2 at h
            show Tri _ _ _ (inv_i_CacheOk_2 p0 v1_0 j2_0)
            refine tri_cond rfl (fun c3 => ?_) (fun c3 => ?_)
            · replace h := cond_t h c3
              refine tri_seq ?_
              refine tri_region ?_
              refine s_mv (.inr rfl) (v := .sc (.bool false)) rfl rfl rfl rfl ?_
              refine rt_nil ?_
              refine tri_ret ?_
              have e0 := (some1 h); subst e0
              exact endY [] [] (rvC (resTmp rfl) rvN) trivial trivial rfl rfl rfl rfl (.free rfl)
            · replace h := cond_f h c3
              refine tri_skip ?_
              refine tri_region ?_
              refine s_inc (a := v1_0) (b := 1) rfl rfl rfl rfl (by have := get_lt hx1; have := hl1; omega) rfl rfl rfl ?_
              refine s_mv (.inl rfl) (by conv => lhs; whnf) rfl rfl rfl ?_
              refine rt_nil ?_
              refine Exists.intro ⟨(rs1, (v1_0 + 1)), hn1, h⟩ (And.intro (Nat.lt_succ_self _) ?_)
              refine entX [((1, 0), ⟨43, 2, [[.sc (.int .i64 p0.cap), .lst 6 (List.map mEntryV p0.l)]], false, true⟩, some (1, 0))] [] ⟨⟨rfl, _, rfl, rfl, rfl, rfl, id, rowsCv_one (.cons (.free rfl) (.cons (.free rfl) .nil)), rowsZ_one rfl⟩, trivial⟩ trivial rfl rfl ?_
              exact ⟨(.ptr rfl), (.free rfl), (.free rfl), (.free rfl), trivial⟩
        · have he := drop_f hd1 c2; subst he
          rw [i_CacheOk_l1] at h
          refine tri_exit ?_
          refine tri_seq ?_
          refine tri_region ?_
          refine s_mv (.inr rfl) (v := .sc (.bool true)) rfl rfl rfl rfl ?_
          refine rt_nil ?_
          refine tri_ret ?_
          have e0 := (some1 h); subst e0
          exact endY [] [] (rvC (resTmp rfl) rvN) trivial trivial rfl rfl rfl rfl (.free rfl)

/- laws.FnExpires -/
def inv_w_FnExpires_2 (x4 : MCache) (x5 : Int) (x7 : MCache) (v2_0 : Int) (v2_1 : Nat) : St := mkT 75 [(3, .ptr (3, 0) 0 0), (4, .sc (.int .i64 x5)), (5, .ptr (5, 0) 0 0), (6, .sc (.int .i64 v2_0)), (7, .sc (.int .i64 (v2_1 : Int)))] [((3, 0), some ⟨43, 2, [[.sc (.int .i64 x4.cap), .lst 6 (List.map mEntryV x4.l)]], false, true⟩), ((5, 0), some ⟨43, 2, [[.sc (.int .i64 x7.cap), .lst 6 (List.map mEntryV x7.l)]], false, true⟩)]
def inv_w_FnExpires_1 (x4 : MCache) (x7 : MCache) (j1_0 : Int) : St := mkT 75 [(3, .ptr (3, 0) 0 0), (5, .ptr (5, 0) 0 0), (6, .sc (.int .i64 j1_0))] [((3, 0), some ⟨43, 2, [[.sc (.int .i64 x4.cap), .lst 6 (List.map mEntryV x4.l)]], false, true⟩), ((5, 0), some ⟨43, 2, [[.sc (.int .i64 x7.cap), .lst 6 (List.map mEntryV x7.l)]], false, true⟩)]
def inv_w_FnExpires_0 (x4 : MCache) (x5 : Int) (x7 : MCache) (j0_0 : Bool) : St := mkT 75 [(3, .ptr (3, 0) 0 0), (4, .sc (.int .i64 x5)), (5, .ptr (5, 0) 0 0), (43, .sc (.bool j0_0))] [((3, 0), some ⟨43, 2, [[.sc (.int .i64 x4.cap), .lst 6 (List.map mEntryV x4.l)]], false, true⟩), ((5, 0), some ⟨43, 2, [[.sc (.int .i64 x7.cap), .lst 6 (List.map mEntryV x7.l)]], false, true⟩)]
set_option maxRecDepth 4000 in
set_option maxHeartbeats 800000 in
theorem ww_FnExpires (p0 : List Int) (r0 : Bool) (h : w_FnExpires p0 = some r0) : Runs Tryd.prog 5 [.lst 1 (List.map byteV p0)] [] (.sc (.bool r0)) [] := by
  unfold w_FnExpires at h
  refine runsR [.tmp 2] Tryd.func5 rfl rfl rfl rfl ?_
  rw [Tryd.ntmps5]
  refine tri_seq ?_
  refine tri_region ?_
  refine s_mv (.inr rfl) (v := .sc (.bool false)) rfl rfl rfl rfl ?_
  refine rt_nil ?_
  refine tri_seq ?_
  refine tri_seq ?_
  refine tri_region ?_
  refine s_mv (.inl rfl) (by conv => lhs; whnf) rfl rfl rfl ?_
  refine bnd1_elim h fun x1 q2 h => ?_
  refine s_callN (kb := []) (ns := []) (v := .sc (.bool x1)) rfl rfl cl19 (ww_big p0 x1 q2) rfl (.cons (.free rfl) .nil) trivial memNil .nil memNil rfl trivial memNil rfl rfl rfl rfl rfl rfl ?_
  refine rt_nil ?_
  refine tri_cond rfl (fun c3 => ?_) (fun c3 => ?_)
  · replace h := cond_t h c3
    refine tri_seq ?_
    refine tri_region ?_
    refine s_mv (.inr rfl) (v := .sc (.bool true)) rfl rfl rfl rfl ?_
    refine rt_nil ?_
    refine tri_ret ?_
    have e0 := (some1 h); subst e0
    exact endY [] [] (rvC (resTmp rfl) rvN) trivial trivial rfl rfl rfl rfl (.free rfl)
  · replace h := cond_f h c3
    refine tri_skip ?_
    refine tri_seq ?_
    refine tri_region ?_
    refine s_mv (.inl rfl) (by conv => lhs; whnf) rfl rfl rfl ?_
    refine bnd2_elim h fun x4 x5 q6 h => ?_
    refine s_callZF (kb := []) (ns := []) (v := .tup [.agg [.sc (.int .i64 x4.cap), .ref (12, 101) 0 x4.l.length], .sc (.int .i64 x5)]) (D := [(12, 101)]) rfl rfl cl20 (ws_DrawExpire p0 x4 x5 q6) rfl (.cons (.free rfl) .nil) trivial memNil .nil memNil trivial rfl ⟨(allFree_map mEntryV_free), trivial⟩ memNil rfl (by first | (simp only [V.mat, V.mat1, V.mat0, matL, matT, List.length_map]; done) | (simp only [V.mat, V.mat1, V.mat0, matL, matT, List.length_map]; rfl)) rfl ⟨⟨rfl, rfl, _, rfl, rfl⟩, trivial⟩ (relTupL (.cons (relAggL (.cons (.free rfl) (.cons (lendL rfl (.head _) rfl mEntryV_free mEntryV_len) .nil))) (.cons (.free rfl) .nil))) rfl rfl rfl ?_
    refine s_mv (.inl rfl) (by conv => lhs; whnf) rfl rfl rfl ?_
    refine s_extract rfl rfl rfl rfl rfl rfl ?_
    refine s_extract rfl rfl rfl rfl rfl rfl ?_
    refine s_alloc rfl rfl rfl zc43 rfl rfl rfl rfl rfl ?_
    refine s_storeB rfl rfl rfl ty43 rfl rfl rfl rfl rfl ?_
    refine s_mv (.inr rfl) (by conv => lhs; whnf) rfl rfl rfl ?_
    refine rt_nil ?_
    refine tri_seq ?_
    refine tri_region ?_
    refine s_loadR rfl rfl rfl rfl ty43 rfl rfl rfl ?_
    refine s_mv (.inl rfl) (by conv => lhs; whnf) rfl rfl rfl ?_
    refine bnd1_elim h fun x7 q8 h => ?_
    refine s_callZF (kb := []) (ns := []) (v := .agg [.sc (.int .i64 x7.cap), .ref (17, 1) 0 x7.l.length]) (D := [(17, 1)]) rfl rfl cl21 (wi_Expire x4 x5 x7 q8) rfl (.cons (relAgg rfl) (.cons (.free rfl) .nil)) trivial memNil .nil memNil trivial rfl ⟨(allFree_map mEntryV_free), trivial⟩ memNil rfl (by first | (simp only [V.mat, V.mat1, V.mat0, matL, matT, List.length_map]; done) | (simp only [V.mat, V.mat1, V.mat0, matL, matT, List.length_map]; rfl)) rfl ⟨⟨rfl, rfl, _, rfl, rfl⟩, trivial⟩ (relAggL (.cons (.free rfl) (.cons (lendL rfl (.head _) rfl mEntryV_free mEntryV_len) .nil))) rfl rfl rfl ?_
    refine s_alloc rfl rfl rfl zc43 rfl rfl rfl rfl rfl ?_
    refine s_storeB rfl rfl rfl ty43 rfl rfl rfl rfl rfl ?_
    refine rt_nil ?_
    refine tri_seq ?_
    refine tri_cutI (ι := { p : Bool // w_FnExpires_j0 x4 x5 x7 p = some r0 }) (fun p => inv_w_FnExpires_0 x4 x5 x7 p.1) ?_ ?_
    · skip
      refine tri_draw mixed ?_
      refine s_loadR rfl rfl rfl rfl ty43 rfl rfl rfl ?_
      refine s_loadR rfl rfl rfl rfl ty43 rfl rfl rfl ?_
      refine s_mv (.inl rfl) (by conv => lhs; whnf) rfl rfl rfl ?_
      refine bnd1_elim h fun x9 q10 h => ?_
      refine s_callZ (kb := []) (ns := []) (v := .agg [.sc (.int .i64 x9.cap), .ref (21, 1) 0 x9.l.length]) rfl rfl cl23 (ws_Expire x4 x5 x9 q10) rfl (.cons (relAgg rfl) (.cons (.free rfl) .nil)) trivial memNil .nil memNil trivial rfl ⟨(allFree_map mEntryV_free), trivial⟩ memNil rfl (by first | (simp only [V.mat, V.mat1, V.mat0, matL, matT, List.length_map]; done) | (simp only [V.mat, V.mat1, V.mat0, matL, matT, List.length_map]; rfl)) rfl rfl rfl rfl ?_
      refine bnd1_elim h fun x11 q12 h => ?_
      refine s_callN (kb := [(21, 1)]) (ns := []) (v := .sc (.bool x11)) rfl rfl cl22 (ww_sameCache x7 x9 x11 q12) rfl (.cons (relAgg rfl) (.cons (relAggL (.cons (.free rfl) (.cons (lendL rfl (.head _) rfl mEntryV_free mEntryV_len) .nil))) .nil)) trivial memNil .nil (fun _ _ => List.not_mem_nil) rfl trivial memNil rfl rfl rfl rfl rfl rfl ?_
      refine s_of (st_not rfl rfl) rfl rfl rfl rfl ?_
      refine s_mv (.inl rfl) (by conv => lhs; whnf) rfl rfl rfl ?_
      refine s_split (t := 24) rfl (fun b13 => ?_) (fun b13 => ?_)
      · replace h := cond_t h b13
        refine s_skip rfl rfl rfl ?_
        refine s_skip rfl rfl rfl ?_
        refine s_skip rfl rfl rfl ?_
        refine s_skip rfl rfl rfl ?_
        refine s_skip rfl rfl rfl ?_
        refine s_skip rfl rfl rfl ?_
        refine s_pickT rfl rfl (v := .sc (.bool true)) rfl rfl rfl rfl ?_
        refine s_mv (.inl rfl) (by conv => lhs; whnf) rfl rfl rfl ?_
        refine s_skip rfl rfl rfl ?_
        refine s_skip rfl rfl rfl ?_
        refine s_skip rfl rfl rfl ?_
        refine s_skip rfl rfl rfl ?_
        refine s_skip rfl rfl rfl ?_
        refine s_skip rfl rfl rfl ?_
        refine s_skip rfl rfl rfl ?_
        refine s_skip rfl rfl rfl ?_
        refine s_skip rfl rfl rfl ?_
        refine s_skip rfl rfl rfl ?_
        refine s_pickT rfl rfl (v := .sc (.bool true)) rfl rfl rfl rfl ?_
        refine rt_nil ⟨by kernel_rfl, ?_⟩
        refine Exists.intro ⟨true, h⟩ ?_
        refine entX [((3, 0), ⟨43, 2, [[.sc (.int .i64 x4.cap), .lst 6 (List.map mEntryV x4.l)]], false, true⟩, some (3, 0)), ((5, 0), ⟨43, 2, [[.sc (.int .i64 x7.cap), .lst 6 (List.map mEntryV x7.l)]], false, true⟩, some (5, 0))] [] ⟨⟨rfl, _, rfl, rfl, rfl, rfl, id, rowsCv_one (.cons (.free rfl) (.cons (.free rfl) .nil)), rowsZ_one rfl⟩, ⟨rfl, _, rfl, rfl, rfl, rfl, id, rowsCv_one (.cons (.free rfl) (.cons (.free rfl) .nil)), rowsZ_one rfl⟩, trivial⟩ trivial rfl rfl ?_
        exact ⟨(.ptr rfl), (.free rfl), (.ptr rfl), (.free rfl), trivial⟩
      · replace h := cond_f h b13
        refine s_loadR rfl rfl rfl rfl ty43 rfl rfl rfl ?_
        refine s_mv (.inl rfl) (by conv => lhs; whnf) rfl rfl rfl ?_
        refine bnd1_elim h fun x14 q15 h => ?_
        refine s_callZ (kb := []) (ns := []) (v := .agg [.sc (.int .i64 x14.cap), .ref (27, 1) 0 x14.l.length]) rfl rfl cl21 (wi_Expire x7 x5 x14 q15) rfl (.cons (relAgg rfl) (.cons (.free rfl) .nil)) trivial memNil .nil memNil trivial rfl ⟨(allFree_map mEntryV_free), trivial⟩ memNil rfl (by first | (simp only [V.mat, V.mat1, V.mat0, matL, matT, List.length_map]; done) | (simp only [V.mat, V.mat1, V.mat0, matL, matT, List.length_map]; rfl)) rfl rfl rfl rfl ?_
        refine s_loadR rfl rfl rfl rfl ty43 rfl rfl rfl ?_
        refine bnd1_elim h fun x16 q17 h => ?_
        refine s_callN (kb := [(27, 1)]) (ns := []) (v := .sc (.bool x16)) rfl rfl cl22 (ww_sameCache x14 x7 x16 q17) rfl (.cons (relAggL (.cons (.free rfl) (.cons (lendL rfl (.head _) rfl mEntryV_free mEntryV_len) .nil))) (.cons (relAgg rfl) .nil)) trivial memNil .nil (fun _ _ => List.not_mem_nil) rfl trivial memNil rfl rfl rfl rfl rfl rfl ?_
        refine s_of (st_not rfl rfl) rfl rfl rfl rfl ?_
        refine s_pickF rfl rfl (by conv => lhs; whnf) rfl rfl rfl ?_
        refine s_mv (.inl rfl) (by conv => lhs; whnf) rfl rfl rfl ?_
        refine s_split (t := 32) rfl (fun b18 => ?_) (fun b18 => ?_)
        · replace h := cond_t h b18
          refine s_skip rfl rfl rfl ?_
          refine s_skip rfl rfl rfl ?_
          refine s_skip rfl rfl rfl ?_
          refine s_skip rfl rfl rfl ?_
          refine s_skip rfl rfl rfl ?_
          refine s_skip rfl rfl rfl ?_
          refine s_skip rfl rfl rfl ?_
          refine s_skip rfl rfl rfl ?_
          refine s_skip rfl rfl rfl ?_
          refine s_skip rfl rfl rfl ?_
          refine s_pickT rfl rfl (v := .sc (.bool true)) rfl rfl rfl rfl ?_
          refine rt_nil ⟨by kernel_rfl, ?_⟩
          refine Exists.intro ⟨true, h⟩ ?_
          refine entX [((3, 0), ⟨43, 2, [[.sc (.int .i64 x4.cap), .lst 6 (List.map mEntryV x4.l)]], false, true⟩, some (3, 0)), ((5, 0), ⟨43, 2, [[.sc (.int .i64 x7.cap), .lst 6 (List.map mEntryV x7.l)]], false, true⟩, some (5, 0))] [] ⟨⟨rfl, _, rfl, rfl, rfl, rfl, id, rowsCv_one (.cons (.free rfl) (.cons (.free rfl) .nil)), rowsZ_one rfl⟩, ⟨rfl, _, rfl, rfl, rfl, rfl, id, rowsCv_one (.cons (.free rfl) (.cons (.free rfl) .nil)), rowsZ_one rfl⟩, trivial⟩ trivial rfl rfl ?_
          exact ⟨(.ptr rfl), (.free rfl), (.ptr rfl), (.free rfl), trivial⟩
        · replace h := cond_f h b18
          refine s_loadR rfl rfl rfl rfl ty43 rfl rfl rfl ?_
          refine s_mv (.inl rfl) (by conv => lhs; whnf) rfl rfl rfl ?_
          refine grd_elim h fun g19 h => ?_
          refine s_addI rfl rfl rfl rfl g19 rfl rfl rfl ?_
          refine bnd1_elim h fun x20 q21 h => ?_
          refine s_callZ (kb := []) (ns := []) (v := .agg [.sc (.int .i64 x20.cap), .ref (36, 1) 0 x20.l.length]) rfl rfl cl21 (wi_Expire x7 (x5 + 5) x20 q21) rfl (.cons (relAgg rfl) (.cons (.free rfl) .nil)) trivial memNil .nil memNil trivial rfl ⟨(allFree_map mEntryV_free), trivial⟩ memNil rfl (by first | (simp only [V.mat, V.mat1, V.mat0, matL, matT, List.length_map]; done) | (simp only [V.mat, V.mat1, V.mat0, matL, matT, List.length_map]; rfl)) rfl rfl rfl rfl ?_
          refine s_loadR rfl rfl rfl rfl ty43 rfl rfl rfl ?_
          refine s_mv (.inl rfl) (by conv => lhs; whnf) rfl rfl rfl ?_
          refine grd_elim h fun g22 h => ?_
          refine s_addI rfl rfl rfl rfl g22 rfl rfl rfl ?_
          refine bnd1_elim h fun x23 q24 h => ?_
          refine s_callZ (kb := []) (ns := []) (v := .agg [.sc (.int .i64 x23.cap), .ref (40, 1) 0 x23.l.length]) rfl rfl cl21 (wi_Expire x4 (x5 + 5) x23 q24) rfl (.cons (relAgg rfl) (.cons (.free rfl) .nil)) trivial memNil .nil memNil trivial rfl ⟨(allFree_map mEntryV_free), trivial⟩ memNil rfl (by first | (simp only [V.mat, V.mat1, V.mat0, matL, matT, List.length_map]; done) | (simp only [V.mat, V.mat1, V.mat0, matL, matT, List.length_map]; rfl)) rfl rfl rfl rfl ?_
          refine bnd1_elim h fun x25 q26 h => ?_
          refine s_callN (kb := [(36, 1), (40, 1)]) (ns := []) (v := .sc (.bool x25)) rfl rfl cl22 (ww_sameCache x20 x23 x25 q26) rfl (.cons (relAggL (.cons (.free rfl) (.cons (lendL rfl (.head _) rfl mEntryV_free mEntryV_len) .nil))) (.cons (relAggL (.cons (.free rfl) (.cons (lendL rfl (.tail _ (.head _)) rfl mEntryV_free mEntryV_len) .nil))) .nil)) trivial memNil .nil (fun _ _ => List.not_mem_nil) rfl trivial memNil rfl rfl rfl rfl rfl rfl ?_
          refine s_of (st_not rfl rfl) rfl rfl rfl rfl ?_
          refine s_pickF rfl rfl (by conv => lhs; whnf) rfl rfl rfl ?_
          refine rt_nil ⟨by kernel_rfl, ?_⟩
          refine Exists.intro ⟨!x25, h⟩ ?_
          refine entX [((3, 0), ⟨43, 2, [[.sc (.int .i64 x4.cap), .lst 6 (List.map mEntryV x4.l)]], false, true⟩, some (3, 0)), ((5, 0), ⟨43, 2, [[.sc (.int .i64 x7.cap), .lst 6 (List.map mEntryV x7.l)]], false, true⟩, some (5, 0))] [] ⟨⟨rfl, _, rfl, rfl, rfl, rfl, id, rowsCv_one (.cons (.free rfl) (.cons (.free rfl) .nil)), rowsZ_one rfl⟩, ⟨rfl, _, rfl, rfl, rfl, rfl, id, rowsCv_one (.cons (.free rfl) (.cons (.free rfl) .nil)), rowsZ_one rfl⟩, trivial⟩ trivial rfl rfl ?_
          exact ⟨(.ptr rfl), (.free rfl), (.ptr rfl), (.free rfl), trivial⟩
    · rintro ⟨j0_0, h⟩
      replace h : w_FnExpires_j0 x4 x5 x7 j0_0 = some r0 := h
      unfold w_FnExpires_j0 at h
      show Tri _ _ _ (inv_w_FnExpires_0 x4 x5 x7 j0_0)
      refine tri_cond rfl (fun c9 => ?_) (fun c9 => ?_)
      · replace h := cond_t h c9
        refine tri_seq ?_
        refine tri_region ?_
        refine s_mv (.inr rfl) (v := .sc (.bool false)) rfl rfl rfl rfl ?_
        refine rt_nil ?_
        refine tri_ret ?_
        have e0 := (some1 h); subst e0
        exact endY [] [] (rvC (resTmp rfl) rvN) trivial trivial rfl rfl rfl rfl (.free rfl)
      · replace h := cond_f h c9
        refine tri_skip ?_
        refine tri_seq ?_
        refine tri_region ?_
        refine s_mv (.inr rfl) (v := .sc (.int .i64 0)) rfl rfl rfl rfl ?_
        refine rt_nil ?_
        refine tri_cutI (ι := { p : Int // w_FnExpires_j1 x4 x7 p = some r0 }) (fun p => inv_w_FnExpires_1 x4 x7 p.1) ?_ ?_
        · skip
          refine tri_seq ?_
          refine tri_region ?_
          refine s_mv (.inr rfl) (v := .sc (.int .i64 0)) rfl rfl rfl rfl ?_
          refine rt_nil ?_
          refine tri_block ?_
          refine tri_boxM (3, 0) 1 rfl rfl (fun hl2 => ?_)
          refine tri_loop (ι := { p : (List MEntry) × Int × Nat // x4.l.drop p.2.2 = p.1 ∧ w_FnExpires_l2 x4 x5 x7 p.1 p.2.1 p.2.2 = some r0 }) (fun p => inv_w_FnExpires_2 x4 x5 x7 p.1.2.1 p.1.2.2) (fun p => p.1.1.length) ⟨(x4.l, 0, 0), rfl, h⟩ ?_ ?_
          · skip
            refine entX [((3, 0), ⟨43, 2, [[.sc (.int .i64 x4.cap), .lst 6 (List.map mEntryV x4.l)]], false, true⟩, some (3, 0)), ((5, 0), ⟨43, 2, [[.sc (.int .i64 x7.cap), .lst 6 (List.map mEntryV x7.l)]], false, true⟩, some (5, 0))] [] ⟨⟨rfl, _, rfl, rfl, rfl, rfl, id, rowsCv_one (.cons (.free rfl) (.cons (.free rfl) .nil)), rowsZ_one rfl⟩, ⟨rfl, _, rfl, rfl, rfl, rfl, id, rowsCv_one (.cons (.free rfl) (.cons (.free rfl) .nil)), rowsZ_one rfl⟩, trivial⟩ trivial rfl rfl ?_
            exact ⟨(.ptr rfl), (.free rfl), (.ptr rfl), (.free rfl), (.free rfl), trivial⟩
          · rintro ⟨⟨lrs2, v2_0, v2_1⟩, hd2, h⟩
            replace hd2 : x4.l.drop v2_1 = lrs2 := hd2
            replace h : w_FnExpires_l2 x4 x5 x7 lrs2 v2_0 v2_1 = some r0 := h
            show Tri _ _ _ (inv_w_FnExpires_2 x4 x5 x7 v2_0 v2_1)
            refine tri_seq ?_
            refine tri_seq ?_
            refine tri_region ?_
            refine s_mv (.inl rfl) (by conv => lhs; whnf) rfl rfl rfl ?_
            refine s_fieldAddr rfl rfl fd43_1 rfl rfl rfl rfl ?_
            refine s_load rfl rfl rfl rfl ty41 rfl (.inr rfl) (by conv => lhs; whnf) rfl rfl rfl ?_
            refine s_lenL rfl sl41 rfl rfl rfl rfl ?_
            refine s_of (st_lss rfl rfl rfl) rfl rfl rfl rfl ?_
            refine rt_nil ?_
            refine tri_cond rfl (fun c10 => ?_) (fun c10 => ?_)
            · refine drop_elim hd2 c10 fun e2 rs2 he hx2 hn2 => ?_
              subst he
              rw [w_FnExpires_l2] at h
              refine tri_skip ?_
              refine tri_seq ?_
              refine tri_block ?_
              refine tri_seq ?_
              refine tri_region ?_
              refine s_fieldAddr rfl rfl fd43_1 rfl rfl rfl rfl ?_
              refine s_load rfl rfl rfl rfl ty41 rfl (.inr rfl) (by conv => lhs; whnf) rfl rfl rfl ?_
              refine s_mv (.inl rfl) (by conv => lhs; whnf) rfl rfl rfl ?_
              refine s_indexF (i := v2_1) rfl rfl rfl sl41 (get_ltM hx2) rfl rfl rfl ?_
              refine s_fieldAddrF rfl rfl fd32_4 rfl rfl rfl rfl ?_
              refine s_loadF rfl rfl (rowG hx2) ty3 rfl (.inr rfl) (by conv => lhs; whnf) rfl rfl rfl ?_
              refine s_mv (.inl rfl) (by conv => lhs; whnf) rfl rfl rfl ?_
              refine s_of (st_gtr rfl rfl rfl) rfl rfl rfl rfl ?_
              refine rt_nil ?_
              refine tri_cond rfl (fun c11 => ?_) (fun c11 => ?_)
              · replace h := cond_t h c11
                refine tri_region ?_
                refine s_mv (.inl rfl) (by conv => lhs; whnf) rfl rfl rfl ?_
                refine grd_elim h fun g12 h => ?_
                refine s_addI rfl rfl rfl rfl g12 rfl rfl rfl ?_
                refine s_mv (.inr rfl) (by conv => lhs; whnf) rfl rfl rfl ?_
                refine rt_nil ?_
                refine tri_region ?_
                refine s_mv (.inl rfl) (by conv => lhs; whnf) rfl rfl rfl ?_
                refine s_inc (a := v2_1) (b := 1) rfl rfl rfl rfl (by have := get_lt hx2; have := hl2; omega) rfl rfl rfl ?_
                refine s_mv (.inr rfl) (by conv => lhs; whnf) rfl rfl rfl ?_
                refine rt_nil ?_
                refine Exists.intro ⟨(rs2, v2_0 + 1, (v2_1 + 1)), hn2, h⟩ (And.intro (Nat.lt_succ_self _) ?_)
                refine entX [((3, 0), ⟨43, 2, [[.sc (.int .i64 x4.cap), .lst 6 (List.map mEntryV x4.l)]], false, true⟩, some (3, 0)), ((5, 0), ⟨43, 2, [[.sc (.int .i64 x7.cap), .lst 6 (List.map mEntryV x7.l)]], false, true⟩, some (5, 0))] [] ⟨⟨rfl, _, rfl, rfl, rfl, rfl, id, rowsCv_one (.cons (.free rfl) (.cons (.free rfl) .nil)), rowsZ_one rfl⟩, ⟨rfl, _, rfl, rfl, rfl, rfl, id, rowsCv_one (.cons (.free rfl) (.cons (.free rfl) .nil)), rowsZ_one rfl⟩, trivial⟩ trivial rfl rfl ?_
                exact ⟨(.ptr rfl), (.free rfl), (.ptr rfl), (.free rfl), (.free rfl), trivial⟩
              · replace h := cond_f h c11
                refine tri_skip ?_
                refine tri_region ?_
                refine s_mv (.inl rfl) (by conv => lhs; whnf) rfl rfl rfl ?_
                refine s_inc (a := v2_1) (b := 1) rfl rfl rfl rfl (by have := get_lt hx2; have := hl2; omega) rfl rfl rfl ?_
                refine s_mv (.inr rfl) (by conv => lhs; whnf) rfl rfl rfl ?_
                refine rt_nil ?_
                refine Exists.intro ⟨(rs2, v2_0, (v2_1 + 1)), hn2, h⟩ (And.intro (Nat.lt_succ_self _) ?_)
                refine entX [((3, 0), ⟨43, 2, [[.sc (.int .i64 x4.cap), .lst 6 (List.map mEntryV x4.l)]], false, true⟩, some (3, 0)), ((5, 0), ⟨43, 2, [[.sc (.int .i64 x7.cap), .lst 6 (List.map mEntryV x7.l)]], false, true⟩, some (5, 0))] [] ⟨⟨rfl, _, rfl, rfl, rfl, rfl, id, rowsCv_one (.cons (.free rfl) (.cons (.free rfl) .nil)), rowsZ_one rfl⟩, ⟨rfl, _, rfl, rfl, rfl, rfl, id, rowsCv_one (.cons (.free rfl) (.cons (.free rfl) .nil)), rowsZ_one rfl⟩, trivial⟩ trivial rfl rfl ?_
                exact ⟨(.ptr rfl), (.free rfl), (.ptr rfl), (.free rfl), (.free rfl), trivial⟩
            · have he := drop_f hd2 c10; subst he
              rw [w_FnExpires_l2] at h
              refine tri_exit ?_
              refine Exists.intro ⟨v2_0, h⟩ ?_
              refine entX [((3, 0), ⟨43, 2, [[.sc (.int .i64 x4.cap), .lst 6 (List.map mEntryV x4.l)]], false, true⟩, some (3, 0)), ((5, 0), ⟨43, 2, [[.sc (.int .i64 x7.cap), .lst 6 (List.map mEntryV x7.l)]], false, true⟩, some (5, 0))] [] ⟨⟨rfl, _, rfl, rfl, rfl, rfl, id, rowsCv_one (.cons (.free rfl) (.cons (.free rfl) .nil)), rowsZ_one rfl⟩, ⟨rfl, _, rfl, rfl, rfl, rfl, id, rowsCv_one (.cons (.free rfl) (.cons (.free rfl) .nil)), rowsZ_one rfl⟩, trivial⟩ trivial rfl rfl ?_
              exact ⟨(.ptr rfl), (.ptr rfl), (.free rfl), trivial⟩
        · rintro ⟨j1_0, h⟩
          replace h : w_FnExpires_j1 x4 x7 j1_0 = some r0 := h
          unfold w_FnExpires_j1 at h
          show Tri _ _ _ (inv_w_FnExpires_1 x4 x7 j1_0)
          refine tri_seq ?_
          refine tri_region ?_
          refine s_fieldAddr rfl rfl fd43_1 rfl rfl rfl rfl ?_
          refine s_load rfl rfl rfl rfl ty41 rfl (.inr rfl) (by conv => lhs; whnf) rfl rfl rfl ?_
          refine s_lenL rfl sl41 rfl rfl rfl rfl ?_
          refine s_mv (.inl rfl) (by conv => lhs; whnf) rfl rfl rfl ?_
          refine s_of (st_eqI rfl rfl rfl) rfl rfl rfl rfl ?_
          refine s_mv (.inl rfl) (by conv => lhs; whnf) rfl rfl rfl ?_
          refine s_split (t := 66) rfl (fun b10 => ?_) (fun b10 => ?_)
          · replace h := cond_t h b10
            refine s_loadR rfl rfl rfl rfl ty43 rfl rfl rfl ?_
            refine bnd1_elim h fun x11 q12 h => ?_
            refine s_callN (kb := []) (ns := []) (v := .sc (.bool x11)) rfl rfl cl17 (wi_CacheOk x4 x11 q12) rfl (.cons (relAgg rfl) .nil) trivial memNil .nil memNil rfl trivial memNil rfl rfl rfl rfl rfl rfl ?_
            refine s_of (st_not rfl rfl) rfl rfl rfl rfl ?_
            refine s_mv (.inl rfl) (by conv => lhs; whnf) rfl rfl rfl ?_
            refine s_split (t := 70) rfl (fun b13 => ?_) (fun b13 => ?_)
            · replace h := cond_t h b13
              refine s_skip rfl rfl rfl ?_
              refine s_skip rfl rfl rfl ?_
              refine s_pickT rfl rfl (v := .sc (.bool true)) rfl rfl rfl rfl ?_
              refine s_pickT rfl rfl (by conv => lhs; whnf) rfl rfl rfl ?_
              refine s_mv (.inr rfl) (by conv => lhs; whnf) rfl rfl rfl ?_
              refine rt_nil ?_
              refine tri_ret ?_
              have e0 := (some1 h); subst e0
              exact endY [] [] (rvC (resTmp rfl) rvN) trivial trivial rfl rfl rfl rfl (.free rfl)
            · replace h := cond_f h b13
              refine s_loadR rfl rfl rfl rfl ty43 rfl rfl rfl ?_
              refine bnd1_elim h fun x14 q15 h => ?_
              refine s_callN (kb := []) (ns := []) (v := .sc (.bool x14)) rfl rfl cl17 (wi_CacheOk x7 x14 q15) rfl (.cons (relAgg rfl) .nil) trivial memNil .nil memNil rfl trivial memNil rfl rfl rfl rfl rfl rfl ?_
              refine s_pickF rfl rfl (by conv => lhs; whnf) rfl rfl rfl ?_
              refine s_pickT rfl rfl (by conv => lhs; whnf) rfl rfl rfl ?_
              refine s_mv (.inr rfl) (by conv => lhs; whnf) rfl rfl rfl ?_
              refine rt_nil ?_
              refine tri_ret ?_
              have e0 := (some1 h); subst e0
              exact endY [] [] (rvC (resTmp rfl) rvN) trivial trivial rfl rfl rfl rfl (.free rfl)
          · replace h := cond_f h b10
            refine s_skip rfl rfl rfl ?_
            refine s_skip rfl rfl rfl ?_
            refine s_skip rfl rfl rfl ?_
            refine s_skip rfl rfl rfl ?_
            refine s_skip rfl rfl rfl ?_
            refine s_skip rfl rfl rfl ?_
            refine s_skip rfl rfl rfl ?_
            refine s_pickF rfl rfl (v := .sc (.bool false)) rfl rfl rfl rfl ?_
            refine s_mv (.inr rfl) (by conv => lhs; whnf) rfl rfl rfl ?_
            refine rt_nil ?_
            refine tri_ret ?_
            have e0 := (some1 h); subst e0
            exact endY [] [] (rvC (resTmp rfl) rvN) trivial trivial rfl rfl rfl rfl (.free rfl)

end Go.Abs.M
