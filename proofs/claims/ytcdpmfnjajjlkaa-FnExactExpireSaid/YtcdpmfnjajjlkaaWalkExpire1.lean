/- Walks of the functions that the law of Expire reaches: what each of them computes, where its pure function does not fail. -/
import Derived.Test.YtcdpmfnjajjlkaaWalkExpire0
set_option linter.unusedSimpArgs false
set_option linter.unusedVariables false
namespace Go.Abs.M
open Go Go.Abs Go.Proofs
theorem cl10 : callable Try.prog 10 = true := by kernel_rfl
theorem cl11 : callable Try.prog 11 = true := by kernel_rfl
theorem cl14 : callable Try.prog 14 = true := by kernel_rfl
theorem cl20 : callable Try.prog 20 = true := by kernel_rfl
theorem cl21 : callable Try.prog 21 = true := by kernel_rfl
theorem cl25 : callable Try.prog 25 = true := by kernel_rfl
theorem cl35 : callable Try.prog 35 = true := by kernel_rfl
theorem cl8 : callable Try.prog 8 = true := by kernel_rfl
theorem cl9 : callable Try.prog 9 = true := by kernel_rfl
theorem ty31 : tyK Try.prog 31 = some (true, 2) := by kernel_rfl
/- laws.heldEntryS -/
def inv_w_heldEntryS_0 (p0 : List MEntry) (v0_0 : Int) (v0_1 : Nat) : St := mkT 70 [(0, .lst 6 (List.map mEntryV p0)), (1, .sc (.int .i64 v0_0)), (5, .sc (.int .i64 (v0_1 : Int)))] []
set_option maxRecDepth 4000 in
set_option maxHeartbeats 800000 in
theorem ww_heldEntryS (p0 : List MEntry) (p1 : Int) (r0 : Int) (h : w_heldEntryS p0 p1 = some r0) : Runs Try.prog 25 [.lst 6 (List.map mEntryV p0), .sc (.int .i64 p1)] [] (.sc (.int .i64 r0)) [] := by
  unfold w_heldEntryS at h
  refine runsR [.tmp 4] Try.func25 rfl rfl rfl rfl ?_
  rw [Try.ntmps25]
  refine tri_seq ?_
  refine tri_region ?_
  refine s_mv (.inr rfl) (v := .sc (.int .i64 0)) rfl rfl rfl rfl ?_
  refine rt_nil ?_
  refine tri_seq ?_
  refine tri_seq ?_
  refine tri_region ?_
  refine s_mv (.inr rfl) (v := .sc (.int .i64 0)) rfl rfl rfl rfl ?_
  refine rt_nil ?_
  refine tri_block ?_
  refine tri_lstM 0 rfl (fun hl0 => ?_)
  refine tri_loop (ι := { p : (List MEntry) × Int × Nat // p0.drop p.2.2 = p.1 ∧ w_heldEntryS_l0 p.1 p.2.1 p.2.2 = some r0 }) (fun p => inv_w_heldEntryS_0 p0 p.1.2.1 p.1.2.2) (fun p => p.1.1.length) ⟨(p0, p1, 0), rfl, h⟩ ?_ ?_
  · skip
    refine entX [] [] trivial trivial rfl rfl ?_
    exact ⟨(.free rfl), (.free rfl), (.free rfl), trivial⟩
  · rintro ⟨⟨lrs0, v0_0, v0_1⟩, hd0, h⟩
    replace hd0 : p0.drop v0_1 = lrs0 := hd0
    replace h : w_heldEntryS_l0 lrs0 v0_0 v0_1 = some r0 := h
    show Tri _ _ _ (inv_w_heldEntryS_0 p0 v0_0 v0_1)
    refine tri_seq ?_
    refine tri_seq ?_
    refine tri_region ?_
    refine s_mv (.inl rfl) (by conv => lhs; whnf) rfl rfl rfl ?_
    refine s_mv (.inl rfl) (by conv => lhs; whnf) rfl rfl rfl ?_
    refine s_lenL rfl sl22 rfl rfl rfl rfl ?_
    refine s_of (st_lss rfl rfl rfl) rfl rfl rfl rfl ?_
    refine rt_nil ?_
    refine tri_cond rfl (fun c1 => ?_) (fun c1 => ?_)
    · refine drop_elim hd0 c1 fun e0 rs0 he hx0 hn0 => ?_
      subst he
      rw [w_heldEntryS_l0] at h
      refine tri_skip ?_
      refine tri_seq ?_
      refine tri_block ?_
      refine tri_seq ?_
      refine tri_seq ?_
      refine tri_draw mixed ?_
      refine s_mv (.inl rfl) (by conv => lhs; whnf) rfl rfl rfl ?_
      refine s_mv (.inl rfl) (by conv => lhs; whnf) rfl rfl rfl ?_
      refine s_indexF (i := v0_1) rfl rfl rfl sl22 (get_ltM hx0) rfl rfl rfl ?_
      refine s_fieldAddrF rfl rfl fd39_0 rfl rfl rfl rfl ?_
      refine s_fieldAddrF rfl rfl fd36_0 rfl rfl rfl rfl ?_
      refine s_loadF rfl rfl (rowG hx0) ty9 rfl (.inr rfl) (by conv => lhs; whnf) rfl rfl rfl ?_
      refine s_mv (.inl rfl) (by conv => lhs; whnf) rfl rfl rfl ?_
      refine bnd1_elim h fun x2 q3 h => ?_
      refine s_callN (kb := []) (ns := []) (v := .sc (.string x2)) rfl rfl cl39 (ww_markText v0_0 x2 q3) rfl (.cons (.free rfl) .nil) trivial memNil .nil memNil rfl trivial memNil rfl rfl rfl rfl rfl rfl ?_
      refine s_of (st_neS rfl rfl rfl) rfl rfl rfl rfl ?_
      refine rt_nil ⟨by kernel_rfl, ?_⟩
      refine tri_cond rfl (fun c4 => ?_) (fun c4 => ?_)
      · replace h := cond_t h c4
        refine tri_seq ?_
        refine tri_region ?_
        refine s_mv (.inr rfl) (v := .sc (.int .i64 (-1))) rfl rfl rfl rfl ?_
        refine rt_nil ?_
        refine tri_ret ?_
        have e0 := (some1 h); subst e0
        exact endY [] [] (rvC (resTmp rfl) rvN) trivial trivial rfl rfl rfl rfl (.free rfl)
      · replace h := cond_f h c4
        refine tri_skip ?_
        refine tri_seq ?_
        refine tri_region ?_
        refine s_mv (.inl rfl) (by conv => lhs; whnf) rfl rfl rfl ?_
        refine grd_elim h fun g5 h => ?_
        refine s_addI rfl rfl rfl rfl g5 rfl rfl rfl ?_
        refine s_mv (.inr rfl) (by conv => lhs; whnf) rfl rfl rfl ?_
        refine rt_nil ?_
        refine tri_seq ?_
        refine tri_seq ?_
        refine tri_region ?_
        refine s_mv (.inl rfl) (by conv => lhs; whnf) rfl rfl rfl ?_
        refine s_mv (.inl rfl) (by conv => lhs; whnf) rfl rfl rfl ?_
        refine s_indexF (i := v0_1) rfl rfl rfl sl22 (get_ltM hx0) rfl rfl rfl ?_
        refine s_fieldAddrF rfl rfl fd39_0 rfl rfl rfl rfl ?_
        refine s_fieldAddrF rfl rfl fd36_1 rfl rfl rfl rfl ?_
        refine s_loadF rfl rfl (rowG hx0) ty3 rfl (.inr rfl) (by conv => lhs; whnf) rfl rfl rfl ?_
        refine s_mv (.inl rfl) (by conv => lhs; whnf) rfl rfl rfl ?_
        refine s_of (st_neI rfl rfl rfl) rfl rfl rfl rfl ?_
        refine rt_nil ?_
        refine tri_cond rfl (fun c6 => ?_) (fun c6 => ?_)
        · replace h := cond_t h c6
          refine tri_seq ?_
          refine tri_region ?_
          refine s_mv (.inr rfl) (v := .sc (.int .i64 (-1))) rfl rfl rfl rfl ?_
          refine rt_nil ?_
          refine tri_ret ?_
          have e0 := (some1 h); subst e0
          exact endY [] [] (rvC (resTmp rfl) rvN) trivial trivial rfl rfl rfl rfl (.free rfl)
        · replace h := cond_f h c6
          refine tri_skip ?_
          refine tri_seq ?_
          refine tri_region ?_
          refine s_mv (.inl rfl) (by conv => lhs; whnf) rfl rfl rfl ?_
          refine grd_elim h fun g7 h => ?_
          refine s_addI rfl rfl rfl rfl g7 rfl rfl rfl ?_
          refine s_mv (.inr rfl) (by conv => lhs; whnf) rfl rfl rfl ?_
          refine rt_nil ?_
          refine tri_seq ?_
          refine tri_seq ?_
          refine tri_region ?_
          refine s_mv (.inl rfl) (by conv => lhs; whnf) rfl rfl rfl ?_
          refine s_mv (.inl rfl) (by conv => lhs; whnf) rfl rfl rfl ?_
          refine s_indexF (i := v0_1) rfl rfl rfl sl22 (get_ltM hx0) rfl rfl rfl ?_
          refine s_fieldAddrF rfl rfl fd39_1 rfl rfl rfl rfl ?_
          refine s_loadF rfl rfl (rowG hx0) ty3 rfl (.inr rfl) (by conv => lhs; whnf) rfl rfl rfl ?_
          refine s_mv (.inl rfl) (by conv => lhs; whnf) rfl rfl rfl ?_
          refine s_of (st_neI rfl rfl rfl) rfl rfl rfl rfl ?_
          refine rt_nil ?_
          refine tri_cond rfl (fun c8 => ?_) (fun c8 => ?_)
          · replace h := cond_t h c8
            refine tri_seq ?_
            refine tri_region ?_
            refine s_mv (.inr rfl) (v := .sc (.int .i64 (-1))) rfl rfl rfl rfl ?_
            refine rt_nil ?_
            refine tri_ret ?_
            have e0 := (some1 h); subst e0
            exact endY [] [] (rvC (resTmp rfl) rvN) trivial trivial rfl rfl rfl rfl (.free rfl)
          · replace h := cond_f h c8
            refine tri_skip ?_
            refine tri_seq ?_
            refine tri_region ?_
            refine s_mv (.inl rfl) (by conv => lhs; whnf) rfl rfl rfl ?_
            refine grd_elim h fun g9 h => ?_
            refine s_addI rfl rfl rfl rfl g9 rfl rfl rfl ?_
            refine s_mv (.inr rfl) (by conv => lhs; whnf) rfl rfl rfl ?_
            refine rt_nil ?_
            refine tri_seq ?_
            refine tri_region ?_
            refine s_mv (.inl rfl) (by conv => lhs; whnf) rfl rfl rfl ?_
            refine s_mv (.inl rfl) (by conv => lhs; whnf) rfl rfl rfl ?_
            refine s_indexF (i := v0_1) rfl rfl rfl sl22 (get_ltM hx0) rfl rfl rfl ?_
            refine s_fieldAddrF rfl rfl fd39_2 rfl rfl rfl rfl ?_
            refine s_loadF rfl rfl (rowG hx0) ty37 rfl (.inr rfl) (by conv => lhs; whnf) rfl rfl rfl ?_
            refine s_mv (.inl rfl) (by conv => lhs; whnf) rfl rfl rfl ?_
            refine bnd1_elim h fun x10 q11 h => ?_
            refine s_callN (kb := []) (ns := []) (v := .sc (.int .i64 x10)) rfl rfl cl35 (ww_heldRecordS e0.l (((v0_0 + 1) + 1) + 1) x10 q11) rfl (.cons (.free rfl) (.cons (.free rfl) .nil)) trivial memNil .nil memNil rfl trivial memNil rfl rfl rfl rfl rfl rfl ?_
            refine s_mv (.inr rfl) (by conv => lhs; whnf) rfl rfl rfl ?_
            refine rt_nil ?_
            refine tri_seq ?_
            refine tri_seq ?_
            refine tri_region ?_
            refine s_mv (.inl rfl) (by conv => lhs; whnf) rfl rfl rfl ?_
            refine s_of (st_lss rfl rfl rfl) rfl rfl rfl rfl ?_
            refine rt_nil ?_
            refine tri_cond rfl (fun c12 => ?_) (fun c12 => ?_)
            · replace h := cond_t h c12
              refine tri_seq ?_
              refine tri_region ?_
              refine s_mv (.inr rfl) (v := .sc (.int .i64 (-1))) rfl rfl rfl rfl ?_
              refine rt_nil ?_
              refine tri_ret ?_
              have e0 := (some1 h); subst e0
              exact endY [] [] (rvC (resTmp rfl) rvN) trivial trivial rfl rfl rfl rfl (.free rfl)
            · replace h := cond_f h c12
              refine tri_skip ?_
              refine tri_seq ?_
              refine tri_seq ?_
              refine tri_region ?_
              refine s_mv (.inl rfl) (by conv => lhs; whnf) rfl rfl rfl ?_
              refine s_mv (.inl rfl) (by conv => lhs; whnf) rfl rfl rfl ?_
              refine s_indexF (i := v0_1) rfl rfl rfl sl22 (get_ltM hx0) rfl rfl rfl ?_
              refine s_fieldAddrF rfl rfl fd39_3 rfl rfl rfl rfl ?_
              refine s_loadF rfl rfl (rowG hx0) ty3 rfl (.inr rfl) (by conv => lhs; whnf) rfl rfl rfl ?_
              refine s_mv (.inl rfl) (by conv => lhs; whnf) rfl rfl rfl ?_
              refine s_of (st_neI rfl rfl rfl) rfl rfl rfl rfl ?_
              refine rt_nil ?_
              refine tri_cond rfl (fun c13 => ?_) (fun c13 => ?_)
              · replace h := cond_t h c13
                refine tri_seq ?_
                refine tri_region ?_
                refine s_mv (.inr rfl) (v := .sc (.int .i64 (-1))) rfl rfl rfl rfl ?_
                refine rt_nil ?_
                refine tri_ret ?_
                have e0 := (some1 h); subst e0
                exact endY [] [] (rvC (resTmp rfl) rvN) trivial trivial rfl rfl rfl rfl (.free rfl)
              · replace h := cond_f h c13
                refine tri_skip ?_
                refine tri_seq ?_
                refine tri_region ?_
                refine s_mv (.inl rfl) (by conv => lhs; whnf) rfl rfl rfl ?_
                refine grd_elim h fun g14 h => ?_
                refine s_addI rfl rfl rfl rfl g14 rfl rfl rfl ?_
                refine s_mv (.inr rfl) (by conv => lhs; whnf) rfl rfl rfl ?_
                refine rt_nil ?_
                refine tri_seq ?_
                refine tri_seq ?_
                refine tri_region ?_
                refine s_mv (.inl rfl) (by conv => lhs; whnf) rfl rfl rfl ?_
                refine s_mv (.inl rfl) (by conv => lhs; whnf) rfl rfl rfl ?_
                refine s_indexF (i := v0_1) rfl rfl rfl sl22 (get_ltM hx0) rfl rfl rfl ?_
                refine s_fieldAddrF rfl rfl fd39_4 rfl rfl rfl rfl ?_
                refine s_loadF rfl rfl (rowG hx0) ty3 rfl (.inr rfl) (by conv => lhs; whnf) rfl rfl rfl ?_
                refine s_mv (.inl rfl) (by conv => lhs; whnf) rfl rfl rfl ?_
                refine s_of (st_neI rfl rfl rfl) rfl rfl rfl rfl ?_
                refine rt_nil ?_
                refine tri_cond rfl (fun c15 => ?_) (fun c15 => ?_)
                · replace h := cond_t h c15
                  refine tri_seq ?_
                  refine tri_region ?_
                  refine s_mv (.inr rfl) (v := .sc (.int .i64 (-1))) rfl rfl rfl rfl ?_
                  refine rt_nil ?_
                  refine tri_ret ?_
                  have e0 := (some1 h); subst e0
                  exact endY [] [] (rvC (resTmp rfl) rvN) trivial trivial rfl rfl rfl rfl (.free rfl)
                · replace h := cond_f h c15
                  refine tri_skip ?_
                  refine tri_region ?_
                  refine s_mv (.inl rfl) (by conv => lhs; whnf) rfl rfl rfl ?_
                  refine grd_elim h fun g16 h => ?_
                  refine s_addI rfl rfl rfl rfl g16 rfl rfl rfl ?_
                  refine s_mv (.inr rfl) (by conv => lhs; whnf) rfl rfl rfl ?_
                  refine rt_nil ?_
                  refine tri_region ?_
                  refine s_mv (.inl rfl) (by conv => lhs; whnf) rfl rfl rfl ?_
                  refine s_inc (a := v0_1) (b := 1) rfl rfl rfl rfl (by have := get_lt hx0; have := hl0; omega) rfl rfl rfl ?_
                  refine s_mv (.inr rfl) (by conv => lhs; whnf) rfl rfl rfl ?_
                  refine rt_nil ?_
                  refine Exists.intro ⟨(rs0, (x10 + 1) + 1, (v0_1 + 1)), hn0, h⟩ (And.intro (Nat.lt_succ_self _) ?_)
                  refine entX [] [] trivial trivial rfl rfl ?_
                  exact ⟨(.free rfl), (.free rfl), (.free rfl), trivial⟩
    · have he := drop_f hd0 c1; subst he
      rw [w_heldEntryS_l0] at h
      refine tri_exit ?_
      refine tri_seq ?_
      refine tri_region ?_
      refine s_mv (.inl rfl) (by conv => lhs; whnf) rfl rfl rfl ?_
      refine s_mv (.inr rfl) (by conv => lhs; whnf) rfl rfl rfl ?_
      refine rt_nil ?_
      refine tri_ret ?_
      have e0 := (some1 h); subst e0
      exact endY [] [] (rvC (resTmp rfl) rvN) trivial trivial rfl rfl rfl rfl (.free rfl)

/- laws.heldCache -/

set_option maxRecDepth 4000 in
set_option maxHeartbeats 800000 in
theorem ww_heldCache (p0 : MCache) (p1 : Int) (r0 : Int) (h : w_heldCache p0 p1 = some r0) : Runs Try.prog 10 [.agg (mCacheV p0), .sc (.int .i64 p1)] [] (.sc (.int .i64 r0)) [] := by
  unfold w_heldCache at h
  refine runsR [.tmp 4] Try.func10 rfl rfl rfl rfl ?_
  rw [Try.ntmps10]
  refine tri_seq ?_
  refine tri_region ?_
  refine s_box rfl rfl rfl rfl rfl rfl rfl ?_
  refine s_mv (.inr rfl) (v := .sc (.int .i64 0)) rfl rfl rfl rfl ?_
  refine rt_nil ?_
  refine tri_seq ?_
  refine tri_region ?_
  refine s_fieldAddr rfl rfl fd24_1 rfl rfl rfl rfl ?_
  refine s_load rfl rfl rfl rfl ty22 rfl (.inr rfl) (by conv => lhs; whnf) rfl rfl rfl ?_
  refine s_mv (.inl rfl) (by conv => lhs; whnf) rfl rfl rfl ?_
  refine bnd1_elim h fun x1 q2 h => ?_
  refine s_callN (kb := []) (ns := []) (v := .sc (.int .i64 x1)) rfl rfl cl25 (ww_heldEntryS p0.l p1 x1 q2) rfl (.cons (.free rfl) (.cons (.free rfl) .nil)) trivial memNil .nil memNil rfl trivial memNil rfl rfl rfl rfl rfl rfl ?_
  refine s_mv (.inr rfl) (by conv => lhs; whnf) rfl rfl rfl ?_
  refine rt_nil ?_
  refine tri_seq ?_
  refine tri_seq ?_
  refine tri_region ?_
  refine s_mv (.inl rfl) (by conv => lhs; whnf) rfl rfl rfl ?_
  refine s_of (st_lss rfl rfl rfl) rfl rfl rfl rfl ?_
  refine rt_nil ?_
  refine tri_cond rfl (fun c3 => ?_) (fun c3 => ?_)
  · replace h := cond_t h c3
    refine tri_seq ?_
    refine tri_region ?_
    refine s_mv (.inr rfl) (v := .sc (.int .i64 (-1))) rfl rfl rfl rfl ?_
    refine rt_nil ?_
    refine tri_ret ?_
    have e0 := (some1 h); subst e0
    exact endY [] [] (rvC (resTmp rfl) rvN) trivial trivial rfl rfl rfl rfl (.free rfl)
  · replace h := cond_f h c3
    refine tri_skip ?_
    refine tri_seq ?_
    refine tri_region ?_
    refine s_mv (.inl rfl) (by conv => lhs; whnf) rfl rfl rfl ?_
    refine s_mv (.inr rfl) (by conv => lhs; whnf) rfl rfl rfl ?_
    refine rt_nil ?_
    refine tri_ret ?_
    have e0 := (some1 h); subst e0
    exact endY [] [] (rvC (resTmp rfl) rvN) trivial trivial rfl rfl rfl rfl (.free rfl)

/- laws.FnExactExpire -/
def inv_w_FnExactExpire_0 (p0 : MCache) (p1 : Int) (x6 : MCache) (x10 : MCache) (j0_0 : Bool) : St := mkT 74 [(1, .sc (.int .i64 p1)), (2, .ptr (2, 0) 0 0), (6, .ptr (6, 0) 0 0), (8, .ptr (8, 0) 0 0), (46, .sc (.bool j0_0))] ([((2, 0), some ⟨31, 2, [[.sc (.int .i64 p0.cap), .lst 6 (List.map mEntryV p0.l)]], false, true⟩), ((6, 0), some ⟨24, 2, [[.sc (.int .i64 x6.cap), .ref (21, 1) 0 x6.l.length]], false, true⟩), ((21, 1), some ⟨39, 6, List.map mEntryV x6.l, false, true⟩), ((8, 0), some ⟨24, 2, [[.sc (.int .i64 x10.cap), .ref (26, 1) 0 x10.l.length]], false, true⟩), ((26, 1), some ⟨39, 6, nr 26 mEntryN 10000 x10.l, false, true⟩)] ++ (fam 26 10000 (List.map mEntryG x10.l) ++ []))
set_option maxRecDepth 4000 in
set_option maxHeartbeats 800000 in
theorem ww_FnExactExpire (p0 : MCache) (p1 : Int) (r0 : Bool) (h : w_FnExactExpire p0 p1 = some r0) : Runs Try.prog 5 [.agg (mCacheV p0), .sc (.int .i64 p1)] [] (.sc (.bool r0)) [] := by
  unfold w_FnExactExpire at h
  refine runsR [.tmp 4] Try.func5 rfl rfl rfl rfl ?_
  rw [Try.ntmps5]
  refine tri_seq ?_
  refine tri_region ?_
  refine s_box rfl rfl rfl rfl rfl rfl rfl ?_
  refine s_mv (.inr rfl) (v := .sc (.bool false)) rfl rfl rfl rfl ?_
  refine rt_nil ?_
  refine tri_seq ?_
  refine tri_region ?_
  refine s_mv (.inr rfl) (v := .sc (.int .i64 1048576)) rfl rfl rfl rfl ?_
  refine rt_nil ?_
  refine tri_seq ?_
  refine tri_region ?_
  refine s_loadR rfl rfl rfl rfl ty31 rfl rfl rfl ?_
  refine s_mv (.inl rfl) (by conv => lhs; whnf) rfl rfl rfl ?_
  refine bnd1_elim h fun x1 q2 h => ?_
  refine s_callN (kb := []) (ns := []) (v := .sc (.int .i64 x1)) rfl rfl cl11 (ww_szCache p0 1048576 x1 q2) rfl (.cons (relAgg rfl) (.cons (.free rfl) .nil)) trivial memNil .nil memNil rfl trivial memNil rfl rfl rfl rfl rfl rfl ?_
  refine s_mv (.inr rfl) (by conv => lhs; whnf) rfl rfl rfl ?_
  refine rt_nil ?_
  refine tri_seq ?_
  refine tri_seq ?_
  refine tri_region ?_
  refine s_mv (.inl rfl) (by conv => lhs; whnf) rfl rfl rfl ?_
  refine s_of (st_lss rfl rfl rfl) rfl rfl rfl rfl ?_
  refine rt_nil ?_
  refine tri_cond rfl (fun c3 => ?_) (fun c3 => ?_)
  · replace h := cond_t h c3
    refine tri_seq ?_
    refine tri_region ?_
    refine s_mv (.inr rfl) (v := .sc (.bool true)) rfl rfl rfl rfl ?_
    refine rt_nil ?_
    refine tri_ret ?_
    have e0 := (some1 h); subst e0
    exact endY [] [] (rvC (resTmp rfl) rvN) trivial trivial rfl rfl rfl rfl (.free rfl)
  · replace h := cond_f h c3
    refine tri_skip ?_
    refine tri_seq ?_
    refine tri_region ?_
    refine s_loadR rfl rfl rfl rfl ty31 rfl rfl rfl ?_
    refine bnd1_elim h fun x4 q5 h => ?_
    refine s_callZ (kb := []) (ns := []) (v := .agg [.sc (.int .i64 x4.cap), .ref (19, 1) 0 x4.l.length]) rfl rfl cl14 (ww_toCache p0 x4 q5) rfl (.cons (relAgg rfl) .nil) trivial memNil .nil memNil trivial rfl ⟨(allFree_map mEntryV_free), trivial⟩ memNil rfl (by first | (simp only [V.mat, V.mat1, V.mat0, matL, matT, List.length_map]; done) | (simp only [V.mat, V.mat1, V.mat0, matL, matT, List.length_map]; rfl)) rfl rfl rfl rfl ?_
    refine s_mv (.inl rfl) (by conv => lhs; whnf) rfl rfl rfl ?_
    refine bnd1_elim h fun x6 q7 h => ?_
    refine s_callZ (kb := [(19, 1)]) (ns := []) (v := .agg [.sc (.int .i64 x6.cap), .ref (21, 1) 0 x6.l.length]) rfl rfl cl20 (ws_Expire x4 p1 x6 q7) rfl (.cons (relAggL (.cons (.free rfl) (.cons (lendL rfl (.head _) rfl mEntryV_free mEntryV_len) .nil))) (.cons (.free rfl) .nil)) trivial memNil .nil (fun _ _ => List.not_mem_nil) ⟨⟨_, rfl, rfl⟩, trivial⟩ rfl ⟨(allFree_map mEntryV_free), trivial⟩ memNil rfl (by first | (simp only [V.mat, V.mat1, V.mat0, matL, matT, List.length_map]; done) | (simp only [V.mat, V.mat1, V.mat0, matL, matT, List.length_map]; rfl)) rfl rfl rfl rfl ?_
    refine s_alloc rfl rfl rfl zc24 rfl rfl rfl rfl rfl ?_
    refine s_storeB rfl rfl rfl ty24 rfl rfl rfl rfl rfl ?_
    refine rt_nil ?_
    refine tri_seq ?_
    refine tri_region ?_
    refine s_loadR rfl rfl rfl rfl ty31 rfl rfl rfl ?_
    refine bnd1_elim h fun x8 q9 h => ?_
    refine s_callRt (kb := []) (os' := [(1, ⟨39, 6, nr 23 mEntryN 10000 x8.l, false, true⟩)]) (y := .agg [.sc (.int .i64 x8.cap), .ref (23, 1) 0 x8.l.length]) rfl rfl cl14 (wRw_toCache p0 x8 q9) rfl (.cons (relAgg rfl) .nil) (.cons (outRows mEntryN_z (fun i x hx => (.cons retSc (.cons retSc (.cons retSc (.cons (.own (owns_at (by rw [List.length_map]; exact (List.getElem?_eq_some_iff.1 hx).1))) (.cons retSc (.cons retSc .nil)))))))) id .nil) (fun x => allSc_map recV_sc) mEntryG_z (RetL.agg (.cons retSc (.cons (.own rfl) .nil))) (fun q E h => by simp only [List.mem_cons, List.not_mem_nil, or_false, Prod.mk.injEq] at h; rcases h with ⟨rfl, -⟩ <;> exact rfl) (fun i => rfl) rfl rfl rfl ?_
    refine s_alloc rfl rfl (by repeat (first | exact rfl | exact famNo rfl rfl | refine lkNo rfl ?_ | refine famNo rfl ?_)) zc24 rfl rfl rfl rfl rfl ?_
    refine s_storeB rfl rfl rfl ty24 rfl rfl rfl rfl rfl ?_
    refine rt_nil ?_
    refine tri_seq ?_
    refine Tri.ent (st' := mkT 74 [(1, .sc (.int .i64 p1)), (2, .ptr (2, 0) 0 0), (6, .ptr (6, 0) 0 0), (7, .ptr (7, 0) 0 0)] ([((2, 0), some ⟨31, 2, [[.sc (.int .i64 p0.cap), .lst 6 (List.map mEntryV p0.l)]], false, true⟩), ((6, 0), some ⟨24, 2, [[.sc (.int .i64 x6.cap), .ref (21, 1) 0 x6.l.length]], false, true⟩), ((21, 1), some ⟨39, 6, List.map mEntryV x6.l, false, true⟩), ((7, 0), some ⟨24, 2, [[.sc (.int .i64 x8.cap), .ref (23, 1) 0 x8.l.length]], false, true⟩), ((23, 1), some ⟨39, 6, nr 23 mEntryN 10000 x8.l, false, true⟩)] ++ (fam 23 10000 (List.map mEntryG x8.l) ++ []))) ?_ ?_
    · skip
      refine entK (items := [((2, 0), ⟨31, 2, [[.sc (.int .i64 p0.cap), .lst 6 (List.map mEntryV p0.l)]], false, true⟩, some (2, 0)), ((6, 0), ⟨24, 2, [[.sc (.int .i64 x6.cap), .ref (21, 1) 0 x6.l.length]], false, true⟩, some (6, 0)), ((21, 1), ⟨39, 6, List.map mEntryV x6.l, false, true⟩, some (21, 1)), ((7, 0), ⟨24, 2, [[.sc (.int .i64 x8.cap), .ref (23, 1) 0 x8.l.length]], false, true⟩, some (7, 0)), ((23, 1), ⟨39, 6, nr 23 mEntryN 10000 x8.l, false, true⟩, some (23, 1))]) (D := []) (a := 23) (b := 10000) (l := x8.l) (g := mEntryG) ⟨⟨rfl, _, rfl, rfl, rfl, rfl, id, rowsCv_one (.cons (.free rfl) (.cons (.free rfl) .nil)), rowsZ_one rfl⟩, ⟨rfl, _, rfl, rfl, rfl, rfl, id, rowsCv_one (.cons (.free rfl) (.cons (.ref rfl) .nil)), rowsZ_one rfl⟩, ⟨rfl, _, rfl, rfl, rfl, rfl, id, rowsCv_eq rfl (allFree_map mEntryV_free), rowsZ_map mEntryV_len⟩, ⟨rfl, _, rfl, rfl, rfl, rfl, id, rowsCv_one (.cons (.free rfl) (.cons (.ref rfl) .nil)), rowsZ_one rfl⟩, ⟨rfl, _, rfl, rfl, rfl, rfl, id, rowsCv_fam (fun x h => mEntryN_cv x h), nr_rowsZ mEntryN_z⟩, trivial⟩ trivial rfl rfl rfl rfl (fun j y hy => (by repeat (first | exact fam_lk (by rw [List.getElem?_map, hy]; rfl) | refine lkTo rfl ?_ | refine famTo rfl ?_))) mEntryG_f mEntryG_z (fun j => (by repeat (first | exact rfl | exact famNo rfl rfl | refine lkNo rfl ?_ | refine famNo rfl ?_))) ?_
      exact ⟨(.free rfl), (.ptr rfl), (.ptr rfl), (.ptr rfl), trivial⟩
    refine tri_region ?_
    refine s_loadR rfl rfl rfl rfl ty24 rfl rfl rfl ?_
    refine s_mv (.inl rfl) (by conv => lhs; whnf) rfl rfl rfl ?_
    refine bnd1_elim h fun x10 q11 h => ?_
    refine s_callRt2 (A := [_, _, _, _, _]) (a0 := 23) (b0 := 10000) (Es := List.map mEntryG x8.l) (kb := [(23, 1)] ++ famN 23 10000 x8.l.length) (os' := [(1, ⟨39, 6, nr 26 mEntryN 10000 x10.l, false, true⟩)]) (y := .agg [.sc (.int .i64 x10.cap), .ref (26, 1) 0 x10.l.length]) rfl rfl rfl cl21 (wRi_Expire x8 p1 x10 q11) rfl (.cons (relAggL (.cons (.free rfl) (.cons (lendN (a := 23) (b := 10000) (f := mEntryN) (g := mEntryG) rfl (List.mem_append_left _ (.head _)) rfl (fun i x hx => ⟨List.mem_append_right _ (famN_iff.2 ⟨i, (List.getElem?_eq_some_iff.1 hx).1, rfl⟩), (by repeat (first | exact fam_lk (by rw [List.getElem?_map, hx]; rfl) | refine lkTo rfl ?_ | refine famTo rfl ?_))⟩) (fun m x hm hl => (.cons (.free rfl) (.cons (.free rfl) (.cons (.free rfl) (.cons (lendL hl hm rfl recV_free recV_len) (.cons (.free rfl) (.cons (.free rfl) .nil))))))) mEntryV_free mEntryV_len) .nil))) (.cons (.free rfl) .nil)) (.cons (outRows mEntryN_z (fun i x hx => (.cons retSc (.cons retSc (.cons retSc (.cons (.own (owns_at (by rw [List.length_map]; exact (List.getElem?_eq_some_iff.1 hx).1))) (.cons retSc (.cons retSc .nil)))))))) id .nil) (fun x => allSc_map recV_sc) mEntryG_z (RetL.agg (.cons retSc (.cons (.own rfl) .nil))) (fun q E h => by simp only [List.mem_cons, List.not_mem_nil, or_false, Prod.mk.injEq] at h; rcases h with ⟨rfl, -⟩ <;> exact (by repeat (first | exact rfl | exact famNo rfl rfl | refine lkNo rfl ?_ | refine famNo rfl ?_))) (fun i => (by repeat (first | exact rfl | exact famNo rfl rfl | refine lkNo rfl ?_ | refine famNo rfl ?_))) rfl rfl rfl ?_
    refine s_alloc rfl rfl (by repeat (first | exact rfl | exact famNo rfl rfl | refine lkNo rfl ?_ | refine famNo rfl ?_)) zc24 rfl rfl rfl rfl rfl ?_
    refine s_storeB rfl rfl rfl ty24 rfl rfl rfl rfl rfl ?_
    refine rt_nil ?_
    refine tri_seq ?_
    refine tri_seq ?_
    refine tri_region ?_
    refine s_loadR rfl rfl rfl rfl ty24 rfl rfl rfl ?_
    refine s_loadR rfl rfl rfl rfl ty24 rfl rfl rfl ?_
    refine bnd1_elim h fun x12 q13 h => ?_
    refine s_callN (kb := [(26, 1), (21, 1)] ++ famN 26 10000 x10.l.length) (ns := []) (v := .sc (.bool x12)) rfl rfl cl8 (ww_eqCache x10 x6 x12 q13) rfl (.cons (relAggL (.cons (.free rfl) (.cons (lendN (a := 26) (b := 10000) (f := mEntryN) (g := mEntryG) rfl (List.mem_append_left _ (.head _)) rfl (fun i x hx => ⟨List.mem_append_right _ (famN_iff.2 ⟨i, (List.getElem?_eq_some_iff.1 hx).1, rfl⟩), (by repeat (first | exact fam_lk (by rw [List.getElem?_map, hx]; rfl) | refine lkTo rfl ?_ | refine famTo rfl ?_))⟩) (fun m x hm hl => (.cons (.free rfl) (.cons (.free rfl) (.cons (.free rfl) (.cons (lendL hl hm rfl recV_free recV_len) (.cons (.free rfl) (.cons (.free rfl) .nil))))))) mEntryV_free mEntryV_len) .nil))) (.cons (relAggL (.cons (.free rfl) (.cons (lendL rfl (List.mem_append_left _ (.tail _ (.head _))) rfl mEntryV_free mEntryV_len) .nil))) .nil)) trivial memNil .nil (fun _ _ => List.not_mem_nil) rfl trivial memNil rfl rfl rfl rfl rfl rfl ?_
    refine s_of (st_not rfl rfl) rfl rfl rfl rfl ?_
    refine rt_nil ?_
    refine tri_cond rfl (fun c14 => ?_) (fun c14 => ?_)
    · replace h := cond_t h c14
      refine tri_seq ?_
      refine tri_region ?_
      refine s_mv (.inr rfl) (v := .sc (.bool false)) rfl rfl rfl rfl ?_
      refine rt_nil ?_
      refine tri_ret ?_
      have e0 := (some1 h); subst e0
      exact endY [] [] (rvC (resTmp rfl) rvN) trivial trivial rfl (by repeat (first | exact itb_nil | refine itb_cons rfl ?_ | refine itb_fam rfl ?_)) rfl rfl (.free rfl)
    · replace h := cond_f h c14
      refine tri_skip ?_
      refine tri_seq ?_
      refine tri_seq ?_
      refine tri_draw mixed ?_
      refine s_loadR rfl rfl rfl rfl ty24 rfl rfl rfl ?_
      refine s_loadR rfl rfl rfl rfl ty31 rfl rfl rfl ?_
      refine bnd1_elim h fun x15 q16 h => ?_
      refine s_callZ (kb := []) (ns := []) (v := .agg [.sc (.int .i64 x15.cap), .ref (33, 1) 0 x15.l.length]) rfl rfl cl14 (ww_toCache p0 x15 q16) rfl (.cons (relAgg rfl) .nil) trivial memNil .nil memNil trivial rfl ⟨(allFree_map mEntryV_free), trivial⟩ memNil (habC (by repeat (first | exact rfl | exact famNo rfl rfl | refine lkNo rfl ?_ | refine famNo rfl ?_)) habN) (by first | (simp only [V.mat, V.mat1, V.mat0, matL, matT, List.length_map]; done) | (simp only [V.mat, V.mat1, V.mat0, matL, matT, List.length_map]; rfl)) rfl rfl rfl rfl ?_
      refine bnd1_elim h fun x17 q18 h => ?_
      refine s_callN (kb := [(23, 1), (33, 1)] ++ famN 23 10000 x8.l.length) (ns := []) (v := .sc (.bool x17)) rfl rfl cl8 (ww_eqCache x8 x15 x17 q18) rfl (.cons (relAggL (.cons (.free rfl) (.cons (lendN (a := 23) (b := 10000) (f := mEntryN) (g := mEntryG) rfl (List.mem_append_left _ (.head _)) rfl (fun i x hx => ⟨List.mem_append_right _ (famN_iff.2 ⟨i, (List.getElem?_eq_some_iff.1 hx).1, rfl⟩), (by repeat (first | exact fam_lk (by rw [List.getElem?_map, hx]; rfl) | refine lkTo rfl ?_ | refine famTo rfl ?_))⟩) (fun m x hm hl => (.cons (.free rfl) (.cons (.free rfl) (.cons (.free rfl) (.cons (lendL hl hm rfl recV_free recV_len) (.cons (.free rfl) (.cons (.free rfl) .nil))))))) mEntryV_free mEntryV_len) .nil))) (.cons (relAggL (.cons (.free rfl) (.cons (lendL rfl (List.mem_append_left _ (.tail _ (.head _))) rfl mEntryV_free mEntryV_len) .nil))) .nil)) trivial memNil .nil (fun _ _ => List.not_mem_nil) rfl trivial memNil rfl rfl rfl rfl rfl rfl ?_
      refine s_of (st_not rfl rfl) rfl rfl rfl rfl ?_
      refine rt_nil ⟨drawCov (W := [23]) (by kernel_rfl) (covS rfl (covS rfl (covS rfl (covM (rs' := [(23, 1), (33, 1)]) rfl (fun m hm => cov_fam (rs := [(23, 1), (33, 1)]) (a := 23) (b := 10000) (k := x8.l.length) (by decide) (.head _) m hm) (covS rfl .nil))))), ?_⟩
      refine tri_cond rfl (fun c19 => ?_) (fun c19 => ?_)
      · replace h := cond_t h c19
        refine tri_seq ?_
        refine tri_region ?_
        refine s_mv (.inr rfl) (v := .sc (.bool false)) rfl rfl rfl rfl ?_
        refine rt_nil ?_
        refine tri_ret ?_
        have e0 := (some1 h); subst e0
        exact endY [] [] (rvC (resTmp rfl) rvN) trivial trivial rfl (by repeat (first | exact itb_nil | refine itb_cons rfl ?_ | refine itb_fam rfl ?_)) rfl rfl (.free rfl)
      · replace h := cond_f h c19
        refine tri_skip ?_
        refine tri_seq ?_
        refine tri_region ?_
        refine s_mv (.inr rfl) (v := .sc (.int .i64 1)) rfl rfl rfl rfl ?_
        refine rt_nil ?_
        refine tri_seq ?_
        refine Tri.ent (st' := mkT 74 [(1, .sc (.int .i64 p1)), (2, .ptr (2, 0) 0 0), (6, .ptr (6, 0) 0 0), (7, .ptr (7, 0) 0 0), (8, .ptr (8, 0) 0 0), (9, .sc (.int .i64 1))] ([((2, 0), some ⟨31, 2, [[.sc (.int .i64 p0.cap), .lst 6 (List.map mEntryV p0.l)]], false, true⟩), ((6, 0), some ⟨24, 2, [[.sc (.int .i64 x6.cap), .ref (21, 1) 0 x6.l.length]], false, true⟩), ((21, 1), some ⟨39, 6, List.map mEntryV x6.l, false, true⟩), ((7, 0), some ⟨24, 2, [[.sc (.int .i64 x8.cap), .ref (23, 1) 0 x8.l.length]], false, true⟩), ((23, 1), some ⟨39, 6, nr 23 mEntryN 10000 x8.l, false, true⟩), ((8, 0), some ⟨24, 2, [[.sc (.int .i64 x10.cap), .ref (26, 1) 0 x10.l.length]], false, true⟩), ((26, 1), some ⟨39, 6, nr 26 mEntryN 10000 x10.l, false, true⟩)] ++ (fam 23 10000 (List.map mEntryG x8.l) ++ (fam 26 10000 (List.map mEntryG x10.l) ++ [])))) ?_ ?_
        · skip
          refine entK2 (l := [((2, 0), ⟨31, 2, [[.sc (.int .i64 p0.cap), .lst 6 (List.map mEntryV p0.l)]], false, true⟩, some (2, 0)), ((6, 0), ⟨24, 2, [[.sc (.int .i64 x6.cap), .ref (21, 1) 0 x6.l.length]], false, true⟩, some (6, 0)), ((21, 1), ⟨39, 6, List.map mEntryV x6.l, false, true⟩, some (21, 1)), ((7, 0), ⟨24, 2, [[.sc (.int .i64 x8.cap), .ref (23, 1) 0 x8.l.length]], false, true⟩, some (7, 0)), ((23, 1), ⟨39, 6, nr 23 mEntryN 10000 x8.l, false, true⟩, some (23, 1)), ((8, 0), ⟨24, 2, [[.sc (.int .i64 x10.cap), .ref (26, 1) 0 x10.l.length]], false, true⟩, some (8, 0)), ((26, 1), ⟨39, 6, nr 26 mEntryN 10000 x10.l, false, true⟩, some (26, 1))]) (D := []) (a := 23) (b := 10000) (a2 := 26) (b2 := 10000) (l1 := x8.l) (l2 := x10.l) (g := mEntryG) ⟨⟨rfl, _, rfl, rfl, rfl, rfl, id, rowsCv_one (.cons (.free rfl) (.cons (.free rfl) .nil)), rowsZ_one rfl⟩, ⟨rfl, _, rfl, rfl, rfl, rfl, id, rowsCv_one (.cons (.free rfl) (.cons (.ref rfl) .nil)), rowsZ_one rfl⟩, ⟨rfl, _, rfl, rfl, rfl, rfl, id, rowsCv_eq rfl (allFree_map mEntryV_free), rowsZ_map mEntryV_len⟩, ⟨rfl, _, rfl, rfl, rfl, rfl, id, rowsCv_one (.cons (.free rfl) (.cons (.ref rfl) .nil)), rowsZ_one rfl⟩, ⟨rfl, _, rfl, rfl, rfl, rfl, id, rowsCv_id (fun j hj => srcK2_1 hj) (fun x h => mEntryN_cv x h), nr_rowsZ mEntryN_z⟩, ⟨rfl, _, rfl, rfl, rfl, rfl, id, rowsCv_one (.cons (.free rfl) (.cons (.ref rfl) .nil)), rowsZ_one rfl⟩, ⟨rfl, _, rfl, rfl, rfl, rfl, id, rowsCv_id (fun j hj => srcK2_2 rfl hj) (fun x h => mEntryN_cv x h), nr_rowsZ mEntryN_z⟩, trivial⟩ trivial rfl rfl rfl rfl rfl rfl rfl rfl (fun j y hy => (by repeat (first | exact fam_lk (by rw [List.getElem?_map, hy]; rfl) | refine lkTo rfl ?_ | refine famTo rfl ?_))) (fun j y hy => (by repeat (first | exact fam_lk (by rw [List.getElem?_map, hy]; rfl) | refine lkTo rfl ?_ | refine famTo rfl ?_))) mEntryG_f mEntryG_z (fun j => (by repeat (first | exact rfl | exact famNo rfl rfl | refine lkNo rfl ?_ | refine famNo rfl ?_))) ?_
          exact ⟨(.free rfl), (.ptr rfl), (.ptr rfl), (.ptr rfl), (.ptr rfl), (.free rfl), trivial⟩
        refine tri_region ?_
        refine s_loadR rfl rfl rfl rfl ty24 rfl rfl rfl ?_
        refine s_mv (.inl rfl) (by conv => lhs; whnf) rfl rfl rfl ?_
        refine bnd2_elim h fun x20 x21 q22 h => ?_
        refine grd_elim h fun g23 h => ?_
        refine s_callMr (R := fam 26 10000 (List.map mEntryG x10.l) ++ []) (A := [((2, 0), some ⟨31, 2, [[.sc (.int .i64 p0.cap), .lst 6 (List.map mEntryV p0.l)]], false, true⟩), ((6, 0), some ⟨24, 2, [[.sc (.int .i64 x6.cap), .ref (21, 1) 0 x6.l.length]], false, true⟩), ((21, 1), some ⟨39, 6, List.map mEntryV x6.l, false, true⟩), ((7, 0), some ⟨24, 2, [[.sc (.int .i64 x8.cap), .ref (23, 1) 0 x8.l.length]], false, true⟩), ((23, 1), some ⟨39, 6, nr 23 mEntryN 10000 x8.l, false, true⟩), ((8, 0), some ⟨24, 2, [[.sc (.int .i64 x10.cap), .ref (26, 1) 0 x10.l.length]], false, true⟩), ((26, 1), some ⟨39, 6, nr 26 mEntryN 10000 x10.l, false, true⟩)]) (l := x8.l) (l' := x21) (gm := mEntryG) (fN := mEntryN) (dn := (23, 1)) (a := 23) (b := 10000) (s := false) (mi := true) rfl rfl cl9 (wRw_markCache x8 1 x20 x21 q22) g23 rfl (.cons (relAggL (.cons (.free rfl) (.cons (.refOwn rfl) .nil))) (.cons (.free rfl) .nil)) rfl (fun j => rfl) (fun k => rfl) mEntryN_z (fun x hm => (.cons (.free rfl) (.cons (.free rfl) (.cons (.free rfl) (.cons (.refOwn hm) (.cons (.free rfl) (.cons (.free rfl) .nil))))))) (fun x hm => (.cons retSc (.cons retSc (.cons retSc (.cons (.inn hm) (.cons retSc (.cons retSc .nil))))))) (fun x => allSc_map recV_sc) mEntryG_f mEntryG_z (fun _ _ => rfl) rfl rfl rfl rfl ?_
        refine s_mv (.inr rfl) (by conv => lhs; whnf) rfl rfl rfl ?_
        refine rt_nil ?_
        refine tri_seq ?_
        refine tri_cutI (ι := { p : Bool // w_FnExactExpire_j0 p0 p1 x6 x10 p = some r0 }) (fun p => inv_w_FnExactExpire_0 p0 p1 x6 x10 p.1) ?_ ?_
        · skip
          refine tri_region ?_
          refine s_mv (.inl rfl) (by conv => lhs; whnf) rfl rfl rfl ?_
          refine s_of (st_lss rfl rfl rfl) rfl rfl rfl rfl ?_
          refine s_mv (.inl rfl) (by conv => lhs; whnf) rfl rfl rfl ?_
          refine s_split (t := 41) rfl (fun b24 => ?_) (fun b24 => ?_)
          · replace h := cond_t h b24
            refine s_skip rfl rfl rfl ?_
            refine s_skip rfl rfl rfl ?_
            refine s_skip rfl rfl rfl ?_
            refine s_skip rfl rfl rfl ?_
            refine s_pickT rfl rfl (v := .sc (.bool true)) rfl rfl rfl rfl ?_
            refine rt_nil ?_
            refine Exists.intro ⟨true, h⟩ ?_
            refine entK (items := [((2, 0), ⟨31, 2, [[.sc (.int .i64 p0.cap), .lst 6 (List.map mEntryV p0.l)]], false, true⟩, some (2, 0)), ((6, 0), ⟨24, 2, [[.sc (.int .i64 x6.cap), .ref (21, 1) 0 x6.l.length]], false, true⟩, some (6, 0)), ((21, 1), ⟨39, 6, List.map mEntryV x6.l, false, true⟩, some (21, 1)), ((8, 0), ⟨24, 2, [[.sc (.int .i64 x10.cap), .ref (26, 1) 0 x10.l.length]], false, true⟩, some (8, 0)), ((26, 1), ⟨39, 6, nr 26 mEntryN 10000 x10.l, false, true⟩, some (26, 1))]) (D := []) (a := 26) (b := 10000) (l := x10.l) (g := mEntryG) ⟨⟨rfl, _, rfl, rfl, rfl, rfl, id, rowsCv_one (.cons (.free rfl) (.cons (.free rfl) .nil)), rowsZ_one rfl⟩, ⟨rfl, _, rfl, rfl, rfl, rfl, id, rowsCv_one (.cons (.free rfl) (.cons (.ref rfl) .nil)), rowsZ_one rfl⟩, ⟨rfl, _, rfl, rfl, rfl, rfl, id, rowsCv_eq rfl (allFree_map mEntryV_free), rowsZ_map mEntryV_len⟩, ⟨rfl, _, rfl, rfl, rfl, rfl, id, rowsCv_one (.cons (.free rfl) (.cons (.ref rfl) .nil)), rowsZ_one rfl⟩, ⟨rfl, _, rfl, rfl, rfl, rfl, id, rowsCv_fam (fun x h => mEntryN_cv x h), nr_rowsZ mEntryN_z⟩, trivial⟩ trivial rfl rfl rfl rfl (fun j y hy => (by repeat (first | exact fam_lk (by rw [List.getElem?_map, hy]; rfl) | refine lkTo rfl ?_ | refine famTo rfl ?_))) mEntryG_f mEntryG_z (fun j => (by repeat (first | exact rfl | exact famNo rfl rfl | refine lkNo rfl ?_ | refine famNo rfl ?_))) ?_
            exact ⟨(.free rfl), (.ptr rfl), (.ptr rfl), (.ptr rfl), (.free rfl), trivial⟩
          · replace h := cond_f h b24
            refine s_loadR rfl rfl rfl rfl ty24 rfl rfl rfl ?_
            refine s_loadR rfl rfl rfl rfl ty24 rfl rfl rfl ?_
            refine bnd1_elim h fun x25 q26 h => ?_
            refine s_callN (kb := [(26, 1), (21, 1)] ++ famN 26 10000 x10.l.length) (ns := []) (v := .sc (.bool x25)) rfl rfl cl8 (ww_eqCache x10 x6 x25 q26) rfl (.cons (relAggL (.cons (.free rfl) (.cons (lendN (a := 26) (b := 10000) (f := mEntryN) (g := mEntryG) rfl (List.mem_append_left _ (.head _)) rfl (fun i x hx => ⟨List.mem_append_right _ (famN_iff.2 ⟨i, (List.getElem?_eq_some_iff.1 hx).1, rfl⟩), (by repeat (first | exact fam_lk (by rw [List.getElem?_map, hx]; rfl) | refine lkTo rfl ?_ | refine famTo rfl ?_))⟩) (fun m x hm hl => (.cons (.free rfl) (.cons (.free rfl) (.cons (.free rfl) (.cons (lendL hl hm rfl recV_free recV_len) (.cons (.free rfl) (.cons (.free rfl) .nil))))))) mEntryV_free mEntryV_len) .nil))) (.cons (relAggL (.cons (.free rfl) (.cons (lendL rfl (List.mem_append_left _ (.tail _ (.head _))) rfl mEntryV_free mEntryV_len) .nil))) .nil)) trivial memNil .nil (fun _ _ => List.not_mem_nil) rfl trivial memNil rfl rfl rfl rfl rfl rfl ?_
            refine s_of (st_not rfl rfl) rfl rfl rfl rfl ?_
            refine s_pickF rfl rfl (by conv => lhs; whnf) rfl rfl rfl ?_
            refine rt_nil ?_
            refine Exists.intro ⟨!x25, h⟩ ?_
            refine entK (items := [((2, 0), ⟨31, 2, [[.sc (.int .i64 p0.cap), .lst 6 (List.map mEntryV p0.l)]], false, true⟩, some (2, 0)), ((6, 0), ⟨24, 2, [[.sc (.int .i64 x6.cap), .ref (21, 1) 0 x6.l.length]], false, true⟩, some (6, 0)), ((21, 1), ⟨39, 6, List.map mEntryV x6.l, false, true⟩, some (21, 1)), ((8, 0), ⟨24, 2, [[.sc (.int .i64 x10.cap), .ref (26, 1) 0 x10.l.length]], false, true⟩, some (8, 0)), ((26, 1), ⟨39, 6, nr 26 mEntryN 10000 x10.l, false, true⟩, some (26, 1))]) (D := []) (a := 26) (b := 10000) (l := x10.l) (g := mEntryG) ⟨⟨rfl, _, rfl, rfl, rfl, rfl, id, rowsCv_one (.cons (.free rfl) (.cons (.free rfl) .nil)), rowsZ_one rfl⟩, ⟨rfl, _, rfl, rfl, rfl, rfl, id, rowsCv_one (.cons (.free rfl) (.cons (.ref rfl) .nil)), rowsZ_one rfl⟩, ⟨rfl, _, rfl, rfl, rfl, rfl, id, rowsCv_eq rfl (allFree_map mEntryV_free), rowsZ_map mEntryV_len⟩, ⟨rfl, _, rfl, rfl, rfl, rfl, id, rowsCv_one (.cons (.free rfl) (.cons (.ref rfl) .nil)), rowsZ_one rfl⟩, ⟨rfl, _, rfl, rfl, rfl, rfl, id, rowsCv_fam (fun x h => mEntryN_cv x h), nr_rowsZ mEntryN_z⟩, trivial⟩ trivial rfl rfl rfl rfl (fun j y hy => (by repeat (first | exact fam_lk (by rw [List.getElem?_map, hy]; rfl) | refine lkTo rfl ?_ | refine famTo rfl ?_))) mEntryG_f mEntryG_z (fun j => (by repeat (first | exact rfl | exact famNo rfl rfl | refine lkNo rfl ?_ | refine famNo rfl ?_))) ?_
            exact ⟨(.free rfl), (.ptr rfl), (.ptr rfl), (.ptr rfl), (.free rfl), trivial⟩
        · rintro ⟨j0_0, h⟩
          replace h : w_FnExactExpire_j0 p0 p1 x6 x10 j0_0 = some r0 := h
          unfold w_FnExactExpire_j0 at h
          show Tri _ _ _ (inv_w_FnExactExpire_0 p0 p1 x6 x10 j0_0)
          refine tri_cond rfl (fun c24 => ?_) (fun c24 => ?_)
          · replace h := cond_t h c24
            refine tri_seq ?_
            refine tri_region ?_
            refine s_mv (.inr rfl) (v := .sc (.bool false)) rfl rfl rfl rfl ?_
            refine rt_nil ?_
            refine tri_ret ?_
            have e0 := (some1 h); subst e0
            exact endY [] [] (rvC (resTmp rfl) rvN) trivial trivial rfl (by repeat (first | exact itb_nil | refine itb_cons rfl ?_ | refine itb_fam rfl ?_)) rfl rfl (.free rfl)
          · replace h := cond_f h c24
            refine tri_skip ?_
            refine tri_seq ?_
            refine tri_region ?_
            refine s_mv (.inr rfl) (v := .sc (.int .i64 1)) rfl rfl rfl rfl ?_
            refine rt_nil ?_
            refine tri_seq ?_
            refine Tri.ent (st' := mkT 74 [(1, .sc (.int .i64 p1)), (2, .ptr (2, 0) 0 0), (6, .ptr (6, 0) 0 0), (8, .ptr (8, 0) 0 0), (10, .sc (.int .i64 1))] ([((2, 0), some ⟨31, 2, [[.sc (.int .i64 p0.cap), .lst 6 (List.map mEntryV p0.l)]], false, true⟩), ((6, 0), some ⟨24, 2, [[.sc (.int .i64 x6.cap), .ref (21, 1) 0 x6.l.length]], false, true⟩), ((21, 1), some ⟨39, 6, List.map mEntryV x6.l, false, true⟩), ((8, 0), some ⟨24, 2, [[.sc (.int .i64 x10.cap), .ref (26, 1) 0 x10.l.length]], false, true⟩), ((26, 1), some ⟨39, 6, nr 26 mEntryN 10000 x10.l, false, true⟩)] ++ (fam 26 10000 (List.map mEntryG x10.l) ++ []))) ?_ ?_
            · skip
              refine entK (items := [((2, 0), ⟨31, 2, [[.sc (.int .i64 p0.cap), .lst 6 (List.map mEntryV p0.l)]], false, true⟩, some (2, 0)), ((6, 0), ⟨24, 2, [[.sc (.int .i64 x6.cap), .ref (21, 1) 0 x6.l.length]], false, true⟩, some (6, 0)), ((21, 1), ⟨39, 6, List.map mEntryV x6.l, false, true⟩, some (21, 1)), ((8, 0), ⟨24, 2, [[.sc (.int .i64 x10.cap), .ref (26, 1) 0 x10.l.length]], false, true⟩, some (8, 0)), ((26, 1), ⟨39, 6, nr 26 mEntryN 10000 x10.l, false, true⟩, some (26, 1))]) (D := []) (a := 26) (b := 10000) (l := x10.l) (g := mEntryG) ⟨⟨rfl, _, rfl, rfl, rfl, rfl, id, rowsCv_one (.cons (.free rfl) (.cons (.free rfl) .nil)), rowsZ_one rfl⟩, ⟨rfl, _, rfl, rfl, rfl, rfl, id, rowsCv_one (.cons (.free rfl) (.cons (.ref rfl) .nil)), rowsZ_one rfl⟩, ⟨rfl, _, rfl, rfl, rfl, rfl, id, rowsCv_eq rfl (allFree_map mEntryV_free), rowsZ_map mEntryV_len⟩, ⟨rfl, _, rfl, rfl, rfl, rfl, id, rowsCv_one (.cons (.free rfl) (.cons (.ref rfl) .nil)), rowsZ_one rfl⟩, ⟨rfl, _, rfl, rfl, rfl, rfl, id, rowsCv_fam (fun x h => mEntryN_cv x h), nr_rowsZ mEntryN_z⟩, trivial⟩ trivial rfl rfl rfl rfl (fun j y hy => (by repeat (first | exact fam_lk (by rw [List.getElem?_map, hy]; rfl) | refine lkTo rfl ?_ | refine famTo rfl ?_))) mEntryG_f mEntryG_z (fun j => (by repeat (first | exact rfl | exact famNo rfl rfl | refine lkNo rfl ?_ | refine famNo rfl ?_))) ?_
              exact ⟨(.free rfl), (.ptr rfl), (.ptr rfl), (.ptr rfl), (.free rfl), trivial⟩
            refine tri_region ?_
            refine s_loadR rfl rfl rfl rfl ty24 rfl rfl rfl ?_
            refine s_mv (.inl rfl) (by conv => lhs; whnf) rfl rfl rfl ?_
            refine bnd2_elim h fun x25 x26 q27 h => ?_
            refine grd_elim h fun g28 h => ?_
            refine s_callMn (A := [((2, 0), some ⟨31, 2, [[.sc (.int .i64 p0.cap), .lst 6 (List.map mEntryV p0.l)]], false, true⟩), ((6, 0), some ⟨24, 2, [[.sc (.int .i64 x6.cap), .ref (21, 1) 0 x6.l.length]], false, true⟩), ((21, 1), some ⟨39, 6, List.map mEntryV x6.l, false, true⟩), ((8, 0), some ⟨24, 2, [[.sc (.int .i64 x10.cap), .ref (26, 1) 0 x10.l.length]], false, true⟩), ((26, 1), some ⟨39, 6, nr 26 mEntryN 10000 x10.l, false, true⟩)]) (l := x10.l) (l' := x26) (gm := mEntryG) (fN := mEntryN) (dn := (26, 1)) (a := 26) (b := 10000) (s := false) (mi := true) rfl rfl cl9 (wRw_markCache x10 1 x25 x26 q27) g28 rfl (.cons (relAggL (.cons (.free rfl) (.cons (.refOwn rfl) .nil))) (.cons (.free rfl) .nil)) rfl (fun j => rfl) (fun k => rfl) mEntryN_z (fun x hm => (.cons (.free rfl) (.cons (.free rfl) (.cons (.free rfl) (.cons (.refOwn hm) (.cons (.free rfl) (.cons (.free rfl) .nil))))))) (fun x hm => (.cons retSc (.cons retSc (.cons retSc (.cons (.inn hm) (.cons retSc (.cons retSc .nil))))))) (fun x => allSc_map recV_sc) mEntryG_f mEntryG_z (fun _ _ => rfl) rfl rfl rfl rfl ?_
            refine s_mv (.inr rfl) (by conv => lhs; whnf) rfl rfl rfl ?_
            refine rt_nil ?_
            refine tri_seq ?_
            refine tri_region ?_
            refine s_mv (.inr rfl) (v := .sc (.int .i64 1)) rfl rfl rfl rfl ?_
            refine rt_nil ?_
            refine tri_seq ?_
            refine tri_region ?_
            refine s_loadR rfl rfl rfl rfl ty24 rfl rfl rfl ?_
            refine s_mv (.inl rfl) (by conv => lhs; whnf) rfl rfl rfl ?_
            refine bnd1_elim h fun x29 q30 h => ?_
            refine s_callN (kb := [(26, 1)] ++ famN 26 10000 x26.length) (ns := []) (v := .sc (.int .i64 x29)) rfl rfl cl10 (ww_heldCache (MCache.mk x10.cap x26) 1 x29 q30) rfl (.cons (relAggL (.cons (.free rfl) (.cons (lendN (a := 26) (b := 10000) (f := mEntryN) (g := mEntryG) rfl (List.mem_append_left _ (.head _)) (by simp only [List.length_set, g28]) (fun i x hx => ⟨List.mem_append_right _ (famN_iff.2 ⟨i, (List.getElem?_eq_some_iff.1 hx).1, rfl⟩), (by repeat (first | exact fam_lk (by rw [List.getElem?_map, hx]; rfl) | refine lkTo rfl ?_ | refine famTo rfl ?_))⟩) (fun m x hm hl => (.cons (.free rfl) (.cons (.free rfl) (.cons (.free rfl) (.cons (lendL hl hm rfl recV_free recV_len) (.cons (.free rfl) (.cons (.free rfl) .nil))))))) mEntryV_free mEntryV_len) .nil))) (.cons (.free rfl) .nil)) trivial memNil .nil (fun _ _ => List.not_mem_nil) rfl trivial memNil rfl rfl rfl rfl rfl rfl ?_
            refine s_mv (.inr rfl) (by conv => lhs; whnf) rfl rfl rfl ?_
            refine rt_nil ?_
            refine tri_seq ?_
            refine tri_seq ?_
            refine tri_region ?_
            refine s_mv (.inl rfl) (by conv => lhs; whnf) rfl rfl rfl ?_
            refine s_of (st_lss rfl rfl rfl) rfl rfl rfl rfl ?_
            refine rt_nil ?_
            refine tri_cond rfl (fun c31 => ?_) (fun c31 => ?_)
            · replace h := cond_t h c31
              refine tri_seq ?_
              refine tri_region ?_
              refine s_mv (.inr rfl) (v := .sc (.bool false)) rfl rfl rfl rfl ?_
              refine rt_nil ?_
              refine tri_ret ?_
              have e0 := (some1 h); subst e0
              exact endY [] [] (rvC (resTmp rfl) rvN) trivial trivial rfl (by repeat (first | exact itb_nil | refine itb_cons rfl ?_ | refine itb_fam rfl ?_)) rfl rfl (.free rfl)
            · replace h := cond_f h c31
              refine tri_skip ?_
              refine tri_seq ?_
              refine tri_seq ?_
              refine tri_region ?_
              refine s_mv (.inl rfl) (by conv => lhs; whnf) rfl rfl rfl ?_
              refine s_mv (.inl rfl) (by conv => lhs; whnf) rfl rfl rfl ?_
              refine s_of (st_neI rfl rfl rfl) rfl rfl rfl rfl ?_
              refine rt_nil ?_
              refine tri_cond rfl (fun c32 => ?_) (fun c32 => ?_)
              · replace h := cond_t h c32
                refine tri_seq ?_
                refine tri_region ?_
                refine s_mv (.inr rfl) (v := .sc (.bool false)) rfl rfl rfl rfl ?_
                refine rt_nil ?_
                refine tri_ret ?_
                have e0 := (some1 h); subst e0
                exact endY [] [] (rvC (resTmp rfl) rvN) trivial trivial rfl (by repeat (first | exact itb_nil | refine itb_cons rfl ?_ | refine itb_fam rfl ?_)) rfl rfl (.free rfl)
              · replace h := cond_f h c32
                refine tri_skip ?_
                refine tri_seq ?_
                refine tri_region ?_
                refine s_loadR rfl rfl rfl rfl ty31 rfl rfl rfl ?_
                refine bnd1_elim h fun x33 q34 h => ?_
                refine s_callZ (kb := []) (ns := []) (v := .agg [.sc (.int .i64 x33.cap), .ref (59, 1) 0 x33.l.length]) rfl rfl cl14 (ww_toCache p0 x33 q34) rfl (.cons (relAgg rfl) .nil) trivial memNil .nil memNil trivial rfl ⟨(allFree_map mEntryV_free), trivial⟩ memNil (habC (by repeat (first | exact rfl | exact famNo rfl rfl | refine lkNo rfl ?_ | refine famNo rfl ?_)) habN) (by first | (simp only [V.mat, V.mat1, V.mat0, matL, matT, List.length_map]; done) | (simp only [V.mat, V.mat1, V.mat0, matL, matT, List.length_map]; rfl)) rfl rfl rfl rfl ?_
                refine s_mv (.inl rfl) (by conv => lhs; whnf) rfl rfl rfl ?_
                refine bnd1_elim h fun x35 q36 h => ?_
                refine s_callZ (kb := [(59, 1)]) (ns := []) (v := .agg [.sc (.int .i64 x35.cap), .ref (61, 1) 0 x35.l.length]) rfl rfl cl21 (wi_Expire x33 p1 x35 q36) rfl (.cons (relAggL (.cons (.free rfl) (.cons (lendL rfl (.head _) rfl mEntryV_free mEntryV_len) .nil))) (.cons (.free rfl) .nil)) trivial memNil .nil (fun _ _ => List.not_mem_nil) ⟨⟨_, rfl, rfl⟩, trivial⟩ rfl ⟨(allFree_map mEntryV_free), trivial⟩ memNil (habC (by repeat (first | exact rfl | exact famNo rfl rfl | refine lkNo rfl ?_ | refine famNo rfl ?_)) habN) (by first | (simp only [V.mat, V.mat1, V.mat0, matL, matT, List.length_map]; done) | (simp only [V.mat, V.mat1, V.mat0, matL, matT, List.length_map]; rfl)) rfl rfl rfl rfl ?_
                refine s_alloc rfl rfl (by repeat (first | exact rfl | exact famNo rfl rfl | refine lkNo rfl ?_ | refine famNo rfl ?_)) zc24 rfl rfl rfl rfl rfl ?_
                refine s_storeB rfl rfl rfl ty24 rfl rfl rfl rfl rfl ?_
                refine rt_nil ?_
                refine tri_seq ?_
                refine tri_seq ?_
                refine tri_region ?_
                refine s_loadR rfl rfl rfl rfl ty24 rfl rfl rfl ?_
                refine s_loadR rfl rfl rfl rfl ty24 rfl rfl rfl ?_
                refine bnd1_elim h fun x37 q38 h => ?_
                refine s_callN (kb := [(61, 1), (21, 1)]) (ns := []) (v := .sc (.bool x37)) rfl rfl cl8 (ww_eqCache x35 x6 x37 q38) rfl (.cons (relAggL (.cons (.free rfl) (.cons (lendL rfl (.head _) rfl mEntryV_free mEntryV_len) .nil))) (.cons (relAggL (.cons (.free rfl) (.cons (lendL rfl (.tail _ (.head _)) rfl mEntryV_free mEntryV_len) .nil))) .nil)) trivial memNil .nil (fun _ _ => List.not_mem_nil) rfl trivial memNil rfl rfl rfl rfl rfl rfl ?_
                refine s_of (st_not rfl rfl) rfl rfl rfl rfl ?_
                refine rt_nil ?_
                refine tri_cond rfl (fun c39 => ?_) (fun c39 => ?_)
                · replace h := cond_t h c39
                  refine tri_seq ?_
                  refine tri_region ?_
                  refine s_mv (.inr rfl) (v := .sc (.bool false)) rfl rfl rfl rfl ?_
                  refine rt_nil ?_
                  refine tri_ret ?_
                  have e0 := (some1 h); subst e0
                  exact endY [] [] (rvC (resTmp rfl) rvN) trivial trivial rfl (by repeat (first | exact itb_nil | refine itb_cons rfl ?_ | refine itb_fam rfl ?_)) rfl rfl (.free rfl)
                · replace h := cond_f h c39
                  refine tri_skip ?_
                  refine tri_seq ?_
                  refine tri_region ?_
                  refine s_mv (.inr rfl) (v := .sc (.int .i64 1)) rfl rfl rfl rfl ?_
                  refine rt_nil ?_
                  refine tri_seq ?_
                  refine tri_region ?_
                  refine s_loadR rfl rfl rfl rfl ty24 rfl rfl rfl ?_
                  refine s_mv (.inl rfl) (by conv => lhs; whnf) rfl rfl rfl ?_
                  refine bnd1_elim h fun x40 q41 h => ?_
                  refine s_callN (kb := [(26, 1)] ++ famN 26 10000 x26.length) (ns := []) (v := .sc (.int .i64 x40)) rfl rfl cl10 (ww_heldCache (MCache.mk x10.cap x26) 1 x40 q41) rfl (.cons (relAggL (.cons (.free rfl) (.cons (lendN (a := 26) (b := 10000) (f := mEntryN) (g := mEntryG) rfl (List.mem_append_left _ (.head _)) (by simp only [List.length_set, g28]) (fun i x hx => ⟨List.mem_append_right _ (famN_iff.2 ⟨i, (List.getElem?_eq_some_iff.1 hx).1, rfl⟩), (by repeat (first | exact fam_lk (by rw [List.getElem?_map, hx]; rfl) | refine lkTo rfl ?_ | refine famTo rfl ?_))⟩) (fun m x hm hl => (.cons (.free rfl) (.cons (.free rfl) (.cons (.free rfl) (.cons (lendL hl hm rfl recV_free recV_len) (.cons (.free rfl) (.cons (.free rfl) .nil))))))) mEntryV_free mEntryV_len) .nil))) (.cons (.free rfl) .nil)) trivial memNil .nil (fun _ _ => List.not_mem_nil) rfl trivial memNil rfl rfl rfl rfl rfl rfl ?_
                  refine s_mv (.inr rfl) (by conv => lhs; whnf) rfl rfl rfl ?_
                  refine rt_nil ?_
                  refine tri_seq ?_
                  refine tri_seq ?_
                  refine tri_region ?_
                  refine s_mv (.inl rfl) (by conv => lhs; whnf) rfl rfl rfl ?_
                  refine s_of (st_lss rfl rfl rfl) rfl rfl rfl rfl ?_
                  refine rt_nil ?_
                  refine tri_cond rfl (fun c42 => ?_) (fun c42 => ?_)
                  · replace h := cond_t h c42
                    refine tri_seq ?_
                    refine tri_region ?_
                    refine s_mv (.inr rfl) (v := .sc (.bool false)) rfl rfl rfl rfl ?_
                    refine rt_nil ?_
                    refine tri_ret ?_
                    have e0 := (some1 h); subst e0
                    exact endY [] [] (rvC (resTmp rfl) rvN) trivial trivial rfl (by repeat (first | exact itb_nil | refine itb_cons rfl ?_ | refine itb_fam rfl ?_)) rfl rfl (.free rfl)
                  · replace h := cond_f h c42
                    refine tri_skip ?_
                    refine tri_seq ?_
                    refine tri_seq ?_
                    refine tri_region ?_
                    refine s_mv (.inl rfl) (by conv => lhs; whnf) rfl rfl rfl ?_
                    refine s_mv (.inl rfl) (by conv => lhs; whnf) rfl rfl rfl ?_
                    refine s_of (st_neI rfl rfl rfl) rfl rfl rfl rfl ?_
                    refine rt_nil ?_
                    refine tri_cond rfl (fun c43 => ?_) (fun c43 => ?_)
                    · replace h := cond_t h c43
                      refine tri_seq ?_
                      refine tri_region ?_
                      refine s_mv (.inr rfl) (v := .sc (.bool false)) rfl rfl rfl rfl ?_
                      refine rt_nil ?_
                      refine tri_ret ?_
                      have e0 := (some1 h); subst e0
                      exact endY [] [] (rvC (resTmp rfl) rvN) trivial trivial rfl (by repeat (first | exact itb_nil | refine itb_cons rfl ?_ | refine itb_fam rfl ?_)) rfl rfl (.free rfl)
                    · replace h := cond_f h c43
                      refine tri_skip ?_
                      refine tri_seq ?_
                      refine tri_region ?_
                      refine s_mv (.inr rfl) (v := .sc (.bool true)) rfl rfl rfl rfl ?_
                      refine rt_nil ?_
                      refine tri_ret ?_
                      have e0 := (some1 h); subst e0
                      exact endY [] [] (rvC (resTmp rfl) rvN) trivial trivial rfl (by repeat (first | exact itb_nil | refine itb_cons rfl ?_ | refine itb_fam rfl ?_)) rfl rfl (.free rfl)

end Go.Abs.M
