/- Walks of the functions that the law of FactText reaches: what each of them computes, where its pure function does not fail. -/
import Derived.Test.YtbkmnbpgpklojaaDoorWalkFactText0
set_option linter.unusedSimpArgs false
set_option linter.unusedVariables false
namespace Go.Abs.M
open Go Go.Abs Go.Proofs
theorem cl109 : callable Tryd.prog 109 = true := by kernel_rfl
theorem cl110 : callable Tryd.prog 110 = true := by kernel_rfl
theorem cl111 : callable Tryd.prog 111 = true := by kernel_rfl
theorem cl150 : callable Tryd.prog 150 = true := by kernel_rfl
theorem cl154 : callable Tryd.prog 154 = true := by kernel_rfl
theorem cl160 : callable Tryd.prog 160 = true := by kernel_rfl
theorem cl161 : callable Tryd.prog 161 = true := by kernel_rfl
theorem cl162 : callable Tryd.prog 162 = true := by kernel_rfl
theorem cl163 : callable Tryd.prog 163 = true := by kernel_rfl
theorem cl30 : callable Tryd.prog 30 = true := by kernel_rfl
theorem cl31 : callable Tryd.prog 31 = true := by kernel_rfl
theorem cl32 : callable Tryd.prog 32 = true := by kernel_rfl
theorem cl33 : callable Tryd.prog 33 = true := by kernel_rfl
theorem cl34 : callable Tryd.prog 34 = true := by kernel_rfl
theorem ik21 : intK Tryd.prog 21 = some .i32 := by kernel_rfl
theorem isb4 : isBool Tryd.prog 4 = true := by kernel_rfl
theorem ty59 : tyK Tryd.prog 59 = some (true, 4) := by kernel_rfl
theorem zc24 : zeroC Tryd.prog 24 = some [.slice none 0 0] := by kernel_rfl
/- impl.NumText -/
def inv_i_NumText_0 (p0 : Int) (j0_0 : Bool) : St := mkT 41 [(0, .sc (.int .i64 p0)), (3, .sc (.bool j0_0))] []
set_option maxRecDepth 4000 in
set_option maxHeartbeats 800000 in
theorem wi_NumText_r : ∀ (fr : Nat) (p0 : Int) (r0 : ByteArray) (h : i_NumText_r fr p0 = some r0), Runs Tryd.prog 161 [.sc (.int .i64 p0)] [] (.sc (.string r0)) []
 | 0, p0, r0, h => by rw [i_NumText_r] at h; cases h
 | fr + 1, p0, r0, h => by
  rw [i_NumText_r] at h
  refine runsR [.tmp 2] Tryd.func161 rfl rfl rfl rfl ?_
  rw [Tryd.ntmps161]
  refine tri_seq ?_
  refine tri_region ?_
  refine s_mv (.inr rfl) (v := .sc (.string (⟨#[]⟩ : ByteArray))) rfl rfl rfl rfl ?_
  refine rt_nil ?_
  refine tri_seq ?_
  refine tri_block ?_
  refine tri_cutI (ι := { p : Bool // i_NumText_j0 (i_NumText_r fr) p0 p = some r0 }) (fun p => inv_i_NumText_0 p0 p.1) ?_ ?_
  · skip
    refine tri_region ?_
    refine s_mv (.inl rfl) (by conv => lhs; whnf) rfl rfl rfl ?_
    refine s_of (st_lss rfl rfl rfl) rfl rfl rfl rfl ?_
    refine s_mv (.inl rfl) (by conv => lhs; whnf) rfl rfl rfl ?_
    refine s_split (t := 6) rfl (fun b1 => ?_) (fun b1 => ?_)
    · replace h := cond_t h b1
      refine s_mv (.inl rfl) (by conv => lhs; whnf) rfl rfl rfl ?_
      refine s_of (st_gtr rfl rfl rfl) rfl rfl rfl rfl ?_
      refine s_pickT rfl rfl (by conv => lhs; whnf) rfl rfl rfl ?_
      refine s_mv (.inr rfl) (by conv => lhs; whnf) rfl rfl rfl ?_
      refine rt_nil ?_
      refine Exists.intro ⟨decide ((-10) < p0), h⟩ ?_
      refine entX [] [] trivial trivial rfl rfl ?_
      exact ⟨(.free rfl), (.free rfl), trivial⟩
    · replace h := cond_f h b1
      refine s_skip rfl rfl rfl ?_
      refine s_skip rfl rfl rfl ?_
      refine s_pickF rfl rfl (v := .sc (.bool false)) rfl rfl rfl rfl ?_
      refine s_mv (.inr rfl) (by conv => lhs; whnf) rfl rfl rfl ?_
      refine rt_nil ?_
      refine Exists.intro ⟨false, h⟩ ?_
      refine entX [] [] trivial trivial rfl rfl ?_
      exact ⟨(.free rfl), (.free rfl), trivial⟩
  · rintro ⟨j0_0, h⟩
    replace h : i_NumText_j0 (i_NumText_r fr) p0 j0_0 = some r0 := h
    unfold i_NumText_j0 at h
    show Tri _ _ _ (inv_i_NumText_0 p0 j0_0)
    refine tri_cond rfl (fun c1 => ?_) (fun c1 => ?_)
    · replace h := cond_t h c1
      refine tri_seq ?_
      refine tri_region ?_
      refine s_mv (.inl rfl) (by conv => lhs; whnf) rfl rfl rfl ?_
      refine s_of (st_neg rfl rfl) rfl rfl rfl rfl ?_
      refine bnd1_elim h fun x2 q3 h => ?_
      refine s_callN (kb := []) (ns := []) (v := .sc (.string x2)) rfl rfl cl161 (wi_NumText_r fr (IntKind.i64.wrap (-p0)) x2 q3) rfl (.cons (.free rfl) .nil) trivial memNil .nil memNil rfl trivial memNil rfl rfl rfl rfl rfl rfl ?_
      refine grd_elim h fun g4 h => ?_
      refine s_of (st_catS g4 rfl rfl rfl) rfl rfl rfl rfl ?_
      refine s_mv (.inr rfl) (by conv => lhs; whnf) rfl rfl rfl ?_
      refine rt_nil ?_
      refine tri_ret ?_
      have e0 := (some1 h); subst e0
      exact endY [] [] (rvC (resTmp rfl) rvN) trivial trivial rfl rfl rfl rfl (.free rfl)
    · replace h := cond_f h c1
      refine tri_seq ?_
      refine tri_region ?_
      refine s_mv (.inl rfl) (by conv => lhs; whnf) rfl rfl rfl ?_
      refine s_of (st_lss rfl rfl rfl) rfl rfl rfl rfl ?_
      refine s_mv (.inr rfl) (by conv => lhs; whnf) rfl rfl rfl ?_
      refine rt_nil ?_
      refine tri_cond rfl (fun c5 => ?_) (fun c5 => ?_)
      · replace h := cond_t h c5
        refine tri_seq ?_
        refine tri_region ?_
        refine s_mv (.inl rfl) (by conv => lhs; whnf) rfl rfl rfl ?_
        refine s_of (st_quo rfl rfl rfl (by decide)) rfl rfl rfl rfl ?_
        refine bnd1_elim h fun x6 q7 h => ?_
        refine s_callN (kb := []) (ns := []) (v := .sc (.string x6)) rfl rfl cl161 (wi_NumText_r fr (IntKind.i64.wrap (Int.tdiv p0 10)) x6 q7) rfl (.cons (.free rfl) .nil) trivial memNil .nil memNil rfl trivial memNil rfl rfl rfl rfl rfl rfl ?_
        refine s_mv (.inl rfl) (by conv => lhs; whnf) rfl rfl rfl ?_
        refine s_of (st_rem rfl rfl rfl (by decide)) rfl rfl rfl rfl ?_
        refine s_of (st_neg rfl rfl) rfl rfl rfl rfl ?_
        refine bnd1_elim h fun x8 q9 h => ?_
        refine s_callN (kb := []) (ns := []) (v := .sc (.string x8)) rfl rfl cl161 (wi_NumText_r fr (IntKind.i64.wrap (-(Int.tmod p0 10))) x8 q9) rfl (.cons (.free rfl) .nil) trivial memNil .nil memNil rfl trivial memNil rfl rfl rfl rfl rfl rfl ?_
        refine grd_elim h fun g10 h => ?_
        refine s_of (st_catS g10 rfl rfl rfl) rfl rfl rfl rfl ?_
        refine s_mv (.inr rfl) (by conv => lhs; whnf) rfl rfl rfl ?_
        refine rt_nil ?_
        refine tri_ret ?_
        have e0 := (some1 h); subst e0
        exact endY [] [] (rvC (resTmp rfl) rvN) trivial trivial rfl rfl rfl rfl (.free rfl)
      · replace h := cond_f h c5
        refine tri_seq ?_
        refine tri_region ?_
        refine s_mv (.inl rfl) (by conv => lhs; whnf) rfl rfl rfl ?_
        refine s_of (st_lss rfl rfl rfl) rfl rfl rfl rfl ?_
        refine s_mv (.inr rfl) (by conv => lhs; whnf) rfl rfl rfl ?_
        refine rt_nil ?_
        refine tri_cond rfl (fun c11 => ?_) (fun c11 => ?_)
        · replace h := cond_t h c11
          refine tri_seq ?_
          refine tri_region ?_
          refine s_mv (.inl rfl) (by conv => lhs; whnf) rfl rfl rfl ?_
          refine grd_elim h fun g12 h => ?_
          refine s_addI rfl rfl rfl rfl g12 rfl rfl rfl ?_
          refine s_of (st_conv ik3 ik21 rfl rfl) rfl rfl rfl rfl ?_
          refine s_of (st_runeS ik21 iss9 rfl rfl) rfl rfl rfl rfl ?_
          refine s_mv (.inr rfl) (by conv => lhs; whnf) rfl rfl rfl ?_
          refine rt_nil ?_
          refine tri_ret ?_
          have e0 := (some1 h); subst e0
          exact endY [] [] (rvC (resTmp rfl) rvN) trivial trivial rfl rfl rfl rfl (.free rfl)
        · replace h := cond_f h c11
          refine tri_skip ?_
          refine tri_seq ?_
          refine tri_region ?_
          refine s_mv (.inl rfl) (by conv => lhs; whnf) rfl rfl rfl ?_
          refine s_of (st_quo rfl rfl rfl (by decide)) rfl rfl rfl rfl ?_
          refine bnd1_elim h fun x13 q14 h => ?_
          refine s_callN (kb := []) (ns := []) (v := .sc (.string x13)) rfl rfl cl161 (wi_NumText_r fr (IntKind.i64.wrap (Int.tdiv p0 10)) x13 q14) rfl (.cons (.free rfl) .nil) trivial memNil .nil memNil rfl trivial memNil rfl rfl rfl rfl rfl rfl ?_
          refine s_mv (.inl rfl) (by conv => lhs; whnf) rfl rfl rfl ?_
          refine s_of (st_rem rfl rfl rfl (by decide)) rfl rfl rfl rfl ?_
          refine grd_elim h fun g15 h => ?_
          refine s_addI rfl rfl rfl rfl g15 rfl rfl rfl ?_
          refine s_of (st_conv ik3 ik21 rfl rfl) rfl rfl rfl rfl ?_
          refine s_of (st_runeS ik21 iss9 rfl rfl) rfl rfl rfl rfl ?_
          refine grd_elim h fun g16 h => ?_
          refine s_of (st_catS g16 rfl rfl rfl) rfl rfl rfl rfl ?_
          refine s_mv (.inr rfl) (by conv => lhs; whnf) rfl rfl rfl ?_
          refine rt_nil ?_
          refine tri_ret ?_
          have e0 := (some1 h); subst e0
          exact endY [] [] (rvC (resTmp rfl) rvN) trivial trivial rfl rfl rfl rfl (.free rfl)
theorem wi_NumText (p0 : Int) (r0 : ByteArray) (h : i_NumText p0 = some r0) : Runs Tryd.prog 161 [.sc (.int .i64 p0)] [] (.sc (.string r0)) [] := wi_NumText_r fuel0 p0 r0 h

/- impl.TypeText -/

set_option maxRecDepth 4000 in
set_option maxHeartbeats 800000 in
theorem wi_TypeText (p0 : Int) (r0 : ByteArray) (h : i_TypeText p0 = some r0) : Runs Tryd.prog 162 [.sc (.int .i64 p0)] [] (.sc (.string r0)) [] := by
  unfold i_TypeText at h
  refine runsR [.tmp 2] Tryd.func162 rfl rfl rfl rfl ?_
  rw [Tryd.ntmps162]
  refine tri_seq ?_
  refine tri_region ?_
  refine s_mv (.inr rfl) (v := .sc (.string (⟨#[]⟩ : ByteArray))) rfl rfl rfl rfl ?_
  refine rt_nil ?_
  refine tri_seq ?_
  refine tri_seq ?_
  refine tri_region ?_
  refine s_mv (.inl rfl) (by conv => lhs; whnf) rfl rfl rfl ?_
  refine rt_nil ?_
  refine tri_block ?_
  refine tri_seq ?_
  refine tri_region ?_
  refine s_of (st_eqI rfl rfl rfl) rfl rfl rfl rfl ?_
  refine s_mv (.inr rfl) (by conv => lhs; whnf) rfl rfl rfl ?_
  refine rt_nil ?_
  refine tri_cond rfl (fun c1 => ?_) (fun c1 => ?_)
  · replace h := cond_t h c1
    refine tri_seq ?_
    refine tri_region ?_
    refine s_mv (.inr rfl) (v := .sc (.string (⟨#[97, 100, 100, 114]⟩ : ByteArray))) rfl rfl rfl rfl ?_
    refine rt_nil ?_
    refine tri_ret ?_
    have e0 := (some1 h); subst e0
    exact endY [] [] (rvC (resTmp rfl) rvN) trivial trivial rfl rfl rfl rfl (.free rfl)
  · replace h := cond_f h c1
    refine tri_seq ?_
    refine tri_region ?_
    refine s_of (st_eqI rfl rfl rfl) rfl rfl rfl rfl ?_
    refine s_mv (.inr rfl) (by conv => lhs; whnf) rfl rfl rfl ?_
    refine rt_nil ?_
    refine tri_cond rfl (fun c2 => ?_) (fun c2 => ?_)
    · replace h := cond_t h c2
      refine tri_seq ?_
      refine tri_region ?_
      refine s_mv (.inr rfl) (v := .sc (.string (⟨#[115, 101, 114, 118, 101, 114]⟩ : ByteArray))) rfl rfl rfl rfl ?_
      refine rt_nil ?_
      refine tri_ret ?_
      have e0 := (some1 h); subst e0
      exact endY [] [] (rvC (resTmp rfl) rvN) trivial trivial rfl rfl rfl rfl (.free rfl)
    · replace h := cond_f h c2
      refine tri_seq ?_
      refine tri_region ?_
      refine s_of (st_eqI rfl rfl rfl) rfl rfl rfl rfl ?_
      refine s_mv (.inr rfl) (by conv => lhs; whnf) rfl rfl rfl ?_
      refine rt_nil ?_
      refine tri_cond rfl (fun c3 => ?_) (fun c3 => ?_)
      · replace h := cond_t h c3
        refine tri_seq ?_
        refine tri_region ?_
        refine s_mv (.inr rfl) (v := .sc (.string (⟨#[97, 108, 105, 97, 115]⟩ : ByteArray))) rfl rfl rfl rfl ?_
        refine rt_nil ?_
        refine tri_ret ?_
        have e0 := (some1 h); subst e0
        exact endY [] [] (rvC (resTmp rfl) rvN) trivial trivial rfl rfl rfl rfl (.free rfl)
      · replace h := cond_f h c3
        refine tri_seq ?_
        refine tri_region ?_
        refine s_of (st_eqI rfl rfl rfl) rfl rfl rfl rfl ?_
        refine s_mv (.inr rfl) (by conv => lhs; whnf) rfl rfl rfl ?_
        refine rt_nil ?_
        refine tri_cond rfl (fun c4 => ?_) (fun c4 => ?_)
        · replace h := cond_t h c4
          refine tri_seq ?_
          refine tri_region ?_
          refine s_mv (.inr rfl) (v := .sc (.string (⟨#[115, 116, 97, 114, 116]⟩ : ByteArray))) rfl rfl rfl rfl ?_
          refine rt_nil ?_
          refine tri_ret ?_
          have e0 := (some1 h); subst e0
          exact endY [] [] (rvC (resTmp rfl) rvN) trivial trivial rfl rfl rfl rfl (.free rfl)
        · replace h := cond_f h c4
          refine tri_seq ?_
          refine tri_region ?_
          refine s_of (st_eqI rfl rfl rfl) rfl rfl rfl rfl ?_
          refine s_mv (.inr rfl) (by conv => lhs; whnf) rfl rfl rfl ?_
          refine rt_nil ?_
          refine tri_cond rfl (fun c5 => ?_) (fun c5 => ?_)
          · replace h := cond_t h c5
            refine tri_seq ?_
            refine tri_region ?_
            refine s_mv (.inr rfl) (v := .sc (.string (⟨#[116, 101, 120, 116]⟩ : ByteArray))) rfl rfl rfl rfl ?_
            refine rt_nil ?_
            refine tri_ret ?_
            have e0 := (some1 h); subst e0
            exact endY [] [] (rvC (resTmp rfl) rvN) trivial trivial rfl rfl rfl rfl (.free rfl)
          · replace h := cond_f h c5
            refine tri_skip ?_
            refine tri_seq ?_
            refine tri_region ?_
            refine s_mv (.inr rfl) (v := .sc (.string (⟨#[]⟩ : ByteArray))) rfl rfl rfl rfl ?_
            refine rt_nil ?_
            refine tri_ret ?_
            have e0 := (some1 h); subst e0
            exact endY [] [] (rvC (resTmp rfl) rvN) trivial trivial rfl rfl rfl rfl (.free rfl)

/- strings.Join -/

theorem wstrings_Join (p0 : List ByteArray) (p1 : ByteArray) (r0 : ByteArray) (h : strings_Join p0 p1 = some r0) : Runs Tryd.prog 154 [.lst 1 (List.map strV p0), .sc (.string p1)] [] (.sc (.string r0)) [] := by
  unfold strings_Join at h
  refine grd_elim h fun g h => ?_
  have e0 := (some1 h); subst e0
  exact runs_join (g := joinB) (fun a c w _ => Any.strings_Join_none Tryd.lays156 Tryd.extra156 a c p1 w) (fun bk o c w hc hb hl _ => Any.strings_Join Tryd.lays156 Tryd.extra156 bk o c p0 p1 w hc hb g.1 hl g.2)

/- impl.RecordText -/
def inv_i_RecordText_1 (p0 : Rec) (x4 : ByteArray) (x6 : ByteArray) (x8 : ByteArray) (j1_0 : Bool) : St := mkT 57 [(1, .ptr (1, 0) 0 0), (3, .ref (16, 0) 0 ([x4, x6, x8].length)), (18, .sc (.int .i64 p0.ty)), (27, .sc (.bool j1_0))] [((1, 0), some ⟨39, 6, [[.sc (.string p0.name), .sc (.int .i64 p0.ty), .sc (.int .i64 p0.ttl), .sc (.int .i64 p0.n), .sc (.string p0.host), .sc (.string p0.text)]], false, true⟩), ((16, 0), some ⟨9, 1, List.map strV [x4, x6, x8], false, true⟩)]
def inv_i_RecordText_0  (j0_0 : List ByteArray) : St := mkT 57 [(3, .ref (2003, 0) 0 j0_0.length)] [((2003, 0), some ⟨9, 1, List.map strV j0_0, false, true⟩)]
set_option maxRecDepth 4000 in
set_option maxHeartbeats 800000 in
theorem wi_RecordText (p0 : Rec) (r0 : ByteArray) (h : i_RecordText p0 = some r0) : Runs Tryd.prog 110 [.agg (recV p0)] [] (.sc (.string r0)) [] := by
  unfold i_RecordText at h
  refine runsR [.tmp 2] Tryd.func110 rfl rfl rfl rfl ?_
  rw [Tryd.ntmps110]
  refine tri_seq ?_
  refine tri_region ?_
  refine s_box rfl rfl rfl rfl rfl rfl rfl ?_
  refine s_mv (.inr rfl) (v := .sc (.string (⟨#[]⟩ : ByteArray))) rfl rfl rfl rfl ?_
  refine rt_nil ?_
  refine tri_seq ?_
  refine tri_seq ?_
  refine tri_region ?_
  refine s_loadR rfl rfl rfl rfl ty39 rfl rfl rfl ?_
  refine bnd1_elim h fun x1 q2 h => ?_
  refine s_callN (kb := []) (ns := []) (v := .sc (.bool x1)) rfl rfl cl150 (wi_RecordOk p0 x1 q2) rfl (.cons (relAgg rfl) .nil) trivial memNil .nil memNil rfl trivial memNil rfl rfl rfl rfl rfl rfl ?_
  refine s_of (st_not rfl rfl) rfl rfl rfl rfl ?_
  refine rt_nil ?_
  refine tri_cond rfl (fun c3 => ?_) (fun c3 => ?_)
  · replace h := cond_t h c3
    refine tri_seq ?_
    refine tri_region ?_
    refine s_mv (.inr rfl) (v := .sc (.string (⟨#[]⟩ : ByteArray))) rfl rfl rfl rfl ?_
    refine rt_nil ?_
    refine tri_ret ?_
    have e0 := (some1 h); subst e0
    exact endY [] [] (rvC (resTmp rfl) rvN) trivial trivial rfl rfl rfl rfl (.free rfl)
  · replace h := cond_f h c3
    refine tri_skip ?_
    refine tri_seq ?_
    refine tri_draw mixed ?_
    refine s_fieldAddr rfl rfl fd39_0 rfl rfl rfl rfl ?_
    refine s_load rfl rfl rfl rfl ty9 rfl (.inr rfl) (by conv => lhs; whnf) rfl rfl rfl ?_
    refine bnd1_elim h fun x4 q5 h => ?_
    refine s_callN (kb := []) (ns := []) (v := .sc (.string x4)) rfl rfl cl160 (wi_nameText p0.name x4 q5) rfl (.cons (.free rfl) .nil) trivial memNil .nil memNil rfl trivial memNil rfl rfl rfl rfl rfl rfl ?_
    refine s_fieldAddr rfl rfl fd39_2 rfl rfl rfl rfl ?_
    refine s_load rfl rfl rfl rfl ty3 rfl (.inr rfl) (by conv => lhs; whnf) rfl rfl rfl ?_
    refine bnd1_elim h fun x6 q7 h => ?_
    refine s_callN (kb := []) (ns := []) (v := .sc (.string x6)) rfl rfl cl161 (wi_NumText p0.ttl x6 q7) rfl (.cons (.free rfl) .nil) trivial memNil .nil memNil rfl trivial memNil rfl rfl rfl rfl rfl rfl ?_
    refine s_fieldAddr rfl rfl fd39_1 rfl rfl rfl rfl ?_
    refine s_load rfl rfl rfl rfl ty3 rfl (.inr rfl) (by conv => lhs; whnf) rfl rfl rfl ?_
    refine bnd1_elim h fun x8 q9 h => ?_
    refine s_callN (kb := []) (ns := []) (v := .sc (.string x8)) rfl rfl cl162 (wi_TypeText p0.ty x8 q9) rfl (.cons (.free rfl) .nil) trivial memNil .nil memNil rfl trivial memNil rfl rfl rfl rfl rfl rfl ?_
    refine s_buildSlice (rows' := List.map strV [x4, x6, x8]) rfl rfl rfl sl33 zc9 rfl rfl rfl rfl rfl rfl rfl rfl rfl ?_
    refine s_mv (.inr rfl) (by conv => lhs; whnf) rfl rfl rfl ?_
    refine rt_nil ⟨by kernel_rfl, ?_⟩
    refine tri_cutI (ι := { p : (List ByteArray) // i_RecordText_j0 p = some r0 }) (fun p => inv_i_RecordText_0 p.1) ?_ ?_
    · skip
      refine tri_seq ?_
      refine tri_region ?_
      refine s_fieldAddr rfl rfl fd39_1 rfl rfl rfl rfl ?_
      refine s_load rfl rfl rfl rfl ty3 rfl (.inr rfl) (by conv => lhs; whnf) rfl rfl rfl ?_
      refine rt_nil ?_
      refine tri_block ?_
      refine tri_seq ?_
      refine tri_region ?_
      refine s_of (st_eqI rfl rfl rfl) rfl rfl rfl rfl ?_
      refine s_mv (.inr rfl) (by conv => lhs; whnf) rfl rfl rfl ?_
      refine rt_nil ?_
      refine tri_cond rfl (fun c10 => ?_) (fun c10 => ?_)
      · replace h := cond_t h c10
        refine tri_region ?_
        refine s_mv (.inl rfl) (by conv => lhs; whnf) rfl rfl rfl ?_
        refine s_fieldAddr rfl rfl fd39_3 rfl rfl rfl rfl ?_
        refine s_load rfl rfl rfl rfl ty3 rfl (.inr rfl) (by conv => lhs; whnf) rfl rfl rfl ?_
        refine bnd1_elim h fun x11 q12 h => ?_
        refine s_callN (kb := []) (ns := []) (v := .sc (.string x11)) rfl rfl cl161 (wi_NumText p0.n x11 q12) rfl (.cons (.free rfl) .nil) trivial memNil .nil memNil rfl trivial memNil rfl rfl rfl rfl rfl rfl ?_
        refine s_buildSlice (rows' := List.map strV [x11]) rfl rfl rfl sl33 zc9 rfl rfl rfl rfl rfl rfl rfl rfl rfl ?_
        refine grd_elim h fun g13 h => ?_
        refine s_appL rfl rfl rfl sl33 zc9 rfl rfl rfl rfl rfl rfl (src_refL rfl rfl) g13 rfl rfl ?_
        refine s_mv (.inr rfl) (by conv => lhs; whnf) rfl rfl rfl ?_
        refine rt_nil ?_
        refine Exists.intro ⟨[x4, x6, x8] ++ [x11], h⟩ ?_
        refine entX [((2003, 0), ⟨9, 1, List.map strV ([x4, x6, x8] ++ [x11]), false, true⟩, some (26, 0))] [] ⟨⟨rfl, _, rfl, rfl, rfl, rfl, id, rowsCv_eq rfl (allFree_map strV_free), rowsZ_map strV_len⟩, trivial⟩ trivial rfl rfl ?_
        exact ⟨(.ref rfl), trivial⟩
      · replace h := cond_f h c10
        refine tri_cutI (ι := { p : Bool // i_RecordText_j1 p0 x4 x6 x8 p = some r0 }) (fun p => inv_i_RecordText_1 p0 x4 x6 x8 p.1) ?_ ?_
        · skip
          refine tri_seq ?_
          refine tri_region ?_
          refine s_of (st_eqI rfl rfl rfl) rfl rfl rfl rfl ?_
          refine s_mv (.inr rfl) (by conv => lhs; whnf) rfl rfl rfl ?_
          refine rt_nil ?_
          refine tri_cond rfl (fun c14 => ?_) (fun c14 => ?_)
          · replace h := cond_t h c14
            refine tri_skip ?_
            refine Exists.intro ⟨decide (p0.ty = 2), h⟩ ?_
            refine entX [((1, 0), ⟨39, 6, [[.sc (.string p0.name), .sc (.int .i64 p0.ty), .sc (.int .i64 p0.ttl), .sc (.int .i64 p0.n), .sc (.string p0.host), .sc (.string p0.text)]], false, true⟩, some (1, 0)), ((16, 0), ⟨9, 1, List.map strV [x4, x6, x8], false, true⟩, some (16, 0))] [] ⟨⟨rfl, _, rfl, rfl, rfl, rfl, id, rowsCv_one (.cons (.free rfl) (.cons (.free rfl) (.cons (.free rfl) (.cons (.free rfl) (.cons (.free rfl) (.cons (.free rfl) .nil)))))), rowsZ_one rfl⟩, ⟨rfl, _, rfl, rfl, rfl, rfl, id, rowsCv_eq rfl (allFree_map strV_free), rowsZ_map strV_len⟩, trivial⟩ trivial rfl rfl ?_
            exact ⟨(.ptr rfl), (.ref rfl), (.free rfl), (.free rfl), trivial⟩
          · replace h := cond_f h c14
            refine tri_region ?_
            refine s_of (st_eqI rfl rfl rfl) rfl rfl rfl rfl ?_
            refine s_mv (.inr rfl) (by conv => lhs; whnf) rfl rfl rfl ?_
            refine rt_nil ?_
            refine Exists.intro ⟨decide (p0.ty = 5), h⟩ ?_
            refine entX [((1, 0), ⟨39, 6, [[.sc (.string p0.name), .sc (.int .i64 p0.ty), .sc (.int .i64 p0.ttl), .sc (.int .i64 p0.n), .sc (.string p0.host), .sc (.string p0.text)]], false, true⟩, some (1, 0)), ((16, 0), ⟨9, 1, List.map strV [x4, x6, x8], false, true⟩, some (16, 0))] [] ⟨⟨rfl, _, rfl, rfl, rfl, rfl, id, rowsCv_one (.cons (.free rfl) (.cons (.free rfl) (.cons (.free rfl) (.cons (.free rfl) (.cons (.free rfl) (.cons (.free rfl) .nil)))))), rowsZ_one rfl⟩, ⟨rfl, _, rfl, rfl, rfl, rfl, id, rowsCv_eq rfl (allFree_map strV_free), rowsZ_map strV_len⟩, trivial⟩ trivial rfl rfl ?_
            exact ⟨(.ptr rfl), (.ref rfl), (.free rfl), (.free rfl), trivial⟩
        · rintro ⟨j1_0, h⟩
          replace h : i_RecordText_j1 p0 x4 x6 x8 j1_0 = some r0 := h
          unfold i_RecordText_j1 at h
          show Tri _ _ _ (inv_i_RecordText_1 p0 x4 x6 x8 j1_0)
          refine tri_cond rfl (fun c14 => ?_) (fun c14 => ?_)
          · replace h := cond_t h c14
            refine tri_region ?_
            refine s_mv (.inl rfl) (by conv => lhs; whnf) rfl rfl rfl ?_
            refine s_fieldAddr rfl rfl fd39_4 rfl rfl rfl rfl ?_
            refine s_load rfl rfl rfl rfl ty9 rfl (.inr rfl) (by conv => lhs; whnf) rfl rfl rfl ?_
            refine bnd1_elim h fun x15 q16 h => ?_
            refine s_callN (kb := []) (ns := []) (v := .sc (.string x15)) rfl rfl cl160 (wi_nameText p0.host x15 q16) rfl (.cons (.free rfl) .nil) trivial memNil .nil memNil rfl trivial memNil rfl rfl rfl rfl rfl rfl ?_
            refine s_buildSlice (rows' := List.map strV [x15]) rfl rfl rfl sl33 zc9 rfl rfl rfl rfl rfl rfl rfl rfl rfl ?_
            refine grd_elim h fun g17 h => ?_
            refine s_appL rfl rfl rfl sl33 zc9 rfl rfl rfl rfl rfl rfl (src_refL rfl rfl) g17 rfl rfl ?_
            refine s_mv (.inr rfl) (by conv => lhs; whnf) rfl rfl rfl ?_
            refine rt_nil ?_
            refine Exists.intro ⟨[x4, x6, x8] ++ [x15], h⟩ ?_
            refine entX [((2003, 0), ⟨9, 1, List.map strV ([x4, x6, x8] ++ [x15]), false, true⟩, some (35, 0))] [] ⟨⟨rfl, _, rfl, rfl, rfl, rfl, id, rowsCv_eq rfl (allFree_map strV_free), rowsZ_map strV_len⟩, trivial⟩ trivial rfl rfl ?_
            exact ⟨(.ref rfl), trivial⟩
          · replace h := cond_f h c14
            refine tri_seq ?_
            refine tri_region ?_
            refine s_of (st_eqI rfl rfl rfl) rfl rfl rfl rfl ?_
            refine s_mv (.inr rfl) (by conv => lhs; whnf) rfl rfl rfl ?_
            refine rt_nil ?_
            refine tri_cond rfl (fun c18 => ?_) (fun c18 => ?_)
            · replace h := cond_t h c18
              refine tri_draw mixed ?_
              refine s_mv (.inl rfl) (by conv => lhs; whnf) rfl rfl rfl ?_
              refine s_fieldAddr rfl rfl fd39_4 rfl rfl rfl rfl ?_
              refine s_load rfl rfl rfl rfl ty9 rfl (.inr rfl) (by conv => lhs; whnf) rfl rfl rfl ?_
              refine bnd1_elim h fun x19 q20 h => ?_
              refine s_callN (kb := []) (ns := []) (v := .sc (.string x19)) rfl rfl cl160 (wi_nameText p0.host x19 q20) rfl (.cons (.free rfl) .nil) trivial memNil .nil memNil rfl trivial memNil rfl rfl rfl rfl rfl rfl ?_
              refine s_fieldAddr rfl rfl fd39_3 rfl rfl rfl rfl ?_
              refine s_load rfl rfl rfl rfl ty3 rfl (.inr rfl) (by conv => lhs; whnf) rfl rfl rfl ?_
              refine bnd1_elim h fun x21 q22 h => ?_
              refine s_callN (kb := []) (ns := []) (v := .sc (.string x21)) rfl rfl cl161 (wi_NumText p0.n x21 q22) rfl (.cons (.free rfl) .nil) trivial memNil .nil memNil rfl trivial memNil rfl rfl rfl rfl rfl rfl ?_
              refine s_buildSlice (rows' := List.map strV [x19, x21]) rfl rfl rfl sl33 zc9 rfl rfl rfl rfl rfl rfl rfl rfl rfl ?_
              refine grd_elim h fun g23 h => ?_
              refine s_appL rfl rfl rfl sl33 zc9 rfl rfl rfl rfl rfl rfl (src_refL rfl rfl) g23 rfl rfl ?_
              refine s_mv (.inr rfl) (by conv => lhs; whnf) rfl rfl rfl ?_
              refine rt_nil ⟨by kernel_rfl, ?_⟩
              refine Exists.intro ⟨[x4, x6, x8] ++ [x19, x21], h⟩ ?_
              refine entX [((2003, 0), ⟨9, 1, List.map strV ([x4, x6, x8] ++ [x19, x21]), false, true⟩, some (46, 0))] [] ⟨⟨rfl, _, rfl, rfl, rfl, rfl, id, rowsCv_eq rfl (allFree_map strV_free), rowsZ_map strV_len⟩, trivial⟩ trivial rfl rfl ?_
              exact ⟨(.ref rfl), trivial⟩
            · replace h := cond_f h c18
              refine tri_seq ?_
              refine tri_region ?_
              refine s_of (st_eqI rfl rfl rfl) rfl rfl rfl rfl ?_
              refine s_mv (.inr rfl) (by conv => lhs; whnf) rfl rfl rfl ?_
              refine rt_nil ?_
              refine tri_cond rfl (fun c24 => ?_) (fun c24 => ?_)
              · replace h := cond_t h c24
                refine tri_region ?_
                refine s_mv (.inl rfl) (by conv => lhs; whnf) rfl rfl rfl ?_
                refine s_fieldAddr rfl rfl fd39_5 rfl rfl rfl rfl ?_
                refine s_load rfl rfl rfl rfl ty9 rfl (.inr rfl) (by conv => lhs; whnf) rfl rfl rfl ?_
                refine grd_elim h fun g25 h => ?_
                refine s_of (st_catS g25 rfl rfl rfl) rfl rfl rfl rfl ?_
                refine s_buildSlice (rows' := List.map strV [(⟨#[39]⟩ : ByteArray) ++ p0.text]) rfl rfl rfl sl33 zc9 rfl rfl rfl rfl rfl rfl rfl rfl rfl ?_
                refine grd_elim h fun g26 h => ?_
                refine s_appL rfl rfl rfl sl33 zc9 rfl rfl rfl rfl rfl rfl (src_refL rfl rfl) g26 rfl rfl ?_
                refine s_mv (.inr rfl) (by conv => lhs; whnf) rfl rfl rfl ?_
                refine rt_nil ?_
                refine Exists.intro ⟨[x4, x6, x8] ++ ([(⟨#[39]⟩ : ByteArray) ++ p0.text]), h⟩ ?_
                refine entX [((2003, 0), ⟨9, 1, List.map strV ([x4, x6, x8] ++ ([(⟨#[39]⟩ : ByteArray) ++ p0.text])), false, true⟩, some (54, 0))] [] ⟨⟨rfl, _, rfl, rfl, rfl, rfl, id, rowsCv_eq rfl (allFree_map strV_free), rowsZ_map strV_len⟩, trivial⟩ trivial rfl rfl ?_
                exact ⟨(.ref rfl), trivial⟩
              · replace h := cond_f h c24
                refine tri_skip ?_
                refine Exists.intro ⟨[x4, x6, x8], h⟩ ?_
                refine entX [((2003, 0), ⟨9, 1, List.map strV [x4, x6, x8], false, true⟩, some (16, 0))] [] ⟨⟨rfl, _, rfl, rfl, rfl, rfl, id, rowsCv_eq rfl (allFree_map strV_free), rowsZ_map strV_len⟩, trivial⟩ trivial rfl rfl ?_
                exact ⟨(.ref rfl), trivial⟩
    · rintro ⟨j0_0, h⟩
      replace h : i_RecordText_j0 j0_0 = some r0 := h
      unfold i_RecordText_j0 at h
      show Tri _ _ _ (inv_i_RecordText_0 j0_0)
      refine tri_seq ?_
      refine tri_region ?_
      refine s_mv (.inl rfl) (by conv => lhs; whnf) rfl rfl rfl ?_
      refine bnd1_elim h fun x10 q11 h => ?_
      refine s_callN (kb := [(2003, 0)]) (ns := []) (v := .sc (.string x10)) rfl rfl cl154 (wstrings_Join j0_0 (⟨#[32]⟩ : ByteArray) x10 q11) rfl (.cons (lendL rfl (.head _) rfl strV_free strV_len) (.cons (.free rfl) .nil)) trivial memNil .nil (fun _ _ => List.not_mem_nil) rfl trivial memNil rfl rfl rfl rfl rfl rfl ?_
      refine s_mv (.inr rfl) (by conv => lhs; whnf) rfl rfl rfl ?_
      refine rt_nil ?_
      refine tri_ret ?_
      have e0 := (some1 h); subst e0
      exact endY [] [] (rvC (resTmp rfl) rvN) trivial trivial rfl rfl rfl rfl (.free rfl)

/- impl.FactText -/
def inv_i_FactText_1 (x2 : List Rec) (v1_0 : ByteArray) (v1_1 : Nat) : St := mkT 36 [(3, .sc (.string v1_0)), (23, .ref (23, 0) 0 x2.length), (24, .sc (.int .i64 (x2.length : Int))), (25, .sc (.int .i64 (v1_1 : Int)))] [((23, 0), some ⟨39, 6, List.map recV x2, false, true⟩)]
def inv_i_FactText_0 (p0 : MFact) (j0_0 : ByteArray) : St := mkT 36 [(1, .ptr (1, 0) 0 0), (3, .sc (.string j0_0))] [((1, 0), some ⟨63, 4, [[.sc (.int .i64 p0.code), .lst 6 (List.map recV p0.links), .lst 6 (List.map recV p0.l), .sc (.bool p0.fin)]], false, true⟩)]
set_option maxRecDepth 4000 in
set_option maxHeartbeats 800000 in
theorem wi_FactText (p0 : MFact) (r0 : ByteArray) (h : i_FactText p0 = some r0) : Runs Tryd.prog 33 [.agg (mFactV p0)] [] (.sc (.string r0)) [] := by
  unfold i_FactText at h
  refine runsR [.tmp 2] Tryd.func33 rfl rfl rfl rfl ?_
  rw [Tryd.ntmps33]
  refine tri_seq ?_
  refine tri_region ?_
  refine s_box rfl rfl rfl rfl rfl rfl rfl ?_
  refine s_mv (.inr rfl) (v := .sc (.string (⟨#[]⟩ : ByteArray))) rfl rfl rfl rfl ?_
  refine rt_nil ?_
  refine tri_seq ?_
  refine tri_seq ?_
  refine tri_region ?_
  refine s_fieldAddr rfl rfl fd63_3 rfl rfl rfl rfl ?_
  refine s_load rfl rfl rfl rfl ty4 rfl (.inr rfl) (by conv => lhs; whnf) rfl rfl rfl ?_
  refine s_of (st_not rfl rfl) rfl rfl rfl rfl ?_
  refine rt_nil ?_
  refine tri_cond rfl (fun c1 => ?_) (fun c1 => ?_)
  · replace h := cond_t h c1
    refine tri_seq ?_
    refine tri_region ?_
    refine s_mv (.inr rfl) (v := .sc (.string (⟨#[114, 111, 117, 110, 100]⟩ : ByteArray))) rfl rfl rfl rfl ?_
    refine rt_nil ?_
    refine tri_ret ?_
    have e0 := (some1 h); subst e0
    exact endY [] [] (rvC (resTmp rfl) rvN) trivial trivial rfl rfl rfl rfl (.free rfl)
  · replace h := cond_f h c1
    refine tri_skip ?_
    refine tri_seq ?_
    refine tri_region ?_
    refine s_mv (.inr rfl) (v := .sc (.string (⟨#[115, 101, 116]⟩ : ByteArray))) rfl rfl rfl rfl ?_
    refine rt_nil ?_
    refine tri_cutI (ι := { p : ByteArray // i_FactText_j0 p0 p = some r0 }) (fun p => inv_i_FactText_0 p0 p.1) ?_ ?_
    · skip
      refine tri_block ?_
      refine tri_seq ?_
      refine tri_region ?_
      refine s_fieldAddr rfl rfl fd63_0 rfl rfl rfl rfl ?_
      refine s_load rfl rfl rfl rfl ty3 rfl (.inr rfl) (by conv => lhs; whnf) rfl rfl rfl ?_
      refine s_of (st_eqI rfl rfl rfl) rfl rfl rfl rfl ?_
      refine s_mv (.inr rfl) (by conv => lhs; whnf) rfl rfl rfl ?_
      refine rt_nil ?_
      refine tri_cond rfl (fun c2 => ?_) (fun c2 => ?_)
      · replace h := cond_t h c2
        refine tri_region ?_
        refine s_mv (.inr rfl) (v := .sc (.string (⟨#[110, 111, 110, 97, 109, 101]⟩ : ByteArray))) rfl rfl rfl rfl ?_
        refine rt_nil ?_
        refine Exists.intro ⟨(⟨#[110, 111, 110, 97, 109, 101]⟩ : ByteArray), h⟩ ?_
        refine entX [((1, 0), ⟨63, 4, [[.sc (.int .i64 p0.code), .lst 6 (List.map recV p0.links), .lst 6 (List.map recV p0.l), .sc (.bool p0.fin)]], false, true⟩, some (1, 0))] [] ⟨⟨rfl, _, rfl, rfl, rfl, rfl, id, rowsCv_one (.cons (.free rfl) (.cons (.free rfl) (.cons (.free rfl) (.cons (.free rfl) .nil)))), rowsZ_one rfl⟩, trivial⟩ trivial rfl rfl ?_
        exact ⟨(.ptr rfl), (.free rfl), trivial⟩
      · replace h := cond_f h c2
        refine tri_seq ?_
        refine tri_region ?_
        refine s_fieldAddr rfl rfl fd63_2 rfl rfl rfl rfl ?_
        refine s_load rfl rfl rfl rfl ty24 rfl (.inr rfl) (by conv => lhs; whnf) rfl rfl rfl ?_
        refine s_lenL rfl sl24 rfl rfl rfl rfl ?_
        refine s_of (st_eqI rfl rfl rfl) rfl rfl rfl rfl ?_
        refine s_mv (.inr rfl) (by conv => lhs; whnf) rfl rfl rfl ?_
        refine rt_nil ?_
        refine tri_cond rfl (fun c3 => ?_) (fun c3 => ?_)
        · replace h := cond_t h c3
          refine tri_region ?_
          refine s_mv (.inr rfl) (v := .sc (.string (⟨#[110, 111, 100, 97, 116, 97]⟩ : ByteArray))) rfl rfl rfl rfl ?_
          refine rt_nil ?_
          refine Exists.intro ⟨(⟨#[110, 111, 100, 97, 116, 97]⟩ : ByteArray), h⟩ ?_
          refine entX [((1, 0), ⟨63, 4, [[.sc (.int .i64 p0.code), .lst 6 (List.map recV p0.links), .lst 6 (List.map recV p0.l), .sc (.bool p0.fin)]], false, true⟩, some (1, 0))] [] ⟨⟨rfl, _, rfl, rfl, rfl, rfl, id, rowsCv_one (.cons (.free rfl) (.cons (.free rfl) (.cons (.free rfl) (.cons (.free rfl) .nil)))), rowsZ_one rfl⟩, trivial⟩ trivial rfl rfl ?_
          exact ⟨(.ptr rfl), (.free rfl), trivial⟩
        · replace h := cond_f h c3
          refine tri_skip ?_
          refine Exists.intro ⟨(⟨#[115, 101, 116]⟩ : ByteArray), h⟩ ?_
          refine entX [((1, 0), ⟨63, 4, [[.sc (.int .i64 p0.code), .lst 6 (List.map recV p0.links), .lst 6 (List.map recV p0.l), .sc (.bool p0.fin)]], false, true⟩, some (1, 0))] [] ⟨⟨rfl, _, rfl, rfl, rfl, rfl, id, rowsCv_one (.cons (.free rfl) (.cons (.free rfl) (.cons (.free rfl) (.cons (.free rfl) .nil)))), rowsZ_one rfl⟩, trivial⟩ trivial rfl rfl ?_
          exact ⟨(.ptr rfl), (.free rfl), trivial⟩
    · rintro ⟨j0_0, h⟩
      replace h : i_FactText_j0 p0 j0_0 = some r0 := h
      unfold i_FactText_j0 at h
      show Tri _ _ _ (inv_i_FactText_0 p0 j0_0)
      refine tri_seq ?_
      refine tri_seq ?_
      refine tri_region ?_
      refine s_fieldAddr rfl rfl fd63_1 rfl rfl rfl rfl ?_
      refine s_load rfl rfl rfl rfl ty24 rfl (.inr rfl) (by conv => lhs; whnf) rfl rfl rfl ?_
      refine s_fieldAddr rfl rfl fd63_2 rfl rfl rfl rfl ?_
      refine s_load rfl rfl rfl rfl ty24 rfl (.inr rfl) (by conv => lhs; whnf) rfl rfl rfl ?_
      refine s_buildSlice (rows' := List.map recLV [p0.links, p0.l]) rfl rfl rfl sl152 zc24 rfl rfl rfl rfl rfl rfl rfl rfl rfl ?_
      refine bnd1_elim h fun x2 q3 h => ?_
      refine s_callN (kb := [(22, 0)]) (ns := []) (v := .ref (23, 0) 0 x2.length) rfl rfl cl109 (wslices_Concat_Record [p0.links, p0.l] x2 q3) rfl (.cons (lendL rfl (.head _) rfl recLV_free recLV_len) .nil) trivial memNil .nil (fun _ _ => List.not_mem_nil) rfl ⟨(allSc_map recV_sc), trivial⟩ memNil rfl (by first | (simp only [V.mat, V.mat1, V.mat0, matL, matT, List.length_map]; done) | (simp only [V.mat, V.mat1, V.mat0, matL, matT, List.length_map]; rfl)) rfl rfl rfl rfl ?_
      refine s_len (m := x2.length) rfl sl24 rfl rfl rfl rfl ?_
      refine s_mv (.inl rfl) (v := .sc (.int .i64 0)) rfl rfl rfl rfl ?_
      refine rt_nil ?_
      refine tri_block ?_
      refine tri_ownM (23, 0) rfl (fun hl1 => ?_)
      refine tri_loop (ι := { p : (List Rec) × ByteArray × Nat // x2.drop p.2.2 = p.1 ∧ i_FactText_l1 p.1 p.2.1 p.2.2 = some r0 }) (fun p => inv_i_FactText_1 x2 p.1.2.1 p.1.2.2) (fun p => p.1.1.length) ⟨(x2, j0_0, 0), rfl, h⟩ ?_ ?_
      · skip
        refine entX [((23, 0), ⟨39, 6, List.map recV x2, false, true⟩, some (23, 0))] [] ⟨⟨rfl, _, rfl, rfl, rfl, rfl, id, rowsCv_eq rfl (allFree_map recV_free), rowsZ_map recV_len⟩, trivial⟩ trivial rfl rfl ?_
        exact ⟨(.free rfl), (.ref rfl), (.free rfl), (.free rfl), trivial⟩
      · rintro ⟨⟨lrs1, v1_0, v1_1⟩, hd1, h⟩
        replace hd1 : x2.drop v1_1 = lrs1 := hd1
        replace h : i_FactText_l1 lrs1 v1_0 v1_1 = some r0 := h
        show Tri _ _ _ (inv_i_FactText_1 x2 v1_0 v1_1)
        refine tri_seq ?_
        refine tri_region ?_
        refine s_of (st_lss rfl rfl rfl) rfl rfl rfl rfl ?_
        refine rt_nil ?_
        refine tri_seq ?_
        refine tri_cond rfl (fun c4 => ?_) (fun c4 => ?_)
        · refine drop_elim hd1 c4 fun e1 rs1 he hx1 hn1 => ?_
          subst he
          rw [i_FactText_l1] at h
          refine tri_skip ?_
          refine tri_seq ?_
          refine tri_block ?_
          refine tri_seq ?_
          refine tri_region ?_
          refine s_index0 (i := v1_1) rfl rfl rfl rfl sl24 rfl (get_lt hx1) rfl rfl rfl ?_
          refine s_loadR rfl rfl rfl (rowG hx1) ty39 rfl rfl rfl ?_
          refine s_alloc rfl rfl rfl zc39 rfl rfl rfl rfl rfl ?_
          refine s_storeB rfl rfl rfl ty39 rfl rfl rfl rfl rfl ?_
          refine rt_nil ?_
          refine tri_region ?_
          refine s_mv (.inl rfl) (by conv => lhs; whnf) rfl rfl rfl ?_
          refine s_loadR rfl rfl rfl rfl ty39 rfl rfl rfl ?_
          refine bnd1_elim h fun x5 q6 h => ?_
          refine s_callN (kb := []) (ns := []) (v := .sc (.string x5)) rfl rfl cl110 (wi_RecordText e1 x5 q6) rfl (.cons (relAgg rfl) .nil) trivial memNil .nil memNil rfl trivial memNil rfl rfl rfl rfl rfl rfl ?_
          refine grd_elim h fun g7 h => ?_
          refine s_of (st_catS g7 rfl rfl rfl) rfl rfl rfl rfl ?_
          refine grd_elim h fun g8 h => ?_
          refine s_of (st_catS g8 rfl rfl rfl) rfl rfl rfl rfl ?_
          refine s_mv (.inr rfl) (by conv => lhs; whnf) rfl rfl rfl ?_
          refine rt_nil ?_
          refine tri_region ?_
          refine s_inc (a := v1_1) (b := 1) rfl rfl rfl rfl (by have := get_lt hx1; have := hl1; omega) rfl rfl rfl ?_
          refine s_mv (.inl rfl) (by conv => lhs; whnf) rfl rfl rfl ?_
          refine rt_nil ?_
          refine Exists.intro ⟨(rs1, v1_0 ++ ((⟨#[59, 32]⟩ : ByteArray) ++ x5), (v1_1 + 1)), hn1, h⟩ (And.intro (Nat.lt_succ_self _) ?_)
          refine entX [((23, 0), ⟨39, 6, List.map recV x2, false, true⟩, some (23, 0))] [] ⟨⟨rfl, _, rfl, rfl, rfl, rfl, id, rowsCv_eq rfl (allFree_map recV_free), rowsZ_map recV_len⟩, trivial⟩ trivial rfl rfl ?_
          exact ⟨(.free rfl), (.ref rfl), (.free rfl), (.free rfl), trivial⟩
        · have he := drop_f hd1 c4; subst he
          rw [i_FactText_l1] at h
          refine tri_exit ?_
          refine tri_seq ?_
          refine tri_region ?_
          refine s_mv (.inl rfl) (by conv => lhs; whnf) rfl rfl rfl ?_
          refine s_mv (.inr rfl) (by conv => lhs; whnf) rfl rfl rfl ?_
          refine rt_nil ?_
          refine tri_ret ?_
          have e0 := (some1 h); subst e0
          exact endY [] [] (rvC (resTmp rfl) rvN) trivial trivial rfl rfl rfl rfl (.free rfl)

/- laws.eqRecord -/

set_option maxRecDepth 4000 in
set_option maxHeartbeats 800000 in
theorem ww_eqRecord (p0 : Rec) (p1 : Rec) (r0 : Bool) (h : w_eqRecord p0 p1 = some r0) : Runs Tryd.prog 163 [.agg (recV p0), .agg (recV p1)] [] (.sc (.bool r0)) [] := by
  unfold w_eqRecord at h
  refine runsR [.tmp 4] Tryd.func163 rfl rfl rfl rfl ?_
  rw [Tryd.ntmps163]
  refine tri_seq ?_
  refine tri_region ?_
  refine s_box rfl rfl rfl rfl rfl rfl rfl ?_
  refine s_box rfl rfl rfl rfl rfl rfl rfl ?_
  refine s_mv (.inr rfl) (v := .sc (.bool false)) rfl rfl rfl rfl ?_
  refine rt_nil ?_
  refine tri_seq ?_
  refine tri_seq ?_
  refine tri_region ?_
  refine s_fieldAddr rfl rfl fd39_0 rfl rfl rfl rfl ?_
  refine s_load rfl rfl rfl rfl ty9 rfl (.inr rfl) (by conv => lhs; whnf) rfl rfl rfl ?_
  refine s_fieldAddr rfl rfl fd39_0 rfl rfl rfl rfl ?_
  refine s_load rfl rfl rfl rfl ty9 rfl (.inr rfl) (by conv => lhs; whnf) rfl rfl rfl ?_
  refine s_of (st_neS rfl rfl rfl) rfl rfl rfl rfl ?_
  refine rt_nil ?_
  refine tri_cond rfl (fun c1 => ?_) (fun c1 => ?_)
  · replace h := cond_t h c1
    refine tri_seq ?_
    refine tri_region ?_
    refine s_mv (.inr rfl) (v := .sc (.bool false)) rfl rfl rfl rfl ?_
    refine rt_nil ?_
    refine tri_ret ?_
    have e0 := (some1 h); subst e0
    exact endY [] [] (rvC (resTmp rfl) rvN) trivial trivial rfl rfl rfl rfl (.free rfl)
  · replace h := cond_f h c1
    refine tri_skip ?_
    refine tri_seq ?_
    refine tri_seq ?_
    refine tri_region ?_
    refine s_fieldAddr rfl rfl fd39_1 rfl rfl rfl rfl ?_
    refine s_load rfl rfl rfl rfl ty3 rfl (.inr rfl) (by conv => lhs; whnf) rfl rfl rfl ?_
    refine s_fieldAddr rfl rfl fd39_1 rfl rfl rfl rfl ?_
    refine s_load rfl rfl rfl rfl ty3 rfl (.inr rfl) (by conv => lhs; whnf) rfl rfl rfl ?_
    refine s_of (st_neI rfl rfl rfl) rfl rfl rfl rfl ?_
    refine rt_nil ?_
    refine tri_cond rfl (fun c2 => ?_) (fun c2 => ?_)
    · replace h := cond_t h c2
      refine tri_seq ?_
      refine tri_region ?_
      refine s_mv (.inr rfl) (v := .sc (.bool false)) rfl rfl rfl rfl ?_
      refine rt_nil ?_
      refine tri_ret ?_
      have e0 := (some1 h); subst e0
      exact endY [] [] (rvC (resTmp rfl) rvN) trivial trivial rfl rfl rfl rfl (.free rfl)
    · replace h := cond_f h c2
      refine tri_skip ?_
      refine tri_seq ?_
      refine tri_seq ?_
      refine tri_region ?_
      refine s_fieldAddr rfl rfl fd39_2 rfl rfl rfl rfl ?_
      refine s_load rfl rfl rfl rfl ty3 rfl (.inr rfl) (by conv => lhs; whnf) rfl rfl rfl ?_
      refine s_fieldAddr rfl rfl fd39_2 rfl rfl rfl rfl ?_
      refine s_load rfl rfl rfl rfl ty3 rfl (.inr rfl) (by conv => lhs; whnf) rfl rfl rfl ?_
      refine s_of (st_neI rfl rfl rfl) rfl rfl rfl rfl ?_
      refine rt_nil ?_
      refine tri_cond rfl (fun c3 => ?_) (fun c3 => ?_)
      · replace h := cond_t h c3
        refine tri_seq ?_
        refine tri_region ?_
        refine s_mv (.inr rfl) (v := .sc (.bool false)) rfl rfl rfl rfl ?_
        refine rt_nil ?_
        refine tri_ret ?_
        have e0 := (some1 h); subst e0
        exact endY [] [] (rvC (resTmp rfl) rvN) trivial trivial rfl rfl rfl rfl (.free rfl)
      · replace h := cond_f h c3
        refine tri_skip ?_
        refine tri_seq ?_
        refine tri_seq ?_
        refine tri_region ?_
        refine s_fieldAddr rfl rfl fd39_3 rfl rfl rfl rfl ?_
        refine s_load rfl rfl rfl rfl ty3 rfl (.inr rfl) (by conv => lhs; whnf) rfl rfl rfl ?_
        refine s_fieldAddr rfl rfl fd39_3 rfl rfl rfl rfl ?_
        refine s_load rfl rfl rfl rfl ty3 rfl (.inr rfl) (by conv => lhs; whnf) rfl rfl rfl ?_
        refine s_of (st_neI rfl rfl rfl) rfl rfl rfl rfl ?_
        refine rt_nil ?_
        refine tri_cond rfl (fun c4 => ?_) (fun c4 => ?_)
        · replace h := cond_t h c4
          refine tri_seq ?_
          refine tri_region ?_
          refine s_mv (.inr rfl) (v := .sc (.bool false)) rfl rfl rfl rfl ?_
          refine rt_nil ?_
          refine tri_ret ?_
          have e0 := (some1 h); subst e0
          exact endY [] [] (rvC (resTmp rfl) rvN) trivial trivial rfl rfl rfl rfl (.free rfl)
        · replace h := cond_f h c4
          refine tri_skip ?_
          refine tri_seq ?_
          refine tri_seq ?_
          refine tri_region ?_
          refine s_fieldAddr rfl rfl fd39_4 rfl rfl rfl rfl ?_
          refine s_load rfl rfl rfl rfl ty9 rfl (.inr rfl) (by conv => lhs; whnf) rfl rfl rfl ?_
          refine s_fieldAddr rfl rfl fd39_4 rfl rfl rfl rfl ?_
          refine s_load rfl rfl rfl rfl ty9 rfl (.inr rfl) (by conv => lhs; whnf) rfl rfl rfl ?_
          refine s_of (st_neS rfl rfl rfl) rfl rfl rfl rfl ?_
          refine rt_nil ?_
          refine tri_cond rfl (fun c5 => ?_) (fun c5 => ?_)
          · replace h := cond_t h c5
            refine tri_seq ?_
            refine tri_region ?_
            refine s_mv (.inr rfl) (v := .sc (.bool false)) rfl rfl rfl rfl ?_
            refine rt_nil ?_
            refine tri_ret ?_
            have e0 := (some1 h); subst e0
            exact endY [] [] (rvC (resTmp rfl) rvN) trivial trivial rfl rfl rfl rfl (.free rfl)
          · replace h := cond_f h c5
            refine tri_skip ?_
            refine tri_seq ?_
            refine tri_seq ?_
            refine tri_region ?_
            refine s_fieldAddr rfl rfl fd39_5 rfl rfl rfl rfl ?_
            refine s_load rfl rfl rfl rfl ty9 rfl (.inr rfl) (by conv => lhs; whnf) rfl rfl rfl ?_
            refine s_fieldAddr rfl rfl fd39_5 rfl rfl rfl rfl ?_
            refine s_load rfl rfl rfl rfl ty9 rfl (.inr rfl) (by conv => lhs; whnf) rfl rfl rfl ?_
            refine s_of (st_neS rfl rfl rfl) rfl rfl rfl rfl ?_
            refine rt_nil ?_
            refine tri_cond rfl (fun c6 => ?_) (fun c6 => ?_)
            · replace h := cond_t h c6
              refine tri_seq ?_
              refine tri_region ?_
              refine s_mv (.inr rfl) (v := .sc (.bool false)) rfl rfl rfl rfl ?_
              refine rt_nil ?_
              refine tri_ret ?_
              have e0 := (some1 h); subst e0
              exact endY [] [] (rvC (resTmp rfl) rvN) trivial trivial rfl rfl rfl rfl (.free rfl)
            · replace h := cond_f h c6
              refine tri_skip ?_
              refine tri_seq ?_
              refine tri_region ?_
              refine s_mv (.inr rfl) (v := .sc (.bool true)) rfl rfl rfl rfl ?_
              refine rt_nil ?_
              refine tri_ret ?_
              have e0 := (some1 h); subst e0
              exact endY [] [] (rvC (resTmp rfl) rvN) trivial trivial rfl rfl rfl rfl (.free rfl)

/- laws.eqRecordS -/
def inv_w_eqRecordS_0 (p0 : List Rec) (p1 : List Rec) (v0_0 : Nat) : St := mkT 27 [(0, .lst 6 (List.map recV p0)), (1, .lst 6 (List.map recV p1)), (5, .sc (.int .i64 (v0_0 : Int)))] []
set_option maxRecDepth 4000 in
set_option maxHeartbeats 800000 in
theorem ww_eqRecordS (p0 : List Rec) (p1 : List Rec) (r0 : Bool) (h : w_eqRecordS p0 p1 = some r0) : Runs Tryd.prog 111 [.lst 6 (List.map recV p0), .lst 6 (List.map recV p1)] [] (.sc (.bool r0)) [] := by
  unfold w_eqRecordS at h
  refine runsR [.tmp 4] Tryd.func111 rfl rfl rfl rfl ?_
  rw [Tryd.ntmps111]
  refine tri_seq ?_
  refine tri_region ?_
  refine s_mv (.inr rfl) (v := .sc (.bool false)) rfl rfl rfl rfl ?_
  refine rt_nil ?_
  refine tri_seq ?_
  refine tri_seq ?_
  refine tri_region ?_
  refine s_mv (.inl rfl) (by conv => lhs; whnf) rfl rfl rfl ?_
  refine s_lenL rfl sl24 rfl rfl rfl rfl ?_
  refine s_mv (.inl rfl) (by conv => lhs; whnf) rfl rfl rfl ?_
  refine s_lenL rfl sl24 rfl rfl rfl rfl ?_
  refine s_of (st_neI rfl rfl rfl) rfl rfl rfl rfl ?_
  refine rt_nil ?_
  refine tri_cond rfl (fun c1 => ?_) (fun c1 => ?_)
  · replace h := cond_t h c1
    refine tri_seq ?_
    refine tri_region ?_
    refine s_mv (.inr rfl) (v := .sc (.bool false)) rfl rfl rfl rfl ?_
    refine rt_nil ?_
    refine tri_ret ?_
    have e0 := (some1 h); subst e0
    exact endY [] [] (rvC (resTmp rfl) rvN) trivial trivial rfl rfl rfl rfl (.free rfl)
  · replace h := cond_f h c1
    refine tri_skip ?_
    refine tri_seq ?_
    refine tri_seq ?_
    refine tri_region ?_
    refine s_mv (.inr rfl) (v := .sc (.int .i64 0)) rfl rfl rfl rfl ?_
    refine rt_nil ?_
    refine tri_block ?_
    refine tri_lstM 0 rfl (fun hl0 => ?_)
    refine tri_loop (ι := { p : (List Rec) × Nat // p0.drop p.2 = p.1 ∧ w_eqRecordS_l0 p1 p.1 p.2 = some r0 }) (fun p => inv_w_eqRecordS_0 p0 p1 p.1.2) (fun p => p.1.1.length) ⟨(p0, 0), rfl, h⟩ ?_ ?_
    · skip
      refine entX [] [] trivial trivial rfl rfl ?_
      exact ⟨(.free rfl), (.free rfl), (.free rfl), trivial⟩
    · rintro ⟨⟨lrs0, v0_0⟩, hd0, h⟩
      replace hd0 : p0.drop v0_0 = lrs0 := hd0
      replace h : w_eqRecordS_l0 p1 lrs0 v0_0 = some r0 := h
      show Tri _ _ _ (inv_w_eqRecordS_0 p0 p1 v0_0)
      refine tri_seq ?_
      refine tri_seq ?_
      refine tri_region ?_
      refine s_mv (.inl rfl) (by conv => lhs; whnf) rfl rfl rfl ?_
      refine s_mv (.inl rfl) (by conv => lhs; whnf) rfl rfl rfl ?_
      refine s_lenL rfl sl24 rfl rfl rfl rfl ?_
      refine s_of (st_lss rfl rfl rfl) rfl rfl rfl rfl ?_
      refine rt_nil ?_
      refine tri_cond rfl (fun c2 => ?_) (fun c2 => ?_)
      · refine drop_elim hd0 c2 fun e0 rs0 he hx0 hn0 => ?_
        subst he
        rw [w_eqRecordS_l0] at h
        refine tri_skip ?_
        refine tri_seq ?_
        refine tri_block ?_
        refine tri_seq ?_
        refine tri_draw mixed ?_
        refine s_mv (.inl rfl) (by conv => lhs; whnf) rfl rfl rfl ?_
        refine s_mv (.inl rfl) (by conv => lhs; whnf) rfl rfl rfl ?_
        refine s_indexF (i := v0_0) rfl rfl rfl sl24 (get_ltM hx0) rfl rfl rfl ?_
        refine s_loadFR rfl rfl (rowG hx0) ty39 rfl rfl rfl ?_
        refine s_mv (.inl rfl) (by conv => lhs; whnf) rfl rfl rfl ?_
        refine s_mv (.inl rfl) (by conv => lhs; whnf) rfl rfl rfl ?_
        refine bnd1_elim h fun x3 q4 h => ?_
        have q4a := (idx_some q4).1; have q4b := (idx_some q4).2
        refine s_indexFZ rfl rfl rfl sl24 q4a (get_ltM q4b) rfl rfl rfl ?_
        refine s_loadFR rfl rfl (rowG q4b) ty39 rfl rfl rfl ?_
        refine bnd1_elim h fun x5 q6 h => ?_
        refine s_callN (kb := []) (ns := []) (v := .sc (.bool x5)) rfl rfl cl163 (ww_eqRecord e0 x3 x5 q6) rfl (.cons (relAgg rfl) (.cons (relAgg rfl) .nil)) trivial memNil .nil memNil rfl trivial memNil rfl rfl rfl rfl rfl rfl ?_
        refine s_of (st_not rfl rfl) rfl rfl rfl rfl ?_
        refine rt_nil ⟨by kernel_rfl, ?_⟩
        refine tri_cond rfl (fun c7 => ?_) (fun c7 => ?_)
        · replace h := cond_t h c7
          refine tri_seq ?_
          refine tri_region ?_
          refine s_mv (.inr rfl) (v := .sc (.bool false)) rfl rfl rfl rfl ?_
          refine rt_nil ?_
          refine tri_ret ?_
          have e0 := (some1 h); subst e0
          exact endY [] [] (rvC (resTmp rfl) rvN) trivial trivial rfl rfl rfl rfl (.free rfl)
        · replace h := cond_f h c7
          refine tri_skip ?_
          refine tri_region ?_
          refine s_mv (.inl rfl) (by conv => lhs; whnf) rfl rfl rfl ?_
          refine s_inc (a := v0_0) (b := 1) rfl rfl rfl rfl (by have := get_lt hx0; have := hl0; omega) rfl rfl rfl ?_
          refine s_mv (.inr rfl) (by conv => lhs; whnf) rfl rfl rfl ?_
          refine rt_nil ?_
          refine Exists.intro ⟨(rs0, (v0_0 + 1)), hn0, h⟩ (And.intro (Nat.lt_succ_self _) ?_)
          refine entX [] [] trivial trivial rfl rfl ?_
          exact ⟨(.free rfl), (.free rfl), (.free rfl), trivial⟩
      · have he := drop_f hd0 c2; subst he
        rw [w_eqRecordS_l0] at h
        refine tri_exit ?_
        refine tri_seq ?_
        refine tri_region ?_
        refine s_mv (.inr rfl) (v := .sc (.bool true)) rfl rfl rfl rfl ?_
        refine rt_nil ?_
        refine tri_ret ?_
        have e0 := (some1 h); subst e0
        exact endY [] [] (rvC (resTmp rfl) rvN) trivial trivial rfl rfl rfl rfl (.free rfl)

/- laws.eqFact -/

set_option maxRecDepth 4000 in
set_option maxHeartbeats 800000 in
theorem ww_eqFact (p0 : MFact) (p1 : MFact) (r0 : Bool) (h : w_eqFact p0 p1 = some r0) : Runs Tryd.prog 34 [.agg (mFactV p0), .agg (mFactV p1)] [] (.sc (.bool r0)) [] := by
  unfold w_eqFact at h
  refine runsR [.tmp 4] Tryd.func34 rfl rfl rfl rfl ?_
  rw [Tryd.ntmps34]
  refine tri_seq ?_
  refine tri_region ?_
  refine s_box rfl rfl rfl rfl rfl rfl rfl ?_
  refine s_box rfl rfl rfl rfl rfl rfl rfl ?_
  refine s_mv (.inr rfl) (v := .sc (.bool false)) rfl rfl rfl rfl ?_
  refine rt_nil ?_
  refine tri_seq ?_
  refine tri_seq ?_
  refine tri_region ?_
  refine s_fieldAddr rfl rfl fd63_0 rfl rfl rfl rfl ?_
  refine s_load rfl rfl rfl rfl ty3 rfl (.inr rfl) (by conv => lhs; whnf) rfl rfl rfl ?_
  refine s_fieldAddr rfl rfl fd63_0 rfl rfl rfl rfl ?_
  refine s_load rfl rfl rfl rfl ty3 rfl (.inr rfl) (by conv => lhs; whnf) rfl rfl rfl ?_
  refine s_of (st_neI rfl rfl rfl) rfl rfl rfl rfl ?_
  refine rt_nil ?_
  refine tri_cond rfl (fun c1 => ?_) (fun c1 => ?_)
  · replace h := cond_t h c1
    refine tri_seq ?_
    refine tri_region ?_
    refine s_mv (.inr rfl) (v := .sc (.bool false)) rfl rfl rfl rfl ?_
    refine rt_nil ?_
    refine tri_ret ?_
    have e0 := (some1 h); subst e0
    exact endY [] [] (rvC (resTmp rfl) rvN) trivial trivial rfl rfl rfl rfl (.free rfl)
  · replace h := cond_f h c1
    refine tri_skip ?_
    refine tri_seq ?_
    refine tri_seq ?_
    refine tri_region ?_
    refine s_fieldAddr rfl rfl fd63_1 rfl rfl rfl rfl ?_
    refine s_load rfl rfl rfl rfl ty24 rfl (.inr rfl) (by conv => lhs; whnf) rfl rfl rfl ?_
    refine s_fieldAddr rfl rfl fd63_1 rfl rfl rfl rfl ?_
    refine s_load rfl rfl rfl rfl ty24 rfl (.inr rfl) (by conv => lhs; whnf) rfl rfl rfl ?_
    refine bnd1_elim h fun x2 q3 h => ?_
    refine s_callN (kb := []) (ns := []) (v := .sc (.bool x2)) rfl rfl cl111 (ww_eqRecordS p0.links p1.links x2 q3) rfl (.cons (.free rfl) (.cons (.free rfl) .nil)) trivial memNil .nil memNil rfl trivial memNil rfl rfl rfl rfl rfl rfl ?_
    refine s_of (st_not rfl rfl) rfl rfl rfl rfl ?_
    refine rt_nil ?_
    refine tri_cond rfl (fun c4 => ?_) (fun c4 => ?_)
    · replace h := cond_t h c4
      refine tri_seq ?_
      refine tri_region ?_
      refine s_mv (.inr rfl) (v := .sc (.bool false)) rfl rfl rfl rfl ?_
      refine rt_nil ?_
      refine tri_ret ?_
      have e0 := (some1 h); subst e0
      exact endY [] [] (rvC (resTmp rfl) rvN) trivial trivial rfl rfl rfl rfl (.free rfl)
    · replace h := cond_f h c4
      refine tri_skip ?_
      refine tri_seq ?_
      refine tri_seq ?_
      refine tri_region ?_
      refine s_fieldAddr rfl rfl fd63_2 rfl rfl rfl rfl ?_
      refine s_load rfl rfl rfl rfl ty24 rfl (.inr rfl) (by conv => lhs; whnf) rfl rfl rfl ?_
      refine s_fieldAddr rfl rfl fd63_2 rfl rfl rfl rfl ?_
      refine s_load rfl rfl rfl rfl ty24 rfl (.inr rfl) (by conv => lhs; whnf) rfl rfl rfl ?_
      refine bnd1_elim h fun x5 q6 h => ?_
      refine s_callN (kb := []) (ns := []) (v := .sc (.bool x5)) rfl rfl cl111 (ww_eqRecordS p0.l p1.l x5 q6) rfl (.cons (.free rfl) (.cons (.free rfl) .nil)) trivial memNil .nil memNil rfl trivial memNil rfl rfl rfl rfl rfl rfl ?_
      refine s_of (st_not rfl rfl) rfl rfl rfl rfl ?_
      refine rt_nil ?_
      refine tri_cond rfl (fun c7 => ?_) (fun c7 => ?_)
      · replace h := cond_t h c7
        refine tri_seq ?_
        refine tri_region ?_
        refine s_mv (.inr rfl) (v := .sc (.bool false)) rfl rfl rfl rfl ?_
        refine rt_nil ?_
        refine tri_ret ?_
        have e0 := (some1 h); subst e0
        exact endY [] [] (rvC (resTmp rfl) rvN) trivial trivial rfl rfl rfl rfl (.free rfl)
      · replace h := cond_f h c7
        refine tri_skip ?_
        refine tri_seq ?_
        refine tri_seq ?_
        refine tri_region ?_
        refine s_fieldAddr rfl rfl fd63_3 rfl rfl rfl rfl ?_
        refine s_load rfl rfl rfl rfl ty4 rfl (.inr rfl) (by conv => lhs; whnf) rfl rfl rfl ?_
        refine s_fieldAddr rfl rfl fd63_3 rfl rfl rfl rfl ?_
        refine s_load rfl rfl rfl rfl ty4 rfl (.inr rfl) (by conv => lhs; whnf) rfl rfl rfl ?_
        refine s_of (st_neB isb4 rfl rfl rfl) rfl rfl rfl rfl ?_
        refine rt_nil ?_
        refine tri_cond rfl (fun c8 => ?_) (fun c8 => ?_)
        · replace h := cond_t h c8
          refine tri_seq ?_
          refine tri_region ?_
          refine s_mv (.inr rfl) (v := .sc (.bool false)) rfl rfl rfl rfl ?_
          refine rt_nil ?_
          refine tri_ret ?_
          have e0 := (some1 h); subst e0
          exact endY [] [] (rvC (resTmp rfl) rvN) trivial trivial rfl rfl rfl rfl (.free rfl)
        · replace h := cond_f h c8
          refine tri_skip ?_
          refine tri_seq ?_
          refine tri_region ?_
          refine s_mv (.inr rfl) (v := .sc (.bool true)) rfl rfl rfl rfl ?_
          refine rt_nil ?_
          refine tri_ret ?_
          have e0 := (some1 h); subst e0
          exact endY [] [] (rvC (resTmp rfl) rvN) trivial trivial rfl rfl rfl rfl (.free rfl)

/- laws.FnExactFactText -/

set_option maxRecDepth 4000 in
set_option maxHeartbeats 800000 in
theorem ww_FnExactFactText (p0 : MFact) (r0 : Bool) (h : w_FnExactFactText p0 = some r0) : Runs Tryd.prog 5 [.agg (mFactV p0)] [] (.sc (.bool r0)) [] := by
  unfold w_FnExactFactText at h
  refine runsR [.tmp 2] Tryd.func5 rfl rfl rfl rfl ?_
  rw [Tryd.ntmps5]
  refine tri_seq ?_
  refine tri_region ?_
  refine s_box rfl rfl rfl rfl rfl rfl rfl ?_
  refine s_mv (.inr rfl) (v := .sc (.bool false)) rfl rfl rfl rfl ?_
  refine rt_nil ?_
  refine tri_seq ?_
  refine tri_region ?_
  refine s_mv (.inr rfl) (v := .sc (.int .i64 1048576)) rfl rfl rfl rfl ?_
  refine rt_nil ?_
  refine tri_seq ?_
  refine tri_region ?_
  refine s_loadR rfl rfl rfl rfl ty59 rfl rfl rfl ?_
  refine s_mv (.inl rfl) (by conv => lhs; whnf) rfl rfl rfl ?_
  refine bnd1_elim h fun x1 q2 h => ?_
  refine s_callN (kb := []) (ns := []) (v := .sc (.int .i64 x1)) rfl rfl cl30 (ww_szFact p0 1048576 x1 q2) rfl (.cons (relAgg rfl) (.cons (.free rfl) .nil)) trivial memNil .nil memNil rfl trivial memNil rfl rfl rfl rfl rfl rfl ?_
  refine s_mv (.inr rfl) (by conv => lhs; whnf) rfl rfl rfl ?_
  refine rt_nil ?_
  refine tri_seq ?_
  refine tri_seq ?_
  refine tri_region ?_
  refine s_mv (.inl rfl) (by conv => lhs; whnf) rfl rfl rfl ?_
  refine s_of (st_lss rfl rfl rfl) rfl rfl rfl rfl ?_
  refine rt_nil ?_
  refine tri_cond rfl (fun c3 => ?_) (fun c3 => ?_)
  · replace h := cond_t h c3
    refine tri_seq ?_
    refine tri_region ?_
    refine s_mv (.inr rfl) (v := .sc (.bool true)) rfl rfl rfl rfl ?_
    refine rt_nil ?_
    refine tri_ret ?_
    have e0 := (some1 h); subst e0
    exact endY [] [] (rvC (resTmp rfl) rvN) trivial trivial rfl rfl rfl rfl (.free rfl)
  · replace h := cond_f h c3
    refine tri_skip ?_
    refine tri_seq ?_
    refine tri_region ?_
    refine s_loadR rfl rfl rfl rfl ty59 rfl rfl rfl ?_
    refine bnd1_elim h fun x4 q5 h => ?_
    refine s_callN (kb := []) (ns := []) (v := .agg [.sc (.int .i64 x4.code), .ref (13, 1) 0 x4.links.length, .ref (13, 2) 0 x4.l.length, .sc (.bool x4.fin)]) rfl rfl cl32 (ww_toFact p0 x4 q5) rfl (.cons (relAgg rfl) .nil) trivial memNil .nil memNil rfl ⟨(allSc_map recV_sc), ⟨(allSc_map recV_sc), trivial⟩⟩ memNil rfl (by first | (simp only [V.mat, V.mat1, V.mat0, matL, matT, List.length_map]; done) | (simp only [V.mat, V.mat1, V.mat0, matL, matT, List.length_map]; rfl)) rfl rfl rfl rfl ?_
    refine bnd1_elim h fun x6 q7 h => ?_
    refine s_callN (kb := [(13, 1), (13, 2)]) (ns := []) (v := .sc (.string x6)) rfl rfl cl31 (ws_FactText x4 x6 q7) rfl (.cons (relAggL (.cons (.free rfl) (.cons (lendL rfl (.head _) rfl recV_free recV_len) (.cons (lendL rfl (.tail _ (.head _)) rfl recV_free recV_len) (.cons (.free rfl) .nil))))) .nil) trivial memNil .nil (fun _ _ => List.not_mem_nil) rfl trivial memNil rfl rfl rfl rfl rfl rfl ?_
    refine s_mv (.inr rfl) (by conv => lhs; whnf) rfl rfl rfl ?_
    refine rt_nil ?_
    refine tri_seq ?_
    refine tri_region ?_
    refine s_loadR rfl rfl rfl rfl ty59 rfl rfl rfl ?_
    refine bnd1_elim h fun x8 q9 h => ?_
    refine s_callN (kb := []) (ns := []) (v := .agg [.sc (.int .i64 x8.code), .ref (16, 1) 0 x8.links.length, .ref (16, 2) 0 x8.l.length, .sc (.bool x8.fin)]) rfl rfl cl32 (ww_toFact p0 x8 q9) rfl (.cons (relAgg rfl) .nil) trivial memNil .nil memNil rfl ⟨(allSc_map recV_sc), ⟨(allSc_map recV_sc), trivial⟩⟩ memNil rfl (by first | (simp only [V.mat, V.mat1, V.mat0, matL, matT, List.length_map]; done) | (simp only [V.mat, V.mat1, V.mat0, matL, matT, List.length_map]; rfl)) rfl rfl rfl rfl ?_
    refine s_alloc rfl rfl rfl zc63 rfl rfl rfl rfl rfl ?_
    refine s_storeB rfl rfl rfl ty63 rfl rfl rfl rfl rfl ?_
    refine rt_nil ?_
    refine tri_seq ?_
    refine tri_region ?_
    refine s_loadR rfl rfl rfl rfl ty63 rfl rfl rfl ?_
    refine bnd1_elim h fun x10 q11 h => ?_
    refine s_callN (kb := [(16, 1), (16, 2)]) (ns := []) (v := .sc (.string x10)) rfl rfl cl33 (wi_FactText x8 x10 q11) rfl (.cons (relAggL (.cons (.free rfl) (.cons (lendL rfl (.head _) rfl recV_free recV_len) (.cons (lendL rfl (.tail _ (.head _)) rfl recV_free recV_len) (.cons (.free rfl) .nil))))) .nil) trivial memNil .nil (fun _ _ => List.not_mem_nil) rfl trivial memNil rfl rfl rfl rfl rfl rfl ?_
    refine s_mv (.inr rfl) (by conv => lhs; whnf) rfl rfl rfl ?_
    refine rt_nil ?_
    refine tri_seq ?_
    refine tri_seq ?_
    refine tri_region ?_
    refine s_mv (.inl rfl) (by conv => lhs; whnf) rfl rfl rfl ?_
    refine s_mv (.inl rfl) (by conv => lhs; whnf) rfl rfl rfl ?_
    refine s_of (st_neS rfl rfl rfl) rfl rfl rfl rfl ?_
    refine rt_nil ?_
    refine tri_cond rfl (fun c12 => ?_) (fun c12 => ?_)
    · replace h := cond_t h c12
      refine tri_seq ?_
      refine tri_region ?_
      refine s_mv (.inr rfl) (v := .sc (.bool false)) rfl rfl rfl rfl ?_
      refine rt_nil ?_
      refine tri_ret ?_
      have e0 := (some1 h); subst e0
      exact endY [] [] (rvC (resTmp rfl) rvN) trivial trivial rfl rfl rfl rfl (.free rfl)
    · replace h := cond_f h c12
      refine tri_skip ?_
      refine tri_seq ?_
      refine tri_seq ?_
      refine tri_draw mixed ?_
      refine s_loadR rfl rfl rfl rfl ty63 rfl rfl rfl ?_
      refine s_loadR rfl rfl rfl rfl ty59 rfl rfl rfl ?_
      refine bnd1_elim h fun x13 q14 h => ?_
      refine s_callN (kb := []) (ns := []) (v := .agg [.sc (.int .i64 x13.code), .ref (24, 1) 0 x13.links.length, .ref (24, 2) 0 x13.l.length, .sc (.bool x13.fin)]) rfl rfl cl32 (ww_toFact p0 x13 q14) rfl (.cons (relAgg rfl) .nil) trivial memNil .nil memNil rfl ⟨(allSc_map recV_sc), ⟨(allSc_map recV_sc), trivial⟩⟩ memNil rfl (by first | (simp only [V.mat, V.mat1, V.mat0, matL, matT, List.length_map]; done) | (simp only [V.mat, V.mat1, V.mat0, matL, matT, List.length_map]; rfl)) rfl rfl rfl rfl ?_
      refine bnd1_elim h fun x15 q16 h => ?_
      refine s_callN (kb := [(16, 1), (16, 2), (24, 1), (24, 2)]) (ns := []) (v := .sc (.bool x15)) rfl rfl cl34 (ww_eqFact x8 x13 x15 q16) rfl (.cons (relAggL (.cons (.free rfl) (.cons (lendL rfl (.head _) rfl recV_free recV_len) (.cons (lendL rfl (.tail _ (.head _)) rfl recV_free recV_len) (.cons (.free rfl) .nil))))) (.cons (relAggL (.cons (.free rfl) (.cons (lendL rfl (.tail _ (.tail _ (.head _))) rfl recV_free recV_len) (.cons (lendL rfl (.tail _ (.tail _ (.tail _ (.head _)))) rfl recV_free recV_len) (.cons (.free rfl) .nil))))) .nil)) trivial memNil .nil (fun _ _ => List.not_mem_nil) rfl trivial memNil rfl rfl rfl rfl rfl rfl ?_
      refine s_of (st_not rfl rfl) rfl rfl rfl rfl ?_
      refine rt_nil ⟨by kernel_rfl, ?_⟩
      refine tri_cond rfl (fun c17 => ?_) (fun c17 => ?_)
      · replace h := cond_t h c17
        refine tri_seq ?_
        refine tri_region ?_
        refine s_mv (.inr rfl) (v := .sc (.bool false)) rfl rfl rfl rfl ?_
        refine rt_nil ?_
        refine tri_ret ?_
        have e0 := (some1 h); subst e0
        exact endY [] [] (rvC (resTmp rfl) rvN) trivial trivial rfl rfl rfl rfl (.free rfl)
      · replace h := cond_f h c17
        refine tri_skip ?_
        refine tri_seq ?_
        refine tri_region ?_
        refine s_mv (.inr rfl) (v := .sc (.bool true)) rfl rfl rfl rfl ?_
        refine rt_nil ?_
        refine tri_ret ?_
        have e0 := (some1 h); subst e0
        exact endY [] [] (rvC (resTmp rfl) rvN) trivial trivial rfl rfl rfl rfl (.free rfl)

end Go.Abs.M
