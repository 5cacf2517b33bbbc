/- Walks of the functions that the law of FactOf reaches: what each of them computes, where its pure function does not fail. -/
import Derived.Test.YtepbpkfchioicaaDoorWalkFactOf0
set_option linter.unusedSimpArgs false
set_option linter.unusedVariables false
namespace Go.Abs.M
open Go Go.Abs Go.Proofs
theorem byt132 : isBytes Tryd.prog 132 = some 5 := by kernel_rfl
theorem cl102 : callable Tryd.prog 102 = true := by kernel_rfl
theorem cl111 : callable Tryd.prog 111 = true := by kernel_rfl
theorem cl112 : callable Tryd.prog 112 = true := by kernel_rfl
theorem cl118 : callable Tryd.prog 118 = true := by kernel_rfl
theorem cl119 : callable Tryd.prog 119 = true := by kernel_rfl
theorem cl125 : callable Tryd.prog 125 = true := by kernel_rfl
theorem cl139 : callable Tryd.prog 139 = true := by kernel_rfl
theorem cl141 : callable Tryd.prog 141 = true := by kernel_rfl
theorem cl15 : callable Tryd.prog 15 = true := by kernel_rfl
theorem cl17 : callable Tryd.prog 17 = true := by kernel_rfl
theorem cl18 : callable Tryd.prog 18 = true := by kernel_rfl
theorem cl19 : callable Tryd.prog 19 = true := by kernel_rfl
theorem cl21 : callable Tryd.prog 21 = true := by kernel_rfl
theorem cl24 : callable Tryd.prog 24 = true := by kernel_rfl
theorem cl25 : callable Tryd.prog 25 = true := by kernel_rfl
theorem cl26 : callable Tryd.prog 26 = true := by kernel_rfl
theorem cl30 : callable Tryd.prog 30 = true := by kernel_rfl
theorem cl31 : callable Tryd.prog 31 = true := by kernel_rfl
theorem cl33 : callable Tryd.prog 33 = true := by kernel_rfl
theorem cl34 : callable Tryd.prog 34 = true := by kernel_rfl
theorem cl40 : callable Tryd.prog 40 = true := by kernel_rfl
theorem cl50 : callable Tryd.prog 50 = true := by kernel_rfl
theorem cl58 : callable Tryd.prog 58 = true := by kernel_rfl
theorem cl59 : callable Tryd.prog 59 = true := by kernel_rfl
theorem cl60 : callable Tryd.prog 60 = true := by kernel_rfl
theorem cl61 : callable Tryd.prog 61 = true := by kernel_rfl
theorem cl62 : callable Tryd.prog 62 = true := by kernel_rfl
theorem cl69 : callable Tryd.prog 69 = true := by kernel_rfl
theorem cl70 : callable Tryd.prog 70 = true := by kernel_rfl
theorem cl71 : callable Tryd.prog 71 = true := by kernel_rfl
theorem cl72 : callable Tryd.prog 72 = true := by kernel_rfl
theorem cl78 : callable Tryd.prog 78 = true := by kernel_rfl
theorem cl79 : callable Tryd.prog 79 = true := by kernel_rfl
theorem cl80 : callable Tryd.prog 80 = true := by kernel_rfl
theorem cl81 : callable Tryd.prog 81 = true := by kernel_rfl
theorem cl85 : callable Tryd.prog 85 = true := by kernel_rfl
theorem cl86 : callable Tryd.prog 86 = true := by kernel_rfl
theorem cl91 : callable Tryd.prog 91 = true := by kernel_rfl
theorem cl92 : callable Tryd.prog 92 = true := by kernel_rfl
theorem fd79_3 : fldTy Tryd.prog 79 3 = some (3, 0 + 1, false) := by kernel_rfl
theorem ik3 : intK Tryd.prog 3 = some .i64 := by kernel_rfl
theorem ik5 : intK Tryd.prog 5 = some .u8 := by kernel_rfl
theorem isb4 : isBool Tryd.prog 4 = true := by kernel_rfl
theorem sl132 : slTy Tryd.prog 132 = some (5, 1, 1) := by kernel_rfl
theorem ty25 : tyK Tryd.prog 25 = some (true, 2) := by kernel_rfl
theorem ty39 : tyK Tryd.prog 39 = some (true, 2) := by kernel_rfl
theorem ty4 : tyK Tryd.prog 4 = some (false, 1) := by kernel_rfl
theorem zc5 : zeroC Tryd.prog 5 = some [.int .u8 0] := by kernel_rfl
/- impl.deepest -/
def inv_i_deepest_1 (p0 : MForest) (p1 : ByteArray) (fi2 : FuncId) (cp2 : List V) (v0_0 : Int) (v0_1 : Nat) (j1_0 : Bool) : St := mkT 48 [(1, .sc (.string p1)), (2, .fn fi2 cp2), (3, .ptr (3, 0) 0 0), (7, .sc (.int .i64 v0_0)), (8, .sc (.int .i64 (v0_1 : Int))), (11, .lst 2 (List.map mZoneV p0.zones)), (12, .sc (.int .i64 (p0.zones.length : Int))), (13, .sc (.int .i64 (v0_1 : Int))), (44, .sc (.bool j1_0))] [((3, 0), some ⟨31, 2, [[.lst 2 (List.map mZoneV p0.zones), .lst 2 (List.map mPostV p0.posts)]], false, true⟩)]
def inv_i_deepest_0 (p0 : MForest) (p1 : ByteArray) (fi2 : FuncId) (cp2 : List V) (v0_0 : Int) (v0_1 : Nat) : St := mkT 48 [(1, .sc (.string p1)), (2, .fn fi2 cp2), (3, .ptr (3, 0) 0 0), (7, .sc (.int .i64 v0_0)), (11, .lst 2 (List.map mZoneV p0.zones)), (12, .sc (.int .i64 (p0.zones.length : Int))), (13, .sc (.int .i64 (v0_1 : Int)))] [((3, 0), some ⟨31, 2, [[.lst 2 (List.map mZoneV p0.zones), .lst 2 (List.map mPostV p0.posts)]], false, true⟩)]
set_option maxRecDepth 4000 in
set_option maxHeartbeats 800000 in
theorem wi_deepest (p0 : MForest) (p1 : ByteArray) (fi2 : FuncId) (cp2 : List V) (hf2 : cp2.all (·.free) = true) (hb2 : callable Tryd.prog fi2 = true) (p2 : ByteArray → Option Bool) (hg2 : ∀ (z0 : ByteArray) v, p2 z0 = some v → Runs Tryd.prog fi2 ([.sc (.string z0)] ++ cp2) [] (.sc (.bool v)) []) (r0 : Int) (h : i_deepest p0 p1 p2 = some r0) : Runs Tryd.prog 69 [.agg (mForestV p0), .sc (.string p1), .fn fi2 cp2] [] (.sc (.int .i64 r0)) [] := by
  unfold i_deepest at h
  refine runsR [.tmp 6] Tryd.func69 rfl rfl rfl rfl ?_
  rw [Tryd.ntmps69]
  refine tri_seq ?_
  refine tri_region ?_
  refine s_box rfl rfl rfl rfl rfl rfl rfl ?_
  refine s_mv (.inr rfl) (v := .sc (.int .i64 0)) rfl rfl rfl rfl ?_
  refine rt_nil ?_
  refine tri_seq ?_
  refine tri_region ?_
  refine s_mv (.inr rfl) (v := .sc (.int .i64 (-1))) rfl rfl rfl rfl ?_
  refine rt_nil ?_
  refine tri_seq ?_
  refine tri_seq ?_
  refine tri_region ?_
  refine s_fieldAddr rfl rfl fd31_0 rfl rfl rfl rfl ?_
  refine s_load rfl rfl rfl rfl ty28 rfl (.inr rfl) (by conv => lhs; whnf) rfl rfl rfl ?_
  refine s_lenL rfl sl28 rfl rfl rfl rfl ?_
  refine s_mv (.inl rfl) (v := .sc (.int .i64 0)) rfl rfl rfl rfl ?_
  refine rt_nil ?_
  refine tri_block ?_
  refine tri_aggM 0 0 rfl rfl (fun hl0 => ?_)
  refine tri_loop (ι := { p : (List MZone) × Int × Nat // p0.zones.drop p.2.2 = p.1 ∧ i_deepest_l0 p0 p1 p2 p.1 p.2.1 p.2.2 = some r0 }) (fun p => inv_i_deepest_0 p0 p1 fi2 cp2 p.1.2.1 p.1.2.2) (fun p => p.1.1.length) ⟨(p0.zones, (-1), 0), rfl, h⟩ ?_ ?_
  · skip
    refine entX [((3, 0), ⟨31, 2, [[.lst 2 (List.map mZoneV p0.zones), .lst 2 (List.map mPostV p0.posts)]], false, true⟩, some (3, 0))] [] ⟨⟨rfl, _, rfl, rfl, rfl, rfl, id, rowsCv_one (.cons (.free rfl) (.cons (.free rfl) .nil)), rowsZ_one rfl⟩, trivial⟩ trivial rfl rfl ?_
    exact ⟨(.free rfl), (cvFn hf2), (.ptr rfl), (.free rfl), (.free rfl), (.free rfl), (.free rfl), trivial⟩
  · rintro ⟨⟨lrs0, v0_0, v0_1⟩, hd0, h⟩
    replace hd0 : p0.zones.drop v0_1 = lrs0 := hd0
    replace h : i_deepest_l0 p0 p1 p2 lrs0 v0_0 v0_1 = some r0 := h
    show Tri _ _ _ (inv_i_deepest_0 p0 p1 fi2 cp2 v0_0 v0_1)
    refine tri_seq ?_
    refine tri_region ?_
    refine s_of (st_lss rfl rfl rfl) rfl rfl rfl rfl ?_
    refine rt_nil ?_
    refine tri_seq ?_
    refine tri_cond rfl (fun c1 => ?_) (fun c1 => ?_)
    · refine drop_elim hd0 c1 fun e0 rs0 he hx0 hn0 => ?_
      subst he
      rw [i_deepest_l0] at h
      refine tri_skip ?_
      refine tri_seq ?_
      refine tri_block ?_
      refine tri_seq ?_
      refine tri_region ?_
      refine s_mv (.inl rfl) (by conv => lhs; whnf) rfl rfl rfl ?_
      refine s_indexF (i := v0_1) rfl rfl rfl sl28 (get_ltM hx0) rfl rfl rfl ?_
      refine s_loadFR rfl rfl (rowG hx0) ty45 rfl rfl rfl ?_
      refine s_alloc rfl rfl rfl zc45 rfl rfl rfl rfl rfl ?_
      refine s_mv (.inr rfl) (by conv => lhs; whnf) rfl rfl rfl ?_
      refine s_storeB rfl rfl rfl ty45 rfl rfl rfl rfl rfl ?_
      refine rt_nil ?_
      refine tri_cutI (ι := { p : Bool // i_deepest_j1 v0_0 v0_1 (i_deepest_l0 p0 p1 p2 rs0) p = some r0 }) (fun p => inv_i_deepest_1 p0 p1 fi2 cp2 v0_0 v0_1 p.1) ?_ ?_
      · skip
        refine tri_draw mixed ?_
        refine s_mv (.inl rfl) (by conv => lhs; whnf) rfl rfl rfl ?_
        refine s_fieldAddr rfl rfl fd45_0 rfl rfl rfl rfl ?_
        refine s_load rfl rfl rfl rfl ty9 rfl (.inr rfl) (by conv => lhs; whnf) rfl rfl rfl ?_
        refine bnd1_elim h fun x2 q3 h => ?_
        refine s_callN (kb := []) (ns := []) (v := .sc (.bool x2)) rfl rfl cl79 (wi_Under p1 e0.apex x2 q3) rfl (.cons (.free rfl) (.cons (.free rfl) .nil)) trivial memNil .nil memNil rfl trivial memNil rfl rfl rfl rfl rfl rfl ?_
        refine s_mv (.inl rfl) (by conv => lhs; whnf) rfl rfl rfl ?_
        refine s_split (t := 22) rfl (fun b4 => ?_) (fun b4 => ?_)
        · replace h := cond_t h b4
          refine s_mv (.inl rfl) (by conv => lhs; whnf) rfl rfl rfl ?_
          refine s_fieldAddr rfl rfl fd45_0 rfl rfl rfl rfl ?_
          refine s_load rfl rfl rfl rfl ty9 rfl (.inr rfl) (by conv => lhs; whnf) rfl rfl rfl ?_
          refine bnd1_elim h fun x5 q6 h => ?_
          refine s_callN (kb := []) (ns := []) (v := .sc (.bool x5)) rfl rfl hb2 (hg2 e0.apex x5 q6) rfl (.cons (.free rfl) (argsFree hf2)) trivial memNil .nil memNil rfl trivial memNil rfl rfl rfl rfl rfl rfl ?_
          refine s_pickT rfl rfl (by conv => lhs; whnf) rfl rfl rfl ?_
          refine s_mv (.inl rfl) (by conv => lhs; whnf) rfl rfl rfl ?_
          refine s_split (t := 28) rfl (fun b7 => ?_) (fun b7 => ?_)
          · replace h := cond_t h b7
            refine s_mv (.inl rfl) (by conv => lhs; whnf) rfl rfl rfl ?_
            refine s_of (st_lss rfl rfl rfl) rfl rfl rfl rfl ?_
            refine s_mv (.inl rfl) (by conv => lhs; whnf) rfl rfl rfl ?_
            refine s_split (t := 31) rfl (fun b8 => ?_) (fun b8 => ?_)
            · replace h := cond_t h b8
              refine s_skip rfl rfl rfl ?_
              refine s_skip rfl rfl rfl ?_
              refine s_skip rfl rfl rfl ?_
              refine s_skip rfl rfl rfl ?_
              refine s_skip rfl rfl rfl ?_
              refine s_skip rfl rfl rfl ?_
              refine s_skip rfl rfl rfl ?_
              refine s_skip rfl rfl rfl ?_
              refine s_skip rfl rfl rfl ?_
              refine s_skip rfl rfl rfl ?_
              refine s_skip rfl rfl rfl ?_
              refine s_pickT rfl rfl (v := .sc (.bool true)) rfl rfl rfl rfl ?_
              refine s_pickT rfl rfl (by conv => lhs; whnf) rfl rfl rfl ?_
              refine rt_nil ⟨by kernel_rfl, ?_⟩
              refine Exists.intro ⟨true, h⟩ ?_
              refine entX [((3, 0), ⟨31, 2, [[.lst 2 (List.map mZoneV p0.zones), .lst 2 (List.map mPostV p0.posts)]], false, true⟩, some (3, 0))] [] ⟨⟨rfl, _, rfl, rfl, rfl, rfl, id, rowsCv_one (.cons (.free rfl) (.cons (.free rfl) .nil)), rowsZ_one rfl⟩, trivial⟩ trivial rfl rfl ?_
              exact ⟨(.free rfl), (cvFn hf2), (.ptr rfl), (.free rfl), (.free rfl), (.free rfl), (.free rfl), (.free rfl), (.free rfl), trivial⟩
            · replace h := cond_f h b8
              refine s_fieldAddr rfl rfl fd45_0 rfl rfl rfl rfl ?_
              refine s_load rfl rfl rfl rfl ty9 rfl (.inr rfl) (by conv => lhs; whnf) rfl rfl rfl ?_
              refine bnd1_elim h fun x9 q10 h => ?_
              refine s_callN (kb := []) (ns := []) (v := .sc (.int .i64 x9)) rfl rfl cl111 (wi_PartsOf e0.apex x9 q10) rfl (.cons (.free rfl) .nil) trivial memNil .nil memNil rfl trivial memNil rfl rfl rfl rfl rfl rfl ?_
              refine s_fieldAddr rfl rfl fd31_0 rfl rfl rfl rfl ?_
              refine s_load rfl rfl rfl rfl ty28 rfl (.inr rfl) (by conv => lhs; whnf) rfl rfl rfl ?_
              refine s_mv (.inl rfl) (by conv => lhs; whnf) rfl rfl rfl ?_
              refine bnd1_elim h fun x11 q12 h => ?_
              have q12a := (idx_some q12).1; have q12b := (idx_some q12).2
              refine s_indexFZ rfl rfl rfl sl28 q12a (get_ltM q12b) rfl rfl rfl ?_
              refine s_fieldAddrF rfl rfl fd45_0 rfl rfl rfl rfl ?_
              refine s_loadF rfl rfl (rowG q12b) ty9 rfl (.inr rfl) (by conv => lhs; whnf) rfl rfl rfl ?_
              refine bnd1_elim h fun x13 q14 h => ?_
              refine s_callN (kb := []) (ns := []) (v := .sc (.int .i64 x13)) rfl rfl cl111 (wi_PartsOf x11.apex x13 q14) rfl (.cons (.free rfl) .nil) trivial memNil .nil memNil rfl trivial memNil rfl rfl rfl rfl rfl rfl ?_
              refine s_of (st_gtr rfl rfl rfl) rfl rfl rfl rfl ?_
              refine s_pickF rfl rfl (by conv => lhs; whnf) rfl rfl rfl ?_
              refine s_pickT rfl rfl (by conv => lhs; whnf) rfl rfl rfl ?_
              refine rt_nil ⟨by kernel_rfl, ?_⟩
              refine Exists.intro ⟨decide (x13 < x9), h⟩ ?_
              refine entX [((3, 0), ⟨31, 2, [[.lst 2 (List.map mZoneV p0.zones), .lst 2 (List.map mPostV p0.posts)]], false, true⟩, some (3, 0))] [] ⟨⟨rfl, _, rfl, rfl, rfl, rfl, id, rowsCv_one (.cons (.free rfl) (.cons (.free rfl) .nil)), rowsZ_one rfl⟩, trivial⟩ trivial rfl rfl ?_
              exact ⟨(.free rfl), (cvFn hf2), (.ptr rfl), (.free rfl), (.free rfl), (.free rfl), (.free rfl), (.free rfl), (.free rfl), trivial⟩
          · replace h := cond_f h b7
            refine s_skip rfl rfl rfl ?_
            refine s_skip rfl rfl rfl ?_
            refine s_skip rfl rfl rfl ?_
            refine s_skip rfl rfl rfl ?_
            refine s_skip rfl rfl rfl ?_
            refine s_skip rfl rfl rfl ?_
            refine s_skip rfl rfl rfl ?_
            refine s_skip rfl rfl rfl ?_
            refine s_skip rfl rfl rfl ?_
            refine s_skip rfl rfl rfl ?_
            refine s_skip rfl rfl rfl ?_
            refine s_skip rfl rfl rfl ?_
            refine s_skip rfl rfl rfl ?_
            refine s_skip rfl rfl rfl ?_
            refine s_skip rfl rfl rfl ?_
            refine s_pickF rfl rfl (v := .sc (.bool false)) rfl rfl rfl rfl ?_
            refine rt_nil ⟨by kernel_rfl, ?_⟩
            refine Exists.intro ⟨false, h⟩ ?_
            refine entX [((3, 0), ⟨31, 2, [[.lst 2 (List.map mZoneV p0.zones), .lst 2 (List.map mPostV p0.posts)]], false, true⟩, some (3, 0))] [] ⟨⟨rfl, _, rfl, rfl, rfl, rfl, id, rowsCv_one (.cons (.free rfl) (.cons (.free rfl) .nil)), rowsZ_one rfl⟩, trivial⟩ trivial rfl rfl ?_
            exact ⟨(.free rfl), (cvFn hf2), (.ptr rfl), (.free rfl), (.free rfl), (.free rfl), (.free rfl), (.free rfl), (.free rfl), trivial⟩
        · replace h := cond_f h b4
          refine s_skip rfl rfl rfl ?_
          refine s_skip rfl rfl rfl ?_
          refine s_skip rfl rfl rfl ?_
          refine s_skip rfl rfl rfl ?_
          refine s_pickF rfl rfl (v := .sc (.bool false)) rfl rfl rfl rfl ?_
          refine s_mv (.inl rfl) (by conv => lhs; whnf) rfl rfl rfl ?_
          refine s_skip rfl rfl rfl ?_
          refine s_skip rfl rfl rfl ?_
          refine s_skip rfl rfl rfl ?_
          refine s_skip rfl rfl rfl ?_
          refine s_skip rfl rfl rfl ?_
          refine s_skip rfl rfl rfl ?_
          refine s_skip rfl rfl rfl ?_
          refine s_skip rfl rfl rfl ?_
          refine s_skip rfl rfl rfl ?_
          refine s_skip rfl rfl rfl ?_
          refine s_skip rfl rfl rfl ?_
          refine s_skip rfl rfl rfl ?_
          refine s_skip rfl rfl rfl ?_
          refine s_skip rfl rfl rfl ?_
          refine s_skip rfl rfl rfl ?_
          refine s_pickF rfl rfl (v := .sc (.bool false)) rfl rfl rfl rfl ?_
          refine rt_nil ⟨by kernel_rfl, ?_⟩
          refine Exists.intro ⟨false, h⟩ ?_
          refine entX [((3, 0), ⟨31, 2, [[.lst 2 (List.map mZoneV p0.zones), .lst 2 (List.map mPostV p0.posts)]], false, true⟩, some (3, 0))] [] ⟨⟨rfl, _, rfl, rfl, rfl, rfl, id, rowsCv_one (.cons (.free rfl) (.cons (.free rfl) .nil)), rowsZ_one rfl⟩, trivial⟩ trivial rfl rfl ?_
          exact ⟨(.free rfl), (cvFn hf2), (.ptr rfl), (.free rfl), (.free rfl), (.free rfl), (.free rfl), (.free rfl), (.free rfl), trivial⟩
      · rintro ⟨j1_0, h⟩
        replace h : i_deepest_j1 v0_0 v0_1 (i_deepest_l0 p0 p1 p2 rs0) j1_0 = some r0 := h
        unfold i_deepest_j1 at h
        show Tri _ _ _ (inv_i_deepest_1 p0 p1 fi2 cp2 v0_0 v0_1 j1_0)
        refine tri_cond rfl (fun c2 => ?_) (fun c2 => ?_)
        · replace h := cond_t h c2
          refine tri_region ?_
          refine s_mv (.inl rfl) (by conv => lhs; whnf) rfl rfl rfl ?_
          refine s_mv (.inr rfl) (by conv => lhs; whnf) rfl rfl rfl ?_
          refine rt_nil ?_
          refine tri_region ?_
          refine s_inc (a := v0_1) (b := 1) rfl rfl rfl rfl (by have := get_lt hx0; have := hl0; omega) rfl rfl rfl ?_
          refine s_mv (.inl rfl) (by conv => lhs; whnf) rfl rfl rfl ?_
          refine rt_nil ?_
          refine Exists.intro ⟨(rs0, (v0_1 : Int), (v0_1 + 1)), hn0, h⟩ (And.intro (Nat.lt_succ_self _) ?_)
          refine entX [((3, 0), ⟨31, 2, [[.lst 2 (List.map mZoneV p0.zones), .lst 2 (List.map mPostV p0.posts)]], false, true⟩, some (3, 0))] [] ⟨⟨rfl, _, rfl, rfl, rfl, rfl, id, rowsCv_one (.cons (.free rfl) (.cons (.free rfl) .nil)), rowsZ_one rfl⟩, trivial⟩ trivial rfl rfl ?_
          exact ⟨(.free rfl), (cvFn hf2), (.ptr rfl), (.free rfl), (.free rfl), (.free rfl), (.free rfl), trivial⟩
        · replace h := cond_f h c2
          refine tri_skip ?_
          refine tri_region ?_
          refine s_inc (a := v0_1) (b := 1) rfl rfl rfl rfl (by have := get_lt hx0; have := hl0; omega) rfl rfl rfl ?_
          refine s_mv (.inl rfl) (by conv => lhs; whnf) rfl rfl rfl ?_
          refine rt_nil ?_
          refine Exists.intro ⟨(rs0, v0_0, (v0_1 + 1)), hn0, h⟩ (And.intro (Nat.lt_succ_self _) ?_)
          refine entX [((3, 0), ⟨31, 2, [[.lst 2 (List.map mZoneV p0.zones), .lst 2 (List.map mPostV p0.posts)]], false, true⟩, some (3, 0))] [] ⟨⟨rfl, _, rfl, rfl, rfl, rfl, id, rowsCv_one (.cons (.free rfl) (.cons (.free rfl) .nil)), rowsZ_one rfl⟩, trivial⟩ trivial rfl rfl ?_
          exact ⟨(.free rfl), (cvFn hf2), (.ptr rfl), (.free rfl), (.free rfl), (.free rfl), (.free rfl), trivial⟩
    · have he := drop_f hd0 c1; subst he
      rw [i_deepest_l0] at h
      refine tri_exit ?_
      refine tri_seq ?_
      refine tri_region ?_
      refine s_mv (.inl rfl) (by conv => lhs; whnf) rfl rfl rfl ?_
      refine s_mv (.inr rfl) (by conv => lhs; whnf) rfl rfl rfl ?_
      refine rt_nil ?_
      refine tri_ret ?_
      have e0 := (some1 h); subst e0
      exact endY [] [] (rvC (resTmp rfl) rvN) trivial trivial rfl rfl rfl rfl (.free rfl)

/- impl.ZoneOf$1 -/

set_option maxRecDepth 4000 in
set_option maxHeartbeats 800000 in
theorem wi_ZoneOf_1 (p0 : ByteArray) (r0 : Bool) (h : i_ZoneOf_1 p0 = some r0) : Runs Tryd.prog 70 [.sc (.string p0)] [] (.sc (.bool r0)) [] := by
  unfold i_ZoneOf_1 at h
  refine runsR [.tmp 2] Tryd.func70 rfl rfl rfl rfl ?_
  rw [Tryd.ntmps70]
  refine tri_seq ?_
  refine tri_region ?_
  refine s_mv (.inr rfl) (v := .sc (.bool false)) rfl rfl rfl rfl ?_
  refine rt_nil ?_
  refine tri_seq ?_
  refine tri_region ?_
  refine s_mv (.inr rfl) (v := .sc (.bool true)) rfl rfl rfl rfl ?_
  refine rt_nil ?_
  refine tri_ret ?_
  have e0 := (some1 h); subst e0
  exact endY [] [] (rvC (resTmp rfl) rvN) trivial trivial rfl rfl rfl rfl (.free rfl)

/- impl.ZoneOf -/

set_option maxRecDepth 4000 in
set_option maxHeartbeats 800000 in
theorem wi_ZoneOf (p0 : MForest) (p1 : ByteArray) (r0 : Int) (h : i_ZoneOf p0 p1 = some r0) : Runs Tryd.prog 18 [.agg (mForestV p0), .sc (.string p1)] [] (.sc (.int .i64 r0)) [] := by
  unfold i_ZoneOf at h
  refine runsR [.tmp 4] Tryd.func18 rfl rfl rfl rfl ?_
  rw [Tryd.ntmps18]
  refine tri_seq ?_
  refine tri_region ?_
  refine s_box rfl rfl rfl rfl rfl rfl rfl ?_
  refine s_mv (.inr rfl) (v := .sc (.int .i64 0)) rfl rfl rfl rfl ?_
  refine rt_nil ?_
  refine tri_seq ?_
  refine tri_region ?_
  refine s_loadR rfl rfl rfl rfl ty31 rfl rfl rfl ?_
  refine s_mv (.inl rfl) (by conv => lhs; whnf) rfl rfl rfl ?_
  refine bnd1_elim h fun x1 q2 h => ?_
  refine s_callN (kb := []) (ns := []) (v := .sc (.int .i64 x1)) rfl rfl cl69 (wi_deepest (MForest.mk p0.zones p0.posts) p1 70 [] rfl cl70 (fun a0 => i_ZoneOf_1 a0) (fun a0 v0 hv => wi_ZoneOf_1 a0 v0 hv) x1 q2) rfl (.cons (relAgg rfl) (.cons (.free rfl) (.cons relFn0 .nil))) trivial memNil .nil memNil rfl trivial memNil rfl rfl rfl rfl rfl rfl ?_
  refine s_mv (.inr rfl) (by conv => lhs; whnf) rfl rfl rfl ?_
  refine rt_nil ?_
  refine tri_ret ?_
  have e0 := (some1 h); subst e0
  exact endY [] [] (rvC (resTmp rfl) rvN) trivial trivial rfl rfl rfl rfl (.free rfl)

/- slices.Index[[]string,string] -/
def inv_slices_Index_string_0 (p0 : List ByteArray) (p1 : ByteArray) (v0_0 : Nat) : St := mkT 19 [(0, .lst 1 (List.map strV p0)), (1, .sc (.string p1)), (7, .sc (.int .i64 (p0.length : Int))), (8, .sc (.int .i64 (v0_0 : Int)))] []
set_option maxRecDepth 4000 in
set_option maxHeartbeats 800000 in
theorem wslices_Index_string (p0 : List ByteArray) (p1 : ByteArray) (r0 : Int) (h : slices_Index_string p0 p1 = some r0) : Runs Tryd.prog 141 [.lst 1 (List.map strV p0), .sc (.string p1)] [] (.sc (.int .i64 r0)) [] := by
  unfold slices_Index_string at h
  refine runsR [.tmp 4] Tryd.func141 rfl rfl rfl rfl ?_
  rw [Tryd.ntmps141]
  refine tri_seq ?_
  refine tri_region ?_
  refine s_mv (.inr rfl) (v := .sc (.int .i64 0)) rfl rfl rfl rfl ?_
  refine rt_nil ?_
  refine tri_seq ?_
  refine tri_seq ?_
  refine tri_region ?_
  refine s_mv (.inl rfl) (by conv => lhs; whnf) rfl rfl rfl ?_
  refine s_lenL rfl sl112 rfl rfl rfl rfl ?_
  refine s_mv (.inl rfl) (v := .sc (.int .i64 0)) rfl rfl rfl rfl ?_
  refine rt_nil ?_
  refine tri_block ?_
  refine tri_lstM 0 rfl (fun hl0 => ?_)
  refine tri_loop (ι := { p : (List ByteArray) × Nat // p0.drop p.2 = p.1 ∧ slices_Index_string_l0 p1 p.1 p.2 = some r0 }) (fun p => inv_slices_Index_string_0 p0 p1 p.1.2) (fun p => p.1.1.length) ⟨(p0, 0), rfl, h⟩ ?_ ?_
  · skip
    refine entX [] [] trivial trivial rfl rfl ?_
    exact ⟨(.free rfl), (.free rfl), (.free rfl), (.free rfl), trivial⟩
  · rintro ⟨⟨lrs0, v0_0⟩, hd0, h⟩
    replace hd0 : p0.drop v0_0 = lrs0 := hd0
    replace h : slices_Index_string_l0 p1 lrs0 v0_0 = some r0 := h
    show Tri _ _ _ (inv_slices_Index_string_0 p0 p1 v0_0)
    refine tri_seq ?_
    refine tri_region ?_
    refine s_of (st_lss rfl rfl rfl) rfl rfl rfl rfl ?_
    refine rt_nil ?_
    refine tri_seq ?_
    refine tri_cond rfl (fun c1 => ?_) (fun c1 => ?_)
    · refine drop_elim hd0 c1 fun e0 rs0 he hx0 hn0 => ?_
      subst he
      rw [slices_Index_string_l0] at h
      refine tri_skip ?_
      refine tri_seq ?_
      refine tri_block ?_
      refine tri_seq ?_
      refine tri_region ?_
      refine s_mv (.inl rfl) (by conv => lhs; whnf) rfl rfl rfl ?_
      refine s_mv (.inr rfl) (by conv => lhs; whnf) rfl rfl rfl ?_
      refine rt_nil ?_
      refine tri_seq ?_
      refine tri_region ?_
      refine s_mv (.inl rfl) (by conv => lhs; whnf) rfl rfl rfl ?_
      refine s_mv (.inl rfl) (by conv => lhs; whnf) rfl rfl rfl ?_
      refine s_mv (.inl rfl) (by conv => lhs; whnf) rfl rfl rfl ?_
      refine s_indexF (i := v0_0) rfl rfl rfl sl112 (get_ltM hx0) rfl rfl rfl ?_
      refine s_loadF rfl rfl (rowG hx0) ty9 rfl (.inr rfl) (by conv => lhs; whnf) rfl rfl rfl ?_
      refine s_of (st_eqS rfl rfl rfl) rfl rfl rfl rfl ?_
      refine rt_nil ?_
      refine tri_cond rfl (fun c2 => ?_) (fun c2 => ?_)
      · replace h := cond_t h c2
        refine tri_seq ?_
        refine tri_region ?_
        refine s_mv (.inl rfl) (by conv => lhs; whnf) rfl rfl rfl ?_
        refine s_mv (.inr rfl) (by conv => lhs; whnf) rfl rfl rfl ?_
        refine rt_nil ?_
        refine tri_ret ?_
        have e0 := (some1 h); subst e0
        exact endY [] [] (rvC (resTmp rfl) rvN) trivial trivial rfl rfl rfl rfl (.free rfl)
      · replace h := cond_f h c2
        refine tri_skip ?_
        refine tri_region ?_
        refine s_inc (a := v0_0) (b := 1) rfl rfl rfl rfl (by have := get_lt hx0; have := hl0; omega) rfl rfl rfl ?_
        refine s_mv (.inl rfl) (by conv => lhs; whnf) rfl rfl rfl ?_
        refine rt_nil ?_
        refine Exists.intro ⟨(rs0, (v0_0 + 1)), hn0, h⟩ (And.intro (Nat.lt_succ_self _) ?_)
        refine entX [] [] trivial trivial rfl rfl ?_
        exact ⟨(.free rfl), (.free rfl), (.free rfl), (.free rfl), trivial⟩
    · have he := drop_f hd0 c1; subst he
      rw [slices_Index_string_l0] at h
      refine tri_exit ?_
      refine tri_seq ?_
      refine tri_region ?_
      refine s_mv (.inr rfl) (v := .sc (.int .i64 (-1))) rfl rfl rfl rfl ?_
      refine rt_nil ?_
      refine tri_ret ?_
      have e0 := (some1 h); subst e0
      exact endY [] [] (rvC (resTmp rfl) rvN) trivial trivial rfl rfl rfl rfl (.free rfl)

/- slices.Contains[[]string,string] -/

set_option maxRecDepth 4000 in
set_option maxHeartbeats 800000 in
theorem wslices_Contains_string (p0 : List ByteArray) (p1 : ByteArray) (r0 : Bool) (h : slices_Contains_string p0 p1 = some r0) : Runs Tryd.prog 125 [.lst 1 (List.map strV p0), .sc (.string p1)] [] (.sc (.bool r0)) [] := by
  unfold slices_Contains_string at h
  refine runsR [.tmp 4] Tryd.func125 rfl rfl rfl rfl ?_
  rw [Tryd.ntmps125]
  refine tri_seq ?_
  refine tri_region ?_
  refine s_mv (.inr rfl) (v := .sc (.bool false)) rfl rfl rfl rfl ?_
  refine rt_nil ?_
  refine tri_seq ?_
  refine tri_region ?_
  refine s_mv (.inl rfl) (by conv => lhs; whnf) rfl rfl rfl ?_
  refine s_mv (.inl rfl) (by conv => lhs; whnf) rfl rfl rfl ?_
  refine bnd1_elim h fun x1 q2 h => ?_
  refine s_callN (kb := []) (ns := []) (v := .sc (.int .i64 x1)) rfl rfl cl141 (wslices_Index_string p0 p1 x1 q2) rfl (.cons (.free rfl) (.cons (.free rfl) .nil)) trivial memNil .nil memNil rfl trivial memNil rfl rfl rfl rfl rfl rfl ?_
  refine s_of (st_geq rfl rfl rfl) rfl rfl rfl rfl ?_
  refine s_mv (.inr rfl) (by conv => lhs; whnf) rfl rfl rfl ?_
  refine rt_nil ?_
  refine tri_ret ?_
  have e0 := (some1 h); subst e0
  exact endY [] [] (rvC (resTmp rfl) rvN) trivial trivial rfl rfl rfl rfl (.free rfl)

/- impl.CutsOf -/
def inv_i_CutsOf_1 (p0 : MZone) (v0_0 : List ByteArray) (v0_1 : Nat) (e0 : Rec) (j1_0 : Bool) : St := mkT 45 [(1, .ptr (1, 0) 0 0), (3, .ref (2003, 0) 0 v0_0.length), (5, .ptr (5, 0) 0 0), (8, .lst 6 (List.map recV p0.l)), (9, .sc (.int .i64 (p0.l.length : Int))), (10, .sc (.int .i64 (v0_1 : Int))), (37, .sc (.bool j1_0))] [((1, 0), some ⟨45, 2, [[.sc (.string p0.apex), .lst 6 (List.map recV p0.l)]], false, true⟩), ((2003, 0), some ⟨9, 1, List.map strV v0_0, false, true⟩), ((5, 0), some ⟨105, 6, [[.sc (.string e0.name), .sc (.int .i64 e0.ty), .sc (.int .i64 e0.ttl), .sc (.int .i64 e0.n), .sc (.string e0.host), .sc (.string e0.text)]], false, true⟩)]
def inv_i_CutsOf_0 (p0 : MZone) (v0_0 : List ByteArray) (v0_1 : Nat) : St := mkT 45 [(1, .ptr (1, 0) 0 0), (3, .ref (2003, 0) 0 v0_0.length), (8, .lst 6 (List.map recV p0.l)), (9, .sc (.int .i64 (p0.l.length : Int))), (10, .sc (.int .i64 (v0_1 : Int)))] [((1, 0), some ⟨45, 2, [[.sc (.string p0.apex), .lst 6 (List.map recV p0.l)]], false, true⟩), ((2003, 0), some ⟨9, 1, List.map strV v0_0, false, true⟩)]
set_option maxRecDepth 4000 in
set_option maxHeartbeats 800000 in
theorem wi_CutsOf (p0 : MZone) (r0 : List ByteArray) (h : i_CutsOf p0 = some r0) : Runs Tryd.prog 102 [.agg (mZoneV p0)] [] (.own 9 1 (List.map strV r0)) [] := by
  unfold i_CutsOf at h
  refine runsR [.tmp 2] Tryd.func102 rfl rfl rfl rfl ?_
  rw [Tryd.ntmps102]
  refine tri_seq ?_
  refine tri_region ?_
  refine s_box rfl rfl rfl rfl rfl rfl rfl ?_
  refine s_mv (.inr rfl) (v := .nils) rfl rfl rfl rfl ?_
  refine rt_nil ?_
  refine tri_seq ?_
  refine tri_region ?_
  refine s_buildSlice (rows' := List.map strV ([] : List ByteArray)) rfl rfl rfl sl112 zc9 rfl rfl rfl rfl rfl rfl rfl rfl rfl ?_
  refine s_mv (.inr rfl) (by conv => lhs; whnf) rfl rfl rfl ?_
  refine rt_nil ?_
  refine tri_seq ?_
  refine tri_seq ?_
  refine tri_region ?_
  refine s_fieldAddr rfl rfl fd45_1 rfl rfl rfl rfl ?_
  refine s_load rfl rfl rfl rfl ty43 rfl (.inr rfl) (by conv => lhs; whnf) rfl rfl rfl ?_
  refine s_lenL rfl sl43 rfl rfl rfl rfl ?_
  refine s_mv (.inl rfl) (v := .sc (.int .i64 0)) rfl rfl rfl rfl ?_
  refine rt_nil ?_
  refine tri_block ?_
  refine tri_aggM 0 1 rfl rfl (fun hl0 => ?_)
  refine tri_loop (ι := { p : (List Rec) × (List ByteArray) × Nat // p0.l.drop p.2.2 = p.1 ∧ i_CutsOf_l0 p0 p.1 p.2.1 p.2.2 = some r0 }) (fun p => inv_i_CutsOf_0 p0 p.1.2.1 p.1.2.2) (fun p => p.1.1.length) ⟨(p0.l, ([] : List ByteArray), 0), rfl, h⟩ ?_ ?_
  · skip
    refine entX [((1, 0), ⟨45, 2, [[.sc (.string p0.apex), .lst 6 (List.map recV p0.l)]], false, true⟩, some (1, 0)), ((2003, 0), ⟨9, 1, List.map strV ([] : List ByteArray), false, true⟩, some (6, 0))] [] ⟨⟨rfl, _, rfl, rfl, rfl, rfl, id, rowsCv_one (.cons (.free rfl) (.cons (.free rfl) .nil)), rowsZ_one rfl⟩, ⟨rfl, _, rfl, rfl, rfl, rfl, id, rowsCv_eq rfl (allFree_map strV_free), rowsZ_map strV_len⟩, trivial⟩ trivial rfl rfl ?_
    exact ⟨(.ptr rfl), (.ref rfl), (.free rfl), (.free rfl), (.free rfl), trivial⟩
  · rintro ⟨⟨lrs0, v0_0, v0_1⟩, hd0, h⟩
    replace hd0 : p0.l.drop v0_1 = lrs0 := hd0
    replace h : i_CutsOf_l0 p0 lrs0 v0_0 v0_1 = some r0 := h
    show Tri _ _ _ (inv_i_CutsOf_0 p0 v0_0 v0_1)
    refine tri_seq ?_
    refine tri_region ?_
    refine s_of (st_lss rfl rfl rfl) rfl rfl rfl rfl ?_
    refine rt_nil ?_
    refine tri_seq ?_
    refine tri_cond rfl (fun c1 => ?_) (fun c1 => ?_)
    · refine drop_elim hd0 c1 fun e0 rs0 he hx0 hn0 => ?_
      subst he
      rw [i_CutsOf_l0] at h
      refine tri_skip ?_
      refine tri_seq ?_
      refine tri_block ?_
      refine tri_seq ?_
      refine tri_region ?_
      refine s_indexF (i := v0_1) rfl rfl rfl sl43 (get_ltM hx0) rfl rfl rfl ?_
      refine s_loadFR rfl rfl (rowG hx0) ty105 rfl rfl rfl ?_
      refine s_alloc rfl rfl rfl zc105 rfl rfl rfl rfl rfl ?_
      refine s_storeB rfl rfl rfl ty105 rfl rfl rfl rfl rfl ?_
      refine rt_nil ?_
      refine tri_cutI (ι := { p : Bool // i_CutsOf_j1 v0_0 v0_1 e0 (i_CutsOf_l0 p0 rs0) p = some r0 }) (fun p => inv_i_CutsOf_1 p0 v0_0 v0_1 e0 p.1) ?_ ?_
      · skip
        refine tri_region ?_
        refine s_fieldAddr rfl rfl fd105_1 rfl rfl rfl rfl ?_
        refine s_load rfl rfl rfl rfl ty3 rfl (.inr rfl) (by conv => lhs; whnf) rfl rfl rfl ?_
        refine s_of (st_eqI rfl rfl rfl) rfl rfl rfl rfl ?_
        refine s_mv (.inl rfl) (by conv => lhs; whnf) rfl rfl rfl ?_
        refine s_split (t := 17) rfl (fun b2 => ?_) (fun b2 => ?_)
        · replace h := cond_t h b2
          refine s_fieldAddr rfl rfl fd105_0 rfl rfl rfl rfl ?_
          refine s_load rfl rfl rfl rfl ty9 rfl (.inr rfl) (by conv => lhs; whnf) rfl rfl rfl ?_
          refine s_fieldAddr rfl rfl fd45_0 rfl rfl rfl rfl ?_
          refine s_load rfl rfl rfl rfl ty9 rfl (.inr rfl) (by conv => lhs; whnf) rfl rfl rfl ?_
          refine s_of (st_neS rfl rfl rfl) rfl rfl rfl rfl ?_
          refine s_pickT rfl rfl (by conv => lhs; whnf) rfl rfl rfl ?_
          refine s_mv (.inl rfl) (by conv => lhs; whnf) rfl rfl rfl ?_
          refine s_split (t := 24) rfl (fun b3 => ?_) (fun b3 => ?_)
          · replace h := cond_t h b3
            refine s_fieldAddr rfl rfl fd105_0 rfl rfl rfl rfl ?_
            refine s_load rfl rfl rfl rfl ty9 rfl (.inr rfl) (by conv => lhs; whnf) rfl rfl rfl ?_
            refine s_fieldAddr rfl rfl fd45_0 rfl rfl rfl rfl ?_
            refine s_load rfl rfl rfl rfl ty9 rfl (.inr rfl) (by conv => lhs; whnf) rfl rfl rfl ?_
            refine bnd1_elim h fun x4 q5 h => ?_
            refine s_callN (kb := []) (ns := []) (v := .sc (.bool x4)) rfl rfl cl79 (wi_Under e0.name p0.apex x4 q5) rfl (.cons (.free rfl) (.cons (.free rfl) .nil)) trivial memNil .nil memNil rfl trivial memNil rfl rfl rfl rfl rfl rfl ?_
            refine s_pickT rfl rfl (by conv => lhs; whnf) rfl rfl rfl ?_
            refine s_mv (.inl rfl) (by conv => lhs; whnf) rfl rfl rfl ?_
            refine s_split (t := 31) rfl (fun b6 => ?_) (fun b6 => ?_)
            · replace h := cond_t h b6
              refine s_mv (.inl rfl) (by conv => lhs; whnf) rfl rfl rfl ?_
              refine s_fieldAddr rfl rfl fd105_0 rfl rfl rfl rfl ?_
              refine s_load rfl rfl rfl rfl ty9 rfl (.inr rfl) (by conv => lhs; whnf) rfl rfl rfl ?_
              refine bnd1_elim h fun x7 q8 h => ?_
              refine s_callN (kb := [(2003, 0)]) (ns := []) (v := .sc (.bool x7)) rfl rfl cl125 (wslices_Contains_string v0_0 e0.name x7 q8) rfl (.cons (lendL rfl (.head _) rfl strV_free strV_len) (.cons (.free rfl) .nil)) trivial memNil .nil (fun _ _ => List.not_mem_nil) rfl trivial memNil rfl rfl rfl rfl rfl rfl ?_
              refine s_of (st_not rfl rfl) rfl rfl rfl rfl ?_
              refine s_pickT rfl rfl (by conv => lhs; whnf) rfl rfl rfl ?_
              refine rt_nil ?_
              refine Exists.intro ⟨!x7, h⟩ ?_
              refine entX [((1, 0), ⟨45, 2, [[.sc (.string p0.apex), .lst 6 (List.map recV p0.l)]], false, true⟩, some (1, 0)), ((2003, 0), ⟨9, 1, List.map strV v0_0, false, true⟩, some (2003, 0)), ((5, 0), ⟨105, 6, [[.sc (.string e0.name), .sc (.int .i64 e0.ty), .sc (.int .i64 e0.ttl), .sc (.int .i64 e0.n), .sc (.string e0.host), .sc (.string e0.text)]], false, true⟩, some (5, 0))] [] ⟨⟨rfl, _, rfl, rfl, rfl, rfl, id, rowsCv_one (.cons (.free rfl) (.cons (.free rfl) .nil)), rowsZ_one rfl⟩, ⟨rfl, _, rfl, rfl, rfl, rfl, id, rowsCv_eq rfl (allFree_map strV_free), rowsZ_map strV_len⟩, ⟨rfl, _, rfl, rfl, rfl, rfl, id, rowsCv_one (.cons (.free rfl) (.cons (.free rfl) (.cons (.free rfl) (.cons (.free rfl) (.cons (.free rfl) (.cons (.free rfl) .nil)))))), rowsZ_one rfl⟩, trivial⟩ trivial rfl rfl ?_
              exact ⟨(.ptr rfl), (.ref rfl), (.ptr rfl), (.free rfl), (.free rfl), (.free rfl), (.free rfl), trivial⟩
            · replace h := cond_f h b6
              refine s_skip rfl rfl rfl ?_
              refine s_skip rfl rfl rfl ?_
              refine s_skip rfl rfl rfl ?_
              refine s_skip rfl rfl rfl ?_
              refine s_skip rfl rfl rfl ?_
              refine s_pickF rfl rfl (v := .sc (.bool false)) rfl rfl rfl rfl ?_
              refine rt_nil ?_
              refine Exists.intro ⟨false, h⟩ ?_
              refine entX [((1, 0), ⟨45, 2, [[.sc (.string p0.apex), .lst 6 (List.map recV p0.l)]], false, true⟩, some (1, 0)), ((2003, 0), ⟨9, 1, List.map strV v0_0, false, true⟩, some (2003, 0)), ((5, 0), ⟨105, 6, [[.sc (.string e0.name), .sc (.int .i64 e0.ty), .sc (.int .i64 e0.ttl), .sc (.int .i64 e0.n), .sc (.string e0.host), .sc (.string e0.text)]], false, true⟩, some (5, 0))] [] ⟨⟨rfl, _, rfl, rfl, rfl, rfl, id, rowsCv_one (.cons (.free rfl) (.cons (.free rfl) .nil)), rowsZ_one rfl⟩, ⟨rfl, _, rfl, rfl, rfl, rfl, id, rowsCv_eq rfl (allFree_map strV_free), rowsZ_map strV_len⟩, ⟨rfl, _, rfl, rfl, rfl, rfl, id, rowsCv_one (.cons (.free rfl) (.cons (.free rfl) (.cons (.free rfl) (.cons (.free rfl) (.cons (.free rfl) (.cons (.free rfl) .nil)))))), rowsZ_one rfl⟩, trivial⟩ trivial rfl rfl ?_
              exact ⟨(.ptr rfl), (.ref rfl), (.ptr rfl), (.free rfl), (.free rfl), (.free rfl), (.free rfl), trivial⟩
          · replace h := cond_f h b3
            refine s_skip rfl rfl rfl ?_
            refine s_skip rfl rfl rfl ?_
            refine s_skip rfl rfl rfl ?_
            refine s_skip rfl rfl rfl ?_
            refine s_skip rfl rfl rfl ?_
            refine s_pickF rfl rfl (v := .sc (.bool false)) rfl rfl rfl rfl ?_
            refine s_mv (.inl rfl) (by conv => lhs; whnf) rfl rfl rfl ?_
            refine s_skip rfl rfl rfl ?_
            refine s_skip rfl rfl rfl ?_
            refine s_skip rfl rfl rfl ?_
            refine s_skip rfl rfl rfl ?_
            refine s_skip rfl rfl rfl ?_
            refine s_pickF rfl rfl (v := .sc (.bool false)) rfl rfl rfl rfl ?_
            refine rt_nil ?_
            refine Exists.intro ⟨false, h⟩ ?_
            refine entX [((1, 0), ⟨45, 2, [[.sc (.string p0.apex), .lst 6 (List.map recV p0.l)]], false, true⟩, some (1, 0)), ((2003, 0), ⟨9, 1, List.map strV v0_0, false, true⟩, some (2003, 0)), ((5, 0), ⟨105, 6, [[.sc (.string e0.name), .sc (.int .i64 e0.ty), .sc (.int .i64 e0.ttl), .sc (.int .i64 e0.n), .sc (.string e0.host), .sc (.string e0.text)]], false, true⟩, some (5, 0))] [] ⟨⟨rfl, _, rfl, rfl, rfl, rfl, id, rowsCv_one (.cons (.free rfl) (.cons (.free rfl) .nil)), rowsZ_one rfl⟩, ⟨rfl, _, rfl, rfl, rfl, rfl, id, rowsCv_eq rfl (allFree_map strV_free), rowsZ_map strV_len⟩, ⟨rfl, _, rfl, rfl, rfl, rfl, id, rowsCv_one (.cons (.free rfl) (.cons (.free rfl) (.cons (.free rfl) (.cons (.free rfl) (.cons (.free rfl) (.cons (.free rfl) .nil)))))), rowsZ_one rfl⟩, trivial⟩ trivial rfl rfl ?_
            exact ⟨(.ptr rfl), (.ref rfl), (.ptr rfl), (.free rfl), (.free rfl), (.free rfl), (.free rfl), trivial⟩
        · replace h := cond_f h b2
          refine s_skip rfl rfl rfl ?_
          refine s_skip rfl rfl rfl ?_
          refine s_skip rfl rfl rfl ?_
          refine s_skip rfl rfl rfl ?_
          refine s_skip rfl rfl rfl ?_
          refine s_pickF rfl rfl (v := .sc (.bool false)) rfl rfl rfl rfl ?_
          refine s_mv (.inl rfl) (by conv => lhs; whnf) rfl rfl rfl ?_
          refine s_skip rfl rfl rfl ?_
          refine s_skip rfl rfl rfl ?_
          refine s_skip rfl rfl rfl ?_
          refine s_skip rfl rfl rfl ?_
          refine s_skip rfl rfl rfl ?_
          refine s_pickF rfl rfl (v := .sc (.bool false)) rfl rfl rfl rfl ?_
          refine s_mv (.inl rfl) (by conv => lhs; whnf) rfl rfl rfl ?_
          refine s_skip rfl rfl rfl ?_
          refine s_skip rfl rfl rfl ?_
          refine s_skip rfl rfl rfl ?_
          refine s_skip rfl rfl rfl ?_
          refine s_skip rfl rfl rfl ?_
          refine s_pickF rfl rfl (v := .sc (.bool false)) rfl rfl rfl rfl ?_
          refine rt_nil ?_
          refine Exists.intro ⟨false, h⟩ ?_
          refine entX [((1, 0), ⟨45, 2, [[.sc (.string p0.apex), .lst 6 (List.map recV p0.l)]], false, true⟩, some (1, 0)), ((2003, 0), ⟨9, 1, List.map strV v0_0, false, true⟩, some (2003, 0)), ((5, 0), ⟨105, 6, [[.sc (.string e0.name), .sc (.int .i64 e0.ty), .sc (.int .i64 e0.ttl), .sc (.int .i64 e0.n), .sc (.string e0.host), .sc (.string e0.text)]], false, true⟩, some (5, 0))] [] ⟨⟨rfl, _, rfl, rfl, rfl, rfl, id, rowsCv_one (.cons (.free rfl) (.cons (.free rfl) .nil)), rowsZ_one rfl⟩, ⟨rfl, _, rfl, rfl, rfl, rfl, id, rowsCv_eq rfl (allFree_map strV_free), rowsZ_map strV_len⟩, ⟨rfl, _, rfl, rfl, rfl, rfl, id, rowsCv_one (.cons (.free rfl) (.cons (.free rfl) (.cons (.free rfl) (.cons (.free rfl) (.cons (.free rfl) (.cons (.free rfl) .nil)))))), rowsZ_one rfl⟩, trivial⟩ trivial rfl rfl ?_
          exact ⟨(.ptr rfl), (.ref rfl), (.ptr rfl), (.free rfl), (.free rfl), (.free rfl), (.free rfl), trivial⟩
      · rintro ⟨j1_0, h⟩
        replace h : i_CutsOf_j1 v0_0 v0_1 e0 (i_CutsOf_l0 p0 rs0) j1_0 = some r0 := h
        unfold i_CutsOf_j1 at h
        show Tri _ _ _ (inv_i_CutsOf_1 p0 v0_0 v0_1 e0 j1_0)
        refine tri_cond rfl (fun c2 => ?_) (fun c2 => ?_)
        · replace h := cond_t h c2
          refine tri_region ?_
          refine s_mv (.inl rfl) (by conv => lhs; whnf) rfl rfl rfl ?_
          refine s_fieldAddr rfl rfl fd105_0 rfl rfl rfl rfl ?_
          refine s_load rfl rfl rfl rfl ty9 rfl (.inr rfl) (by conv => lhs; whnf) rfl rfl rfl ?_
          refine s_buildSlice (rows' := List.map strV [e0.name]) rfl rfl rfl sl112 zc9 rfl rfl rfl rfl rfl rfl rfl rfl rfl ?_
          refine grd_elim h fun g3 h => ?_
          refine s_appL rfl rfl rfl sl112 zc9 rfl rfl rfl rfl rfl rfl (src_refL rfl rfl) g3 rfl rfl ?_
          refine s_mv (.inr rfl) (by conv => lhs; whnf) rfl rfl rfl ?_
          refine rt_nil ?_
          refine tri_region ?_
          refine s_inc (a := v0_1) (b := 1) rfl rfl rfl rfl (by have := get_lt hx0; have := hl0; omega) rfl rfl rfl ?_
          refine s_mv (.inl rfl) (by conv => lhs; whnf) rfl rfl rfl ?_
          refine rt_nil ?_
          refine Exists.intro ⟨(rs0, v0_0 ++ [e0.name], (v0_1 + 1)), hn0, h⟩ (And.intro (Nat.lt_succ_self _) ?_)
          refine entX [((1, 0), ⟨45, 2, [[.sc (.string p0.apex), .lst 6 (List.map recV p0.l)]], false, true⟩, some (1, 0)), ((2003, 0), ⟨9, 1, List.map strV (v0_0 ++ [e0.name]), false, true⟩, some (42, 0))] [] ⟨⟨rfl, _, rfl, rfl, rfl, rfl, id, rowsCv_one (.cons (.free rfl) (.cons (.free rfl) .nil)), rowsZ_one rfl⟩, ⟨rfl, _, rfl, rfl, rfl, rfl, id, rowsCv_eq rfl (allFree_map strV_free), rowsZ_map strV_len⟩, trivial⟩ trivial rfl rfl ?_
          exact ⟨(.ptr rfl), (.ref rfl), (.free rfl), (.free rfl), (.free rfl), trivial⟩
        · replace h := cond_f h c2
          refine tri_skip ?_
          refine tri_region ?_
          refine s_inc (a := v0_1) (b := 1) rfl rfl rfl rfl (by have := get_lt hx0; have := hl0; omega) rfl rfl rfl ?_
          refine s_mv (.inl rfl) (by conv => lhs; whnf) rfl rfl rfl ?_
          refine rt_nil ?_
          refine Exists.intro ⟨(rs0, v0_0, (v0_1 + 1)), hn0, h⟩ (And.intro (Nat.lt_succ_self _) ?_)
          refine entX [((1, 0), ⟨45, 2, [[.sc (.string p0.apex), .lst 6 (List.map recV p0.l)]], false, true⟩, some (1, 0)), ((2003, 0), ⟨9, 1, List.map strV v0_0, false, true⟩, some (2003, 0))] [] ⟨⟨rfl, _, rfl, rfl, rfl, rfl, id, rowsCv_one (.cons (.free rfl) (.cons (.free rfl) .nil)), rowsZ_one rfl⟩, ⟨rfl, _, rfl, rfl, rfl, rfl, id, rowsCv_eq rfl (allFree_map strV_free), rowsZ_map strV_len⟩, trivial⟩ trivial rfl rfl ?_
          exact ⟨(.ptr rfl), (.ref rfl), (.free rfl), (.free rfl), (.free rfl), trivial⟩
    · have he := drop_f hd0 c1; subst he
      rw [i_CutsOf_l0] at h
      refine tri_exit ?_
      refine tri_seq ?_
      refine tri_region ?_
      refine s_mv (.inl rfl) (by conv => lhs; whnf) rfl rfl rfl ?_
      refine s_mv (.inr rfl) (by conv => lhs; whnf) rfl rfl rfl ?_
      refine rt_nil ?_
      refine tri_ret ?_
      have e0 := (some1 h); subst e0
      exact endY (v' := .ref (2000, 0) 0 v0_0.length) [((2000, 0), ⟨9, 1, List.map strV v0_0, false, true⟩, some (2003, 0))] [] (rvC (resTmp rfl) rvN) ⟨⟨rfl, _, rfl, rfl, rfl, rfl, id, rowsCv_eq rfl (allFree_map strV_free), rowsZ_map strV_len⟩, trivial⟩ trivial rfl rfl (by kernel_rfl) (by first | (simp only [V.mat, V.mat1, V.mat0, matL, matT, List.length_map]; done) | (simp only [V.mat, V.mat1, V.mat0, matL, matT, List.length_map]; rfl)) (.ref rfl)

/- impl.CutOf -/
def inv_i_CutOf_0 (p1 : ByteArray) (x1 : List ByteArray) (v0_0 : Nat) : St := mkT 20 [(1, .sc (.string p1)), (9, .ref (9, 0) 0 x1.length), (10, .sc (.int .i64 (x1.length : Int))), (11, .sc (.int .i64 (v0_0 : Int)))] [((9, 0), some ⟨9, 1, List.map strV x1, false, true⟩)]
set_option maxRecDepth 4000 in
set_option maxHeartbeats 800000 in
theorem wi_CutOf (p0 : MZone) (p1 : ByteArray) (r0 : ByteArray) (r1 : Bool) (h : i_CutOf p0 p1 = some (r0, r1)) : Runs Tryd.prog 78 [.agg (mZoneV p0), .sc (.string p1)] [] (.tup [.sc (.string r0), .sc (.bool r1)]) [] := by
  unfold i_CutOf at h
  refine runsR [.tmp 4, .tmp 5] Tryd.func78 rfl rfl rfl rfl ?_
  rw [Tryd.ntmps78]
  refine tri_seq ?_
  refine tri_region ?_
  refine s_box rfl rfl rfl rfl rfl rfl rfl ?_
  refine s_mv (.inr rfl) (v := .sc (.string (⟨#[]⟩ : ByteArray))) rfl rfl rfl rfl ?_
  refine s_mv (.inr rfl) (v := .sc (.bool false)) rfl rfl rfl rfl ?_
  refine rt_nil ?_
  refine tri_seq ?_
  refine tri_seq ?_
  refine tri_region ?_
  refine s_loadR rfl rfl rfl rfl ty45 rfl rfl rfl ?_
  refine bnd1_elim h fun x1 q2 h => ?_
  refine s_callN (kb := []) (ns := []) (v := .ref (9, 0) 0 x1.length) rfl rfl cl102 (wi_CutsOf p0 x1 q2) rfl (.cons (relAgg rfl) .nil) trivial memNil .nil memNil rfl ⟨(allSc_map strV_sc), trivial⟩ memNil rfl (by first | (simp only [V.mat, V.mat1, V.mat0, matL, matT, List.length_map]; done) | (simp only [V.mat, V.mat1, V.mat0, matL, matT, List.length_map]; rfl)) rfl rfl rfl rfl ?_
  refine s_len (m := x1.length) rfl sl112 rfl rfl rfl rfl ?_
  refine s_mv (.inl rfl) (v := .sc (.int .i64 0)) rfl rfl rfl rfl ?_
  refine rt_nil ?_
  refine tri_block ?_
  refine tri_ownM (9, 0) rfl (fun hl0 => ?_)
  refine tri_loop (ι := { p : (List ByteArray) × Nat // x1.drop p.2 = p.1 ∧ i_CutOf_l0 p1 p.1 p.2 = some (r0, r1) }) (fun p => inv_i_CutOf_0 p1 x1 p.1.2) (fun p => p.1.1.length) ⟨(x1, 0), rfl, h⟩ ?_ ?_
  · skip
    refine entX [((9, 0), ⟨9, 1, List.map strV x1, false, true⟩, some (9, 0))] [] ⟨⟨rfl, _, rfl, rfl, rfl, rfl, id, rowsCv_eq rfl (allFree_map strV_free), rowsZ_map strV_len⟩, trivial⟩ trivial rfl rfl ?_
    exact ⟨(.free rfl), (.ref rfl), (.free rfl), (.free rfl), trivial⟩
  · rintro ⟨⟨lrs0, v0_0⟩, hd0, h⟩
    replace hd0 : x1.drop v0_0 = lrs0 := hd0
    replace h : i_CutOf_l0 p1 lrs0 v0_0 = some (r0, r1) := h
    show Tri _ _ _ (inv_i_CutOf_0 p1 x1 v0_0)
    refine tri_seq ?_
    refine tri_region ?_
    refine s_of (st_lss rfl rfl rfl) rfl rfl rfl rfl ?_
    refine rt_nil ?_
    refine tri_seq ?_
    refine tri_cond rfl (fun c3 => ?_) (fun c3 => ?_)
    · refine drop_elim hd0 c3 fun e0 rs0 he hx0 hn0 => ?_
      subst he
      rw [i_CutOf_l0] at h
      refine tri_skip ?_
      refine tri_seq ?_
      refine tri_block ?_
      refine tri_seq ?_
      refine tri_region ?_
      refine s_index0 (i := v0_0) rfl rfl rfl rfl sl112 rfl (get_lt hx0) rfl rfl rfl ?_
      refine s_load rfl rfl rfl (rowG hx0) ty9 rfl (.inr rfl) (by conv => lhs; whnf) rfl rfl rfl ?_
      refine s_mv (.inr rfl) (by conv => lhs; whnf) rfl rfl rfl ?_
      refine rt_nil ?_
      refine tri_seq ?_
      refine tri_region ?_
      refine s_mv (.inl rfl) (by conv => lhs; whnf) rfl rfl rfl ?_
      refine s_mv (.inl rfl) (by conv => lhs; whnf) rfl rfl rfl ?_
      refine bnd1_elim h fun x4 q5 h => ?_
      refine s_callN (kb := []) (ns := []) (v := .sc (.bool x4)) rfl rfl cl79 (wi_Under p1 e0 x4 q5) rfl (.cons (.free rfl) (.cons (.free rfl) .nil)) trivial memNil .nil memNil rfl trivial memNil rfl rfl rfl rfl rfl rfl ?_
      refine rt_nil ?_
      refine tri_cond rfl (fun c6 => ?_) (fun c6 => ?_)
      · replace h := cond_t h c6
        refine tri_seq ?_
        refine tri_region ?_
        refine s_mv (.inl rfl) (by conv => lhs; whnf) rfl rfl rfl ?_
        refine s_mv (.inr rfl) (by conv => lhs; whnf) rfl rfl rfl ?_
        refine s_mv (.inr rfl) (v := .sc (.bool true)) rfl rfl rfl rfl ?_
        refine rt_nil ?_
        refine tri_ret ?_
        have e0 := (some2 h).1; have e1 := (some2 h).2; subst e0; subst e1
        exact endY [] [] (rvC (resTmp rfl) (rvC (resTmp rfl) rvN)) trivial trivial rfl rfl rfl rfl (CvL.tup (.cons (.free rfl) (.cons (.free rfl) .nil)))
      · replace h := cond_f h c6
        refine tri_skip ?_
        refine tri_region ?_
        refine s_inc (a := v0_0) (b := 1) rfl rfl rfl rfl (by have := get_lt hx0; have := hl0; omega) rfl rfl rfl ?_
        refine s_mv (.inl rfl) (by conv => lhs; whnf) rfl rfl rfl ?_
        refine rt_nil ?_
        refine Exists.intro ⟨(rs0, (v0_0 + 1)), hn0, h⟩ (And.intro (Nat.lt_succ_self _) ?_)
        refine entX [((9, 0), ⟨9, 1, List.map strV x1, false, true⟩, some (9, 0))] [] ⟨⟨rfl, _, rfl, rfl, rfl, rfl, id, rowsCv_eq rfl (allFree_map strV_free), rowsZ_map strV_len⟩, trivial⟩ trivial rfl rfl ?_
        exact ⟨(.free rfl), (.ref rfl), (.free rfl), (.free rfl), trivial⟩
    · have he := drop_f hd0 c3; subst he
      rw [i_CutOf_l0] at h
      refine tri_exit ?_
      refine tri_seq ?_
      refine tri_region ?_
      refine s_mv (.inr rfl) (v := .sc (.string (⟨#[]⟩ : ByteArray))) rfl rfl rfl rfl ?_
      refine s_mv (.inr rfl) (v := .sc (.bool false)) rfl rfl rfl rfl ?_
      refine rt_nil ?_
      refine tri_ret ?_
      have e0 := (some2 h).1; have e1 := (some2 h).2; subst e0; subst e1
      exact endY [] [] (rvC (resTmp rfl) (rvC (resTmp rfl) rvN)) trivial trivial rfl rfl rfl rfl (CvL.tup (.cons (.free rfl) (.cons (.free rfl) .nil)))

/- impl.SetOf -/
def inv_i_SetOf_1 (p0 : List Rec) (p1 : ByteArray) (p2 : Int) (v0_0 : List Rec) (v0_1 : Nat) (e0 : Rec) (j1_0 : Bool) : St := mkT 33 [(1, .sc (.string p1)), (2, .sc (.int .i64 p2)), (7, .ref (2007, 0) 0 v0_0.length), (9, .ptr (9, 0) 0 0), (11, .lst 6 (List.map recV p0)), (12, .sc (.int .i64 (p0.length : Int))), (13, .sc (.int .i64 (v0_1 : Int))), (26, .sc (.bool j1_0))] [((2007, 0), some ⟨105, 6, List.map recV v0_0, false, true⟩), ((9, 0), some ⟨105, 6, [[.sc (.string e0.name), .sc (.int .i64 e0.ty), .sc (.int .i64 e0.ttl), .sc (.int .i64 e0.n), .sc (.string e0.host), .sc (.string e0.text)]], false, true⟩)]
def inv_i_SetOf_0 (p0 : List Rec) (p1 : ByteArray) (p2 : Int) (v0_0 : List Rec) (v0_1 : Nat) : St := mkT 33 [(1, .sc (.string p1)), (2, .sc (.int .i64 p2)), (7, .ref (2007, 0) 0 v0_0.length), (11, .lst 6 (List.map recV p0)), (12, .sc (.int .i64 (p0.length : Int))), (13, .sc (.int .i64 (v0_1 : Int)))] [((2007, 0), some ⟨105, 6, List.map recV v0_0, false, true⟩)]
set_option maxRecDepth 4000 in
set_option maxHeartbeats 800000 in
theorem wi_SetOf (p0 : List Rec) (p1 : ByteArray) (p2 : Int) (r0 : List Rec) (h : i_SetOf p0 p1 p2 = some r0) : Runs Tryd.prog 80 [.lst 6 (List.map recV p0), .sc (.string p1), .sc (.int .i64 p2)] [] (.own 105 6 (List.map recV r0)) [] := by
  unfold i_SetOf at h
  refine runsR [.tmp 6] Tryd.func80 rfl rfl rfl rfl ?_
  rw [Tryd.ntmps80]
  refine tri_seq ?_
  refine tri_region ?_
  refine s_mv (.inr rfl) (v := .nils) rfl rfl rfl rfl ?_
  refine rt_nil ?_
  refine tri_seq ?_
  refine tri_region ?_
  refine s_buildSlice (rows' := List.map recV ([] : List Rec)) rfl rfl rfl sl43 zc105 rfl rfl rfl rfl rfl rfl rfl rfl rfl ?_
  refine s_mv (.inr rfl) (by conv => lhs; whnf) rfl rfl rfl ?_
  refine rt_nil ?_
  refine tri_seq ?_
  refine tri_seq ?_
  refine tri_region ?_
  refine s_mv (.inl rfl) (by conv => lhs; whnf) rfl rfl rfl ?_
  refine s_lenL rfl sl43 rfl rfl rfl rfl ?_
  refine s_mv (.inl rfl) (v := .sc (.int .i64 0)) rfl rfl rfl rfl ?_
  refine rt_nil ?_
  refine tri_block ?_
  refine tri_lstM 0 rfl (fun hl0 => ?_)
  refine tri_loop (ι := { p : (List Rec) × (List Rec) × Nat // p0.drop p.2.2 = p.1 ∧ i_SetOf_l0 p1 p2 p.1 p.2.1 p.2.2 = some r0 }) (fun p => inv_i_SetOf_0 p0 p1 p2 p.1.2.1 p.1.2.2) (fun p => p.1.1.length) ⟨(p0, ([] : List Rec), 0), rfl, h⟩ ?_ ?_
  · skip
    refine entX [((2007, 0), ⟨105, 6, List.map recV ([] : List Rec), false, true⟩, some (10, 0))] [] ⟨⟨rfl, _, rfl, rfl, rfl, rfl, id, rowsCv_eq rfl (allFree_map recV_free), rowsZ_map recV_len⟩, trivial⟩ trivial rfl rfl ?_
    exact ⟨(.free rfl), (.free rfl), (.ref rfl), (.free rfl), (.free rfl), (.free rfl), trivial⟩
  · rintro ⟨⟨lrs0, v0_0, v0_1⟩, hd0, h⟩
    replace hd0 : p0.drop v0_1 = lrs0 := hd0
    replace h : i_SetOf_l0 p1 p2 lrs0 v0_0 v0_1 = some r0 := h
    show Tri _ _ _ (inv_i_SetOf_0 p0 p1 p2 v0_0 v0_1)
    refine tri_seq ?_
    refine tri_region ?_
    refine s_of (st_lss rfl rfl rfl) rfl rfl rfl rfl ?_
    refine rt_nil ?_
    refine tri_seq ?_
    refine tri_cond rfl (fun c1 => ?_) (fun c1 => ?_)
    · refine drop_elim hd0 c1 fun e0 rs0 he hx0 hn0 => ?_
      subst he
      rw [i_SetOf_l0] at h
      refine tri_skip ?_
      refine tri_seq ?_
      refine tri_block ?_
      refine tri_seq ?_
      refine tri_region ?_
      refine s_indexF (i := v0_1) rfl rfl rfl sl43 (get_ltM hx0) rfl rfl rfl ?_
      refine s_loadFR rfl rfl (rowG hx0) ty105 rfl rfl rfl ?_
      refine s_alloc rfl rfl rfl zc105 rfl rfl rfl rfl rfl ?_
      refine s_storeB rfl rfl rfl ty105 rfl rfl rfl rfl rfl ?_
      refine rt_nil ?_
      refine tri_cutI (ι := { p : Bool // i_SetOf_j1 v0_0 v0_1 e0 (i_SetOf_l0 p1 p2 rs0) p = some r0 }) (fun p => inv_i_SetOf_1 p0 p1 p2 v0_0 v0_1 e0 p.1) ?_ ?_
      · skip
        refine tri_region ?_
        refine s_fieldAddr rfl rfl fd105_0 rfl rfl rfl rfl ?_
        refine s_load rfl rfl rfl rfl ty9 rfl (.inr rfl) (by conv => lhs; whnf) rfl rfl rfl ?_
        refine s_mv (.inl rfl) (by conv => lhs; whnf) rfl rfl rfl ?_
        refine s_of (st_eqS rfl rfl rfl) rfl rfl rfl rfl ?_
        refine s_mv (.inl rfl) (by conv => lhs; whnf) rfl rfl rfl ?_
        refine s_split (t := 21) rfl (fun b2 => ?_) (fun b2 => ?_)
        · replace h := cond_t h b2
          refine s_fieldAddr rfl rfl fd105_1 rfl rfl rfl rfl ?_
          refine s_load rfl rfl rfl rfl ty3 rfl (.inr rfl) (by conv => lhs; whnf) rfl rfl rfl ?_
          refine s_mv (.inl rfl) (by conv => lhs; whnf) rfl rfl rfl ?_
          refine s_of (st_eqI rfl rfl rfl) rfl rfl rfl rfl ?_
          refine s_pickT rfl rfl (by conv => lhs; whnf) rfl rfl rfl ?_
          refine rt_nil ?_
          refine Exists.intro ⟨decide (e0.ty = p2), h⟩ ?_
          refine entX [((2007, 0), ⟨105, 6, List.map recV v0_0, false, true⟩, some (2007, 0)), ((9, 0), ⟨105, 6, [[.sc (.string e0.name), .sc (.int .i64 e0.ty), .sc (.int .i64 e0.ttl), .sc (.int .i64 e0.n), .sc (.string e0.host), .sc (.string e0.text)]], false, true⟩, some (9, 0))] [] ⟨⟨rfl, _, rfl, rfl, rfl, rfl, id, rowsCv_eq rfl (allFree_map recV_free), rowsZ_map recV_len⟩, ⟨rfl, _, rfl, rfl, rfl, rfl, id, rowsCv_one (.cons (.free rfl) (.cons (.free rfl) (.cons (.free rfl) (.cons (.free rfl) (.cons (.free rfl) (.cons (.free rfl) .nil)))))), rowsZ_one rfl⟩, trivial⟩ trivial rfl rfl ?_
          exact ⟨(.free rfl), (.free rfl), (.ref rfl), (.ptr rfl), (.free rfl), (.free rfl), (.free rfl), (.free rfl), trivial⟩
        · replace h := cond_f h b2
          refine s_skip rfl rfl rfl ?_
          refine s_skip rfl rfl rfl ?_
          refine s_skip rfl rfl rfl ?_
          refine s_skip rfl rfl rfl ?_
          refine s_pickF rfl rfl (v := .sc (.bool false)) rfl rfl rfl rfl ?_
          refine rt_nil ?_
          refine Exists.intro ⟨false, h⟩ ?_
          refine entX [((2007, 0), ⟨105, 6, List.map recV v0_0, false, true⟩, some (2007, 0)), ((9, 0), ⟨105, 6, [[.sc (.string e0.name), .sc (.int .i64 e0.ty), .sc (.int .i64 e0.ttl), .sc (.int .i64 e0.n), .sc (.string e0.host), .sc (.string e0.text)]], false, true⟩, some (9, 0))] [] ⟨⟨rfl, _, rfl, rfl, rfl, rfl, id, rowsCv_eq rfl (allFree_map recV_free), rowsZ_map recV_len⟩, ⟨rfl, _, rfl, rfl, rfl, rfl, id, rowsCv_one (.cons (.free rfl) (.cons (.free rfl) (.cons (.free rfl) (.cons (.free rfl) (.cons (.free rfl) (.cons (.free rfl) .nil)))))), rowsZ_one rfl⟩, trivial⟩ trivial rfl rfl ?_
          exact ⟨(.free rfl), (.free rfl), (.ref rfl), (.ptr rfl), (.free rfl), (.free rfl), (.free rfl), (.free rfl), trivial⟩
      · rintro ⟨j1_0, h⟩
        replace h : i_SetOf_j1 v0_0 v0_1 e0 (i_SetOf_l0 p1 p2 rs0) j1_0 = some r0 := h
        unfold i_SetOf_j1 at h
        show Tri _ _ _ (inv_i_SetOf_1 p0 p1 p2 v0_0 v0_1 e0 j1_0)
        refine tri_cond rfl (fun c2 => ?_) (fun c2 => ?_)
        · replace h := cond_t h c2
          refine tri_region ?_
          refine s_mv (.inl rfl) (by conv => lhs; whnf) rfl rfl rfl ?_
          refine s_loadR rfl rfl rfl rfl ty105 rfl rfl rfl ?_
          refine s_buildSlice (rows' := List.map recV [e0]) rfl rfl rfl sl43 zc105 rfl rfl rfl rfl rfl rfl rfl rfl rfl ?_
          refine grd_elim h fun g3 h => ?_
          refine s_appL rfl rfl rfl sl43 zc105 rfl rfl rfl rfl rfl rfl (src_refL rfl rfl) g3 rfl rfl ?_
          refine s_mv (.inr rfl) (by conv => lhs; whnf) rfl rfl rfl ?_
          refine rt_nil ?_
          refine tri_region ?_
          refine s_inc (a := v0_1) (b := 1) rfl rfl rfl rfl (by have := get_lt hx0; have := hl0; omega) rfl rfl rfl ?_
          refine s_mv (.inl rfl) (by conv => lhs; whnf) rfl rfl rfl ?_
          refine rt_nil ?_
          refine Exists.intro ⟨(rs0, v0_0 ++ [e0], (v0_1 + 1)), hn0, h⟩ (And.intro (Nat.lt_succ_self _) ?_)
          refine entX [((2007, 0), ⟨105, 6, List.map recV (v0_0 ++ [e0]), false, true⟩, some (30, 0))] [] ⟨⟨rfl, _, rfl, rfl, rfl, rfl, id, rowsCv_eq rfl (allFree_map recV_free), rowsZ_map recV_len⟩, trivial⟩ trivial rfl rfl ?_
          exact ⟨(.free rfl), (.free rfl), (.ref rfl), (.free rfl), (.free rfl), (.free rfl), trivial⟩
        · replace h := cond_f h c2
          refine tri_skip ?_
          refine tri_region ?_
          refine s_inc (a := v0_1) (b := 1) rfl rfl rfl rfl (by have := get_lt hx0; have := hl0; omega) rfl rfl rfl ?_
          refine s_mv (.inl rfl) (by conv => lhs; whnf) rfl rfl rfl ?_
          refine rt_nil ?_
          refine Exists.intro ⟨(rs0, v0_0, (v0_1 + 1)), hn0, h⟩ (And.intro (Nat.lt_succ_self _) ?_)
          refine entX [((2007, 0), ⟨105, 6, List.map recV v0_0, false, true⟩, some (2007, 0))] [] ⟨⟨rfl, _, rfl, rfl, rfl, rfl, id, rowsCv_eq rfl (allFree_map recV_free), rowsZ_map recV_len⟩, trivial⟩ trivial rfl rfl ?_
          exact ⟨(.free rfl), (.free rfl), (.ref rfl), (.free rfl), (.free rfl), (.free rfl), trivial⟩
    · have he := drop_f hd0 c1; subst he
      rw [i_SetOf_l0] at h
      refine tri_exit ?_
      refine tri_seq ?_
      refine tri_region ?_
      refine s_mv (.inl rfl) (by conv => lhs; whnf) rfl rfl rfl ?_
      refine s_mv (.inr rfl) (by conv => lhs; whnf) rfl rfl rfl ?_
      refine rt_nil ?_
      refine tri_ret ?_
      have e0 := (some1 h); subst e0
      exact endY (v' := .ref (2000, 0) 0 v0_0.length) [((2000, 0), ⟨105, 6, List.map recV v0_0, false, true⟩, some (2007, 0))] [] (rvC (resTmp rfl) rvN) ⟨⟨rfl, _, rfl, rfl, rfl, rfl, id, rowsCv_eq rfl (allFree_map recV_free), rowsZ_map recV_len⟩, trivial⟩ trivial rfl rfl (by kernel_rfl) (by first | (simp only [V.mat, V.mat1, V.mat0, matL, matT, List.length_map]; done) | (simp only [V.mat, V.mat1, V.mat0, matL, matT, List.length_map]; rfl)) (.ref rfl)

/- impl.Record] -/
def inv_slices_IndexFunc_Record_0 (p0 : List Rec) (fi1 : FuncId) (cp1 : List V) (v0_0 : Nat) : St := mkT 19 [(0, .lst 6 (List.map recV p0)), (1, .fn fi1 cp1), (7, .sc (.int .i64 (p0.length : Int))), (8, .sc (.int .i64 (v0_0 : Int)))] []
set_option maxRecDepth 4000 in
set_option maxHeartbeats 800000 in
theorem wslices_IndexFunc_Record (p0 : List Rec) (fi1 : FuncId) (cp1 : List V) (hf1 : cp1.all (·.free) = true) (hb1 : callable Tryd.prog fi1 = true) (p1 : Rec → Option Bool) (hg1 : ∀ (z0 : Rec) v, p1 z0 = some v → Runs Tryd.prog fi1 ([.agg (recV z0)] ++ cp1) [] (.sc (.bool v)) []) (r0 : Int) (h : slices_IndexFunc_Record p0 p1 = some r0) : Runs Tryd.prog 139 [.lst 6 (List.map recV p0), .fn fi1 cp1] [] (.sc (.int .i64 r0)) [] := by
  unfold slices_IndexFunc_Record at h
  refine runsR [.tmp 4] Tryd.func139 rfl rfl rfl rfl ?_
  rw [Tryd.ntmps139]
  refine tri_seq ?_
  refine tri_region ?_
  refine s_mv (.inr rfl) (v := .sc (.int .i64 0)) rfl rfl rfl rfl ?_
  refine rt_nil ?_
  refine tri_seq ?_
  refine tri_seq ?_
  refine tri_region ?_
  refine s_mv (.inl rfl) (by conv => lhs; whnf) rfl rfl rfl ?_
  refine s_lenL rfl sl43 rfl rfl rfl rfl ?_
  refine s_mv (.inl rfl) (v := .sc (.int .i64 0)) rfl rfl rfl rfl ?_
  refine rt_nil ?_
  refine tri_block ?_
  refine tri_lstM 0 rfl (fun hl0 => ?_)
  refine tri_loop (ι := { p : (List Rec) × Nat // p0.drop p.2 = p.1 ∧ slices_IndexFunc_Record_l0 p1 p.1 p.2 = some r0 }) (fun p => inv_slices_IndexFunc_Record_0 p0 fi1 cp1 p.1.2) (fun p => p.1.1.length) ⟨(p0, 0), rfl, h⟩ ?_ ?_
  · skip
    refine entX [] [] trivial trivial rfl rfl ?_
    exact ⟨(.free rfl), (cvFn hf1), (.free rfl), (.free rfl), trivial⟩
  · rintro ⟨⟨lrs0, v0_0⟩, hd0, h⟩
    replace hd0 : p0.drop v0_0 = lrs0 := hd0
    replace h : slices_IndexFunc_Record_l0 p1 lrs0 v0_0 = some r0 := h
    show Tri _ _ _ (inv_slices_IndexFunc_Record_0 p0 fi1 cp1 v0_0)
    refine tri_seq ?_
    refine tri_region ?_
    refine s_of (st_lss rfl rfl rfl) rfl rfl rfl rfl ?_
    refine rt_nil ?_
    refine tri_seq ?_
    refine tri_cond rfl (fun c1 => ?_) (fun c1 => ?_)
    · refine drop_elim hd0 c1 fun e0 rs0 he hx0 hn0 => ?_
      subst he
      rw [slices_IndexFunc_Record_l0] at h
      refine tri_skip ?_
      refine tri_seq ?_
      refine tri_block ?_
      refine tri_seq ?_
      refine tri_region ?_
      refine s_mv (.inl rfl) (by conv => lhs; whnf) rfl rfl rfl ?_
      refine s_mv (.inr rfl) (by conv => lhs; whnf) rfl rfl rfl ?_
      refine rt_nil ?_
      refine tri_seq ?_
      refine tri_region ?_
      refine s_mv (.inl rfl) (by conv => lhs; whnf) rfl rfl rfl ?_
      refine s_mv (.inl rfl) (by conv => lhs; whnf) rfl rfl rfl ?_
      refine s_mv (.inl rfl) (by conv => lhs; whnf) rfl rfl rfl ?_
      refine s_indexF (i := v0_0) rfl rfl rfl sl43 (get_ltM hx0) rfl rfl rfl ?_
      refine s_loadFR rfl rfl (rowG hx0) ty105 rfl rfl rfl ?_
      refine bnd1_elim h fun x2 q3 h => ?_
      refine s_callN (kb := []) (ns := []) (v := .sc (.bool x2)) rfl rfl hb1 (hg1 e0 x2 q3) rfl (.cons (relAgg rfl) (argsFree hf1)) trivial memNil .nil memNil rfl trivial memNil rfl rfl rfl rfl rfl rfl ?_
      refine rt_nil ?_
      refine tri_cond rfl (fun c4 => ?_) (fun c4 => ?_)
      · replace h := cond_t h c4
        refine tri_seq ?_
        refine tri_region ?_
        refine s_mv (.inl rfl) (by conv => lhs; whnf) rfl rfl rfl ?_
        refine s_mv (.inr rfl) (by conv => lhs; whnf) rfl rfl rfl ?_
        refine rt_nil ?_
        refine tri_ret ?_
        have e0 := (some1 h); subst e0
        exact endY [] [] (rvC (resTmp rfl) rvN) trivial trivial rfl rfl rfl rfl (.free rfl)
      · replace h := cond_f h c4
        refine tri_skip ?_
        refine tri_region ?_
        refine s_inc (a := v0_0) (b := 1) rfl rfl rfl rfl (by have := get_lt hx0; have := hl0; omega) rfl rfl rfl ?_
        refine s_mv (.inl rfl) (by conv => lhs; whnf) rfl rfl rfl ?_
        refine rt_nil ?_
        refine Exists.intro ⟨(rs0, (v0_0 + 1)), hn0, h⟩ (And.intro (Nat.lt_succ_self _) ?_)
        refine entX [] [] trivial trivial rfl rfl ?_
        exact ⟨(.free rfl), (cvFn hf1), (.free rfl), (.free rfl), trivial⟩
    · have he := drop_f hd0 c1; subst he
      rw [slices_IndexFunc_Record_l0] at h
      refine tri_exit ?_
      refine tri_seq ?_
      refine tri_region ?_
      refine s_mv (.inr rfl) (v := .sc (.int .i64 (-1))) rfl rfl rfl rfl ?_
      refine rt_nil ?_
      refine tri_ret ?_
      have e0 := (some1 h); subst e0
      exact endY [] [] (rvC (resTmp rfl) rvN) trivial trivial rfl rfl rfl rfl (.free rfl)

/- impl.Record] -/

set_option maxRecDepth 4000 in
set_option maxHeartbeats 800000 in
theorem wslices_ContainsFunc_Record (p0 : List Rec) (fi1 : FuncId) (cp1 : List V) (hf1 : cp1.all (·.free) = true) (hb1 : callable Tryd.prog fi1 = true) (p1 : Rec → Option Bool) (hg1 : ∀ (z0 : Rec) v, p1 z0 = some v → Runs Tryd.prog fi1 ([.agg (recV z0)] ++ cp1) [] (.sc (.bool v)) []) (r0 : Bool) (h : slices_ContainsFunc_Record p0 p1 = some r0) : Runs Tryd.prog 118 [.lst 6 (List.map recV p0), .fn fi1 cp1] [] (.sc (.bool r0)) [] := by
  unfold slices_ContainsFunc_Record at h
  refine runsR [.tmp 4] Tryd.func118 rfl rfl rfl rfl ?_
  rw [Tryd.ntmps118]
  refine tri_seq ?_
  refine tri_region ?_
  refine s_mv (.inr rfl) (v := .sc (.bool false)) rfl rfl rfl rfl ?_
  refine rt_nil ?_
  refine tri_seq ?_
  refine tri_region ?_
  refine s_mv (.inl rfl) (by conv => lhs; whnf) rfl rfl rfl ?_
  refine s_mv (.inl rfl) (by conv => lhs; whnf) rfl rfl rfl ?_
  refine bnd1_elim h fun x1 q2 h => ?_
  refine s_callN (kb := []) (ns := []) (v := .sc (.int .i64 x1)) rfl rfl cl139 (wslices_IndexFunc_Record p0 fi1 cp1 hf1 hb1 p1 hg1 x1 q2) rfl (.cons (.free rfl) (.cons (relFn hf1) .nil)) trivial memNil .nil memNil rfl trivial memNil rfl rfl rfl rfl rfl rfl ?_
  refine s_of (st_geq rfl rfl rfl) rfl rfl rfl rfl ?_
  refine s_mv (.inr rfl) (by conv => lhs; whnf) rfl rfl rfl ?_
  refine rt_nil ?_
  refine tri_ret ?_
  have e0 := (some1 h); subst e0
  exact endY [] [] (rvC (resTmp rfl) rvN) trivial trivial rfl rfl rfl rfl (.free rfl)

/- impl.Exists$1 -/

set_option maxRecDepth 4000 in
set_option maxHeartbeats 800000 in
theorem wi_Exists_1 (p0 : Rec) (p1 : ByteArray) (r0 : Bool) (h : i_Exists_1 p0 p1 = some r0) : Runs Tryd.prog 119 [.agg (recV p0), .lptr 1 [[.sc (.string p1)]] 0 0] [] (.sc (.bool r0)) [] := by
  unfold i_Exists_1 at h
  refine runsR [.tmp 3] Tryd.func119 rfl rfl rfl rfl ?_
  rw [Tryd.ntmps119]
  refine tri_seq ?_
  refine tri_region ?_
  refine s_box rfl rfl rfl rfl rfl rfl rfl ?_
  refine s_mv (.inr rfl) (v := .sc (.bool false)) rfl rfl rfl rfl ?_
  refine rt_nil ?_
  refine tri_seq ?_
  refine tri_region ?_
  refine s_fieldAddr rfl rfl fd105_0 rfl rfl rfl rfl ?_
  refine s_load rfl rfl rfl rfl ty9 rfl (.inr rfl) (by conv => lhs; whnf) rfl rfl rfl ?_
  refine s_loadF rfl rfl rfl ty9 rfl (.inr rfl) (by conv => lhs; whnf) rfl rfl rfl ?_
  refine bnd1_elim h fun x1 q2 h => ?_
  refine s_callN (kb := []) (ns := []) (v := .sc (.bool x1)) rfl rfl cl79 (wi_Under p0.name p1 x1 q2) rfl (.cons (.free rfl) (.cons (.free rfl) .nil)) trivial memNil .nil memNil rfl trivial memNil rfl rfl rfl rfl rfl rfl ?_
  refine s_mv (.inr rfl) (by conv => lhs; whnf) rfl rfl rfl ?_
  refine rt_nil ?_
  refine tri_ret ?_
  have e0 := (some1 h); subst e0
  exact endY [] [] (rvC (resTmp rfl) rvN) trivial trivial rfl rfl rfl rfl (.free rfl)

/- impl.Exists -/

set_option maxRecDepth 4000 in
set_option maxHeartbeats 800000 in
theorem wi_Exists (p0 : MZone) (p1 : ByteArray) (r0 : Bool) (h : i_Exists p0 p1 = some r0) : Runs Tryd.prog 81 [.agg (mZoneV p0), .sc (.string p1)] [] (.sc (.bool r0)) [] := by
  unfold i_Exists at h
  refine runsR [.tmp 4] Tryd.func81 rfl rfl rfl rfl ?_
  rw [Tryd.ntmps81]
  refine tri_seq ?_
  refine tri_region ?_
  refine s_box rfl rfl rfl rfl rfl rfl rfl ?_
  refine s_box rfl rfl rfl rfl rfl rfl rfl ?_
  refine s_mv (.inr rfl) (v := .sc (.bool false)) rfl rfl rfl rfl ?_
  refine rt_nil ?_
  refine tri_seq ?_
  refine tri_region ?_
  refine s_fieldAddr rfl rfl fd45_1 rfl rfl rfl rfl ?_
  refine s_load rfl rfl rfl rfl ty43 rfl (.inr rfl) (by conv => lhs; whnf) rfl rfl rfl ?_
  refine s_makeFunc (caps := [.ptr (3, 0) 0 0]) rfl rfl rfl rfl rfl ?_
  refine bnd1_elim h fun x1 q2 h => ?_
  refine s_callN (kb := [(3, 0)]) (ns := []) (v := .sc (.bool x1)) rfl rfl cl118 (wslices_ContainsFunc_Record p0.l 119 ([.lptr 1 [[.sc (.string p1)]] 0 0]) rfl cl119 (fun a0 => i_Exists_1 a0 p1) (fun a0 v0 hv => wi_Exists_1 a0 p1 v0 hv) x1 q2) rfl (.cons (.free rfl) (.cons (relFnL rfl (.cons (relBoxL rfl (.head _) (.cons (.free rfl) .nil) rfl rfl) .nil)) .nil)) trivial memNil .nil (fun _ _ => List.not_mem_nil) rfl trivial memNil rfl rfl rfl rfl rfl rfl ?_
  refine s_mv (.inr rfl) (by conv => lhs; whnf) rfl rfl rfl ?_
  refine rt_nil ?_
  refine tri_ret ?_
  have e0 := (some1 h); subst e0
  exact endY [] [] (rvC (resTmp rfl) rvN) trivial trivial rfl rfl rfl rfl (.free rfl)

/- impl.KindIn -/
def inv_i_KindIn_0 (p0 : MZone) (p1 : Quest) (j0_0 : Bool) : St := mkT 51 [(2, .ptr (2, 0) 0 0), (3, .ptr (3, 0) 0 0), (23, .sc (.bool j0_0))] [((2, 0), some ⟨45, 2, [[.sc (.string p0.apex), .lst 6 (List.map recV p0.l)]], false, true⟩), ((3, 0), some ⟨47, 2, [[.sc (.string p1.name), .sc (.int .i64 p1.ty)]], false, true⟩)]
set_option maxRecDepth 4000 in
set_option maxHeartbeats 800000 in
theorem wi_KindIn (p0 : MZone) (p1 : Quest) (r0 : Int) (h : i_KindIn p0 p1 = some r0) : Runs Tryd.prog 25 [.agg (mZoneV p0), .agg (questV p1)] [] (.sc (.int .i64 r0)) [] := by
  unfold i_KindIn at h
  refine runsR [.tmp 4] Tryd.func25 rfl rfl rfl rfl ?_
  rw [Tryd.ntmps25]
  refine tri_seq ?_
  refine tri_region ?_
  refine s_box rfl rfl rfl rfl rfl rfl rfl ?_
  refine s_box rfl rfl rfl rfl rfl rfl rfl ?_
  refine s_mv (.inr rfl) (v := .sc (.int .i64 0)) rfl rfl rfl rfl ?_
  refine rt_nil ?_
  refine tri_seq ?_
  refine tri_region ?_
  refine s_loadR rfl rfl rfl rfl ty45 rfl rfl rfl ?_
  refine s_fieldAddr rfl rfl fd47_0 rfl rfl rfl rfl ?_
  refine s_load rfl rfl rfl rfl ty9 rfl (.inr rfl) (by conv => lhs; whnf) rfl rfl rfl ?_
  refine bnd2_elim h fun x1 x2 q3 h => ?_
  refine s_callN (kb := []) (ns := []) (v := .tup [.sc (.string x1), .sc (.bool x2)]) rfl rfl cl78 (wi_CutOf p0 p1.name x1 x2 q3) rfl (.cons (relAgg rfl) (.cons (.free rfl) .nil)) trivial memNil .nil memNil rfl trivial memNil rfl rfl rfl rfl rfl rfl ?_
  refine s_mv (.inl rfl) (by conv => lhs; whnf) rfl rfl rfl ?_
  refine s_extract rfl rfl rfl rfl rfl rfl ?_
  refine s_extract rfl rfl rfl rfl rfl rfl ?_
  refine s_mv (.inr rfl) (by conv => lhs; whnf) rfl rfl rfl ?_
  refine s_mv (.inr rfl) (by conv => lhs; whnf) rfl rfl rfl ?_
  refine rt_nil ?_
  refine tri_seq ?_
  refine tri_block ?_
  refine tri_seq ?_
  refine tri_region ?_
  refine s_fieldAddr rfl rfl fd47_0 rfl rfl rfl rfl ?_
  refine s_load rfl rfl rfl rfl ty9 rfl (.inr rfl) (by conv => lhs; whnf) rfl rfl rfl ?_
  refine s_fieldAddr rfl rfl fd45_0 rfl rfl rfl rfl ?_
  refine s_load rfl rfl rfl rfl ty9 rfl (.inr rfl) (by conv => lhs; whnf) rfl rfl rfl ?_
  refine bnd1_elim h fun x4 q5 h => ?_
  refine s_callN (kb := []) (ns := []) (v := .sc (.bool x4)) rfl rfl cl79 (wi_Under p1.name p0.apex x4 q5) rfl (.cons (.free rfl) (.cons (.free rfl) .nil)) trivial memNil .nil memNil rfl trivial memNil rfl rfl rfl rfl rfl rfl ?_
  refine s_of (st_not rfl rfl) rfl rfl rfl rfl ?_
  refine s_mv (.inr rfl) (by conv => lhs; whnf) rfl rfl rfl ?_
  refine rt_nil ?_
  refine tri_cond rfl (fun c6 => ?_) (fun c6 => ?_)
  · replace h := cond_t h c6
    refine tri_seq ?_
    refine tri_region ?_
    refine s_mv (.inr rfl) (v := .sc (.int .i64 0)) rfl rfl rfl rfl ?_
    refine rt_nil ?_
    refine tri_ret ?_
    have e0 := (some1 h); subst e0
    exact endY [] [] (rvC (resTmp rfl) rvN) trivial trivial rfl rfl rfl rfl (.free rfl)
  · replace h := cond_f h c6
    refine tri_seq ?_
    refine tri_region ?_
    refine s_mv (.inl rfl) (by conv => lhs; whnf) rfl rfl rfl ?_
    refine s_mv (.inr rfl) (by conv => lhs; whnf) rfl rfl rfl ?_
    refine rt_nil ?_
    refine tri_cond rfl (fun c7 => ?_) (fun c7 => ?_)
    · replace h := cond_t h c7
      refine tri_seq ?_
      refine tri_region ?_
      refine s_mv (.inr rfl) (v := .sc (.int .i64 1)) rfl rfl rfl rfl ?_
      refine rt_nil ?_
      refine tri_ret ?_
      have e0 := (some1 h); subst e0
      exact endY [] [] (rvC (resTmp rfl) rvN) trivial trivial rfl rfl rfl rfl (.free rfl)
    · replace h := cond_f h c7
      refine tri_cutI (ι := { p : Bool // i_KindIn_j0 p0 p1 p = some r0 }) (fun p => inv_i_KindIn_0 p0 p1 p.1) ?_ ?_
      · skip
        refine tri_region ?_
        refine s_fieldAddr rfl rfl fd47_1 rfl rfl rfl rfl ?_
        refine s_load rfl rfl rfl rfl ty3 rfl (.inr rfl) (by conv => lhs; whnf) rfl rfl rfl ?_
        refine s_of (st_neI rfl rfl rfl) rfl rfl rfl rfl ?_
        refine s_mv (.inl rfl) (by conv => lhs; whnf) rfl rfl rfl ?_
        refine s_split (t := 27) rfl (fun b8 => ?_) (fun b8 => ?_)
        · replace h := cond_t h b8
          refine s_fieldAddr rfl rfl fd45_1 rfl rfl rfl rfl ?_
          refine s_load rfl rfl rfl rfl ty43 rfl (.inr rfl) (by conv => lhs; whnf) rfl rfl rfl ?_
          refine s_fieldAddr rfl rfl fd47_0 rfl rfl rfl rfl ?_
          refine s_load rfl rfl rfl rfl ty9 rfl (.inr rfl) (by conv => lhs; whnf) rfl rfl rfl ?_
          refine bnd1_elim h fun x9 q10 h => ?_
          refine s_callN (kb := []) (ns := []) (v := .ref (32, 0) 0 x9.length) rfl rfl cl80 (wi_SetOf p0.l p1.name 5 x9 q10) rfl (.cons (.free rfl) (.cons (.free rfl) (.cons (.free rfl) .nil))) trivial memNil .nil memNil rfl ⟨(allSc_map recV_sc), trivial⟩ memNil rfl (by first | (simp only [V.mat, V.mat1, V.mat0, matL, matT, List.length_map]; done) | (simp only [V.mat, V.mat1, V.mat0, matL, matT, List.length_map]; rfl)) rfl rfl rfl rfl ?_
          refine s_len (m := x9.length) rfl sl43 rfl rfl rfl rfl ?_
          refine s_of (st_gtr rfl rfl rfl) rfl rfl rfl rfl ?_
          refine s_pickT rfl rfl (by conv => lhs; whnf) rfl rfl rfl ?_
          refine s_mv (.inr rfl) (by conv => lhs; whnf) rfl rfl rfl ?_
          refine rt_nil ?_
          refine Exists.intro ⟨decide (0 < (x9.length : Int)), h⟩ ?_
          refine entX [((2, 0), ⟨45, 2, [[.sc (.string p0.apex), .lst 6 (List.map recV p0.l)]], false, true⟩, some (2, 0)), ((3, 0), ⟨47, 2, [[.sc (.string p1.name), .sc (.int .i64 p1.ty)]], false, true⟩, some (3, 0))] [] ⟨⟨rfl, _, rfl, rfl, rfl, rfl, id, rowsCv_one (.cons (.free rfl) (.cons (.free rfl) .nil)), rowsZ_one rfl⟩, ⟨rfl, _, rfl, rfl, rfl, rfl, id, rowsCv_one (.cons (.free rfl) (.cons (.free rfl) .nil)), rowsZ_one rfl⟩, trivial⟩ trivial rfl rfl ?_
          exact ⟨(.ptr rfl), (.ptr rfl), (.free rfl), trivial⟩
        · replace h := cond_f h b8
          refine s_skip rfl rfl rfl ?_
          refine s_skip rfl rfl rfl ?_
          refine s_skip rfl rfl rfl ?_
          refine s_skip rfl rfl rfl ?_
          refine s_skip rfl rfl rfl ?_
          refine s_skip rfl rfl rfl ?_
          refine s_skip rfl rfl rfl ?_
          refine s_pickF rfl rfl (v := .sc (.bool false)) rfl rfl rfl rfl ?_
          refine s_mv (.inr rfl) (by conv => lhs; whnf) rfl rfl rfl ?_
          refine rt_nil ?_
          refine Exists.intro ⟨false, h⟩ ?_
          refine entX [((2, 0), ⟨45, 2, [[.sc (.string p0.apex), .lst 6 (List.map recV p0.l)]], false, true⟩, some (2, 0)), ((3, 0), ⟨47, 2, [[.sc (.string p1.name), .sc (.int .i64 p1.ty)]], false, true⟩, some (3, 0))] [] ⟨⟨rfl, _, rfl, rfl, rfl, rfl, id, rowsCv_one (.cons (.free rfl) (.cons (.free rfl) .nil)), rowsZ_one rfl⟩, ⟨rfl, _, rfl, rfl, rfl, rfl, id, rowsCv_one (.cons (.free rfl) (.cons (.free rfl) .nil)), rowsZ_one rfl⟩, trivial⟩ trivial rfl rfl ?_
          exact ⟨(.ptr rfl), (.ptr rfl), (.free rfl), trivial⟩
      · rintro ⟨j0_0, h⟩
        replace h : i_KindIn_j0 p0 p1 j0_0 = some r0 := h
        unfold i_KindIn_j0 at h
        show Tri _ _ _ (inv_i_KindIn_0 p0 p1 j0_0)
        refine tri_cond rfl (fun c8 => ?_) (fun c8 => ?_)
        · replace h := cond_t h c8
          refine tri_seq ?_
          refine tri_region ?_
          refine s_mv (.inr rfl) (v := .sc (.int .i64 2)) rfl rfl rfl rfl ?_
          refine rt_nil ?_
          refine tri_ret ?_
          have e0 := (some1 h); subst e0
          exact endY [] [] (rvC (resTmp rfl) rvN) trivial trivial rfl rfl rfl rfl (.free rfl)
        · replace h := cond_f h c8
          refine tri_seq ?_
          refine tri_region ?_
          refine s_fieldAddr rfl rfl fd45_1 rfl rfl rfl rfl ?_
          refine s_load rfl rfl rfl rfl ty43 rfl (.inr rfl) (by conv => lhs; whnf) rfl rfl rfl ?_
          refine s_fieldAddr rfl rfl fd47_0 rfl rfl rfl rfl ?_
          refine s_load rfl rfl rfl rfl ty9 rfl (.inr rfl) (by conv => lhs; whnf) rfl rfl rfl ?_
          refine s_fieldAddr rfl rfl fd47_1 rfl rfl rfl rfl ?_
          refine s_load rfl rfl rfl rfl ty3 rfl (.inr rfl) (by conv => lhs; whnf) rfl rfl rfl ?_
          refine bnd1_elim h fun x9 q10 h => ?_
          refine s_callN (kb := []) (ns := []) (v := .ref (43, 0) 0 x9.length) rfl rfl cl80 (wi_SetOf p0.l p1.name p1.ty x9 q10) rfl (.cons (.free rfl) (.cons (.free rfl) (.cons (.free rfl) .nil))) trivial memNil .nil memNil rfl ⟨(allSc_map recV_sc), trivial⟩ memNil rfl (by first | (simp only [V.mat, V.mat1, V.mat0, matL, matT, List.length_map]; done) | (simp only [V.mat, V.mat1, V.mat0, matL, matT, List.length_map]; rfl)) rfl rfl rfl rfl ?_
          refine s_len (m := x9.length) rfl sl43 rfl rfl rfl rfl ?_
          refine s_of (st_gtr rfl rfl rfl) rfl rfl rfl rfl ?_
          refine s_mv (.inr rfl) (by conv => lhs; whnf) rfl rfl rfl ?_
          refine rt_nil ?_
          refine tri_cond rfl (fun c11 => ?_) (fun c11 => ?_)
          · replace h := cond_t h c11
            refine tri_seq ?_
            refine tri_region ?_
            refine s_mv (.inr rfl) (v := .sc (.int .i64 3)) rfl rfl rfl rfl ?_
            refine rt_nil ?_
            refine tri_ret ?_
            have e0 := (some1 h); subst e0
            exact endY [] [] (rvC (resTmp rfl) rvN) trivial trivial rfl rfl rfl rfl (.free rfl)
          · replace h := cond_f h c11
            refine tri_seq ?_
            refine tri_region ?_
            refine s_loadR rfl rfl rfl rfl ty45 rfl rfl rfl ?_
            refine s_fieldAddr rfl rfl fd47_0 rfl rfl rfl rfl ?_
            refine s_load rfl rfl rfl rfl ty9 rfl (.inr rfl) (by conv => lhs; whnf) rfl rfl rfl ?_
            refine bnd1_elim h fun x12 q13 h => ?_
            refine s_callN (kb := []) (ns := []) (v := .sc (.bool x12)) rfl rfl cl81 (wi_Exists p0 p1.name x12 q13) rfl (.cons (relAgg rfl) (.cons (.free rfl) .nil)) trivial memNil .nil memNil rfl trivial memNil rfl rfl rfl rfl rfl rfl ?_
            refine s_mv (.inr rfl) (by conv => lhs; whnf) rfl rfl rfl ?_
            refine rt_nil ?_
            refine tri_cond rfl (fun c14 => ?_) (fun c14 => ?_)
            · replace h := cond_t h c14
              refine tri_seq ?_
              refine tri_region ?_
              refine s_mv (.inr rfl) (v := .sc (.int .i64 4)) rfl rfl rfl rfl ?_
              refine rt_nil ?_
              refine tri_ret ?_
              have e0 := (some1 h); subst e0
              exact endY [] [] (rvC (resTmp rfl) rvN) trivial trivial rfl rfl rfl rfl (.free rfl)
            · replace h := cond_f h c14
              refine tri_skip ?_
              refine tri_seq ?_
              refine tri_region ?_
              refine s_mv (.inr rfl) (v := .sc (.int .i64 5)) rfl rfl rfl rfl ?_
              refine rt_nil ?_
              refine tri_ret ?_
              have e0 := (some1 h); subst e0
              exact endY [] [] (rvC (resTmp rfl) rvN) trivial trivial rfl rfl rfl rfl (.free rfl)

/- impl.AnswerIn -/

set_option maxRecDepth 4000 in
set_option maxHeartbeats 800000 in
theorem wi_AnswerIn (p0 : MZone) (p1 : Quest) (r0 : List Rec) (h : i_AnswerIn p0 p1 = some r0) : Runs Tryd.prog 30 [.agg (mZoneV p0), .agg (questV p1)] [] (.own 105 6 (List.map recV r0)) [] := by
  unfold i_AnswerIn at h
  refine runsR [.tmp 4] Tryd.func30 rfl rfl rfl rfl ?_
  rw [Tryd.ntmps30]
  refine tri_seq ?_
  refine tri_region ?_
  refine s_box rfl rfl rfl rfl rfl rfl rfl ?_
  refine s_box rfl rfl rfl rfl rfl rfl rfl ?_
  refine s_mv (.inr rfl) (v := .nils) rfl rfl rfl rfl ?_
  refine rt_nil ?_
  refine tri_seq ?_
  refine tri_seq ?_
  refine tri_region ?_
  refine s_loadR rfl rfl rfl rfl ty45 rfl rfl rfl ?_
  refine s_loadR rfl rfl rfl rfl ty47 rfl rfl rfl ?_
  refine bnd1_elim h fun x1 q2 h => ?_
  refine s_callN (kb := []) (ns := []) (v := .sc (.int .i64 x1)) rfl rfl cl25 (wi_KindIn p0 p1 x1 q2) rfl (.cons (relAgg rfl) (.cons (relAgg rfl) .nil)) trivial memNil .nil memNil rfl trivial memNil rfl rfl rfl rfl rfl rfl ?_
  refine rt_nil ?_
  refine tri_block ?_
  refine tri_seq ?_
  refine tri_region ?_
  refine s_of (st_eqI rfl rfl rfl) rfl rfl rfl rfl ?_
  refine s_mv (.inr rfl) (by conv => lhs; whnf) rfl rfl rfl ?_
  refine rt_nil ?_
  refine tri_cond rfl (fun c3 => ?_) (fun c3 => ?_)
  · replace h := cond_t h c3
    refine tri_seq ?_
    refine tri_region ?_
    refine s_fieldAddr rfl rfl fd45_1 rfl rfl rfl rfl ?_
    refine s_load rfl rfl rfl rfl ty43 rfl (.inr rfl) (by conv => lhs; whnf) rfl rfl rfl ?_
    refine s_fieldAddr rfl rfl fd47_0 rfl rfl rfl rfl ?_
    refine s_load rfl rfl rfl rfl ty9 rfl (.inr rfl) (by conv => lhs; whnf) rfl rfl rfl ?_
    refine bnd1_elim h fun x4 q5 h => ?_
    refine s_callN (kb := []) (ns := []) (v := .ref (14, 0) 0 x4.length) rfl rfl cl80 (wi_SetOf p0.l p1.name 5 x4 q5) rfl (.cons (.free rfl) (.cons (.free rfl) (.cons (.free rfl) .nil))) trivial memNil .nil memNil rfl ⟨(allSc_map recV_sc), trivial⟩ memNil rfl (by first | (simp only [V.mat, V.mat1, V.mat0, matL, matT, List.length_map]; done) | (simp only [V.mat, V.mat1, V.mat0, matL, matT, List.length_map]; rfl)) rfl rfl rfl rfl ?_
    refine s_mv (.inr rfl) (by conv => lhs; whnf) rfl rfl rfl ?_
    refine rt_nil ?_
    refine tri_ret ?_
    have e0 := (some1 h); subst e0
    exact endY (v' := .ref (2000, 0) 0 x4.length) [((2000, 0), ⟨105, 6, List.map recV x4, false, true⟩, some (14, 0))] [] (rvC (resTmp rfl) rvN) ⟨⟨rfl, _, rfl, rfl, rfl, rfl, id, rowsCv_eq rfl (allFree_map recV_free), rowsZ_map recV_len⟩, trivial⟩ trivial rfl rfl (by kernel_rfl) (by first | (simp only [V.mat, V.mat1, V.mat0, matL, matT, List.length_map]; done) | (simp only [V.mat, V.mat1, V.mat0, matL, matT, List.length_map]; rfl)) (.ref rfl)
  · replace h := cond_f h c3
    refine tri_seq ?_
    refine tri_region ?_
    refine s_of (st_eqI rfl rfl rfl) rfl rfl rfl rfl ?_
    refine s_mv (.inr rfl) (by conv => lhs; whnf) rfl rfl rfl ?_
    refine rt_nil ?_
    refine tri_cond rfl (fun c6 => ?_) (fun c6 => ?_)
    · replace h := cond_t h c6
      refine tri_seq ?_
      refine tri_region ?_
      refine s_fieldAddr rfl rfl fd45_1 rfl rfl rfl rfl ?_
      refine s_load rfl rfl rfl rfl ty43 rfl (.inr rfl) (by conv => lhs; whnf) rfl rfl rfl ?_
      refine s_fieldAddr rfl rfl fd47_0 rfl rfl rfl rfl ?_
      refine s_load rfl rfl rfl rfl ty9 rfl (.inr rfl) (by conv => lhs; whnf) rfl rfl rfl ?_
      refine s_fieldAddr rfl rfl fd47_1 rfl rfl rfl rfl ?_
      refine s_load rfl rfl rfl rfl ty3 rfl (.inr rfl) (by conv => lhs; whnf) rfl rfl rfl ?_
      refine bnd1_elim h fun x7 q8 h => ?_
      refine s_callN (kb := []) (ns := []) (v := .ref (23, 0) 0 x7.length) rfl rfl cl80 (wi_SetOf p0.l p1.name p1.ty x7 q8) rfl (.cons (.free rfl) (.cons (.free rfl) (.cons (.free rfl) .nil))) trivial memNil .nil memNil rfl ⟨(allSc_map recV_sc), trivial⟩ memNil rfl (by first | (simp only [V.mat, V.mat1, V.mat0, matL, matT, List.length_map]; done) | (simp only [V.mat, V.mat1, V.mat0, matL, matT, List.length_map]; rfl)) rfl rfl rfl rfl ?_
      refine s_mv (.inr rfl) (by conv => lhs; whnf) rfl rfl rfl ?_
      refine rt_nil ?_
      refine tri_ret ?_
      have e0 := (some1 h); subst e0
      exact endY (v' := .ref (2000, 0) 0 x7.length) [((2000, 0), ⟨105, 6, List.map recV x7, false, true⟩, some (23, 0))] [] (rvC (resTmp rfl) rvN) ⟨⟨rfl, _, rfl, rfl, rfl, rfl, id, rowsCv_eq rfl (allFree_map recV_free), rowsZ_map recV_len⟩, trivial⟩ trivial rfl rfl (by kernel_rfl) (by first | (simp only [V.mat, V.mat1, V.mat0, matL, matT, List.length_map]; done) | (simp only [V.mat, V.mat1, V.mat0, matL, matT, List.length_map]; rfl)) (.ref rfl)
    · replace h := cond_f h c6
      refine tri_skip ?_
      refine tri_seq ?_
      refine tri_region ?_
      refine s_mv (.inr rfl) (v := .nils) rfl rfl rfl rfl ?_
      refine rt_nil ?_
      refine tri_ret ?_
      have e0 := (some1 h); subst e0
      exact endY (v' := .ref (2000, 0) 0 (([] : List Rec).length)) [((2000, 0), ⟨105, 6, List.map recV ([] : List Rec), false, true⟩, none)] [] (rvC (resTmp rfl) rvN) ⟨rfl, trivial⟩ trivial rfl rfl (by kernel_rfl) (by first | (simp only [V.mat, V.mat1, V.mat0, matL, matT, List.length_map]; done) | (simp only [V.mat, V.mat1, V.mat0, matL, matT, List.length_map]; rfl)) (.nilRef rfl)

/- impl.LinkAt -/

set_option maxRecDepth 4000 in
set_option maxHeartbeats 800000 in
theorem wi_LinkAt (p0 : MForest) (p1 : Quest) (r0 : Int) (r1 : List Rec) (h : i_LinkAt p0 p1 = some (r0, r1)) : Runs Tryd.prog 50 [.agg (mForestV p0), .agg (questV p1)] [] (.tup [.sc (.int .i64 r0), .own 105 6 (List.map recV r1)]) [] := by
  unfold i_LinkAt at h
  refine runsR [.tmp 4, .tmp 5] Tryd.func50 rfl rfl rfl rfl ?_
  rw [Tryd.ntmps50]
  refine tri_seq ?_
  refine tri_region ?_
  refine s_box rfl rfl rfl rfl rfl rfl rfl ?_
  refine s_box rfl rfl rfl rfl rfl rfl rfl ?_
  refine s_mv (.inr rfl) (v := .sc (.int .i64 0)) rfl rfl rfl rfl ?_
  refine s_mv (.inr rfl) (v := .nils) rfl rfl rfl rfl ?_
  refine rt_nil ?_
  refine tri_seq ?_
  refine tri_region ?_
  refine s_loadR rfl rfl rfl rfl ty31 rfl rfl rfl ?_
  refine s_fieldAddr rfl rfl fd47_0 rfl rfl rfl rfl ?_
  refine s_load rfl rfl rfl rfl ty9 rfl (.inr rfl) (by conv => lhs; whnf) rfl rfl rfl ?_
  refine bnd1_elim h fun x1 q2 h => ?_
  refine s_callN (kb := []) (ns := []) (v := .sc (.int .i64 x1)) rfl rfl cl18 (wi_ZoneOf p0 p1.name x1 q2) rfl (.cons (relAgg rfl) (.cons (.free rfl) .nil)) trivial memNil .nil memNil rfl trivial memNil rfl rfl rfl rfl rfl rfl ?_
  refine s_mv (.inr rfl) (by conv => lhs; whnf) rfl rfl rfl ?_
  refine rt_nil ?_
  refine tri_seq ?_
  refine tri_seq ?_
  refine tri_region ?_
  refine s_mv (.inl rfl) (by conv => lhs; whnf) rfl rfl rfl ?_
  refine s_of (st_lss rfl rfl rfl) rfl rfl rfl rfl ?_
  refine rt_nil ?_
  refine tri_cond rfl (fun c3 => ?_) (fun c3 => ?_)
  · replace h := cond_t h c3
    refine tri_seq ?_
    refine tri_region ?_
    refine s_mv (.inr rfl) (v := .sc (.int .i64 0)) rfl rfl rfl rfl ?_
    refine s_mv (.inr rfl) (v := .nils) rfl rfl rfl rfl ?_
    refine rt_nil ?_
    refine tri_ret ?_
    have e0 := (some2 h).1; have e1 := (some2 h).2; subst e0; subst e1
    exact endY (v' := .tup [.sc (.int .i64 0), .ref (2000, 200) 0 (([] : List Rec).length)]) [((2000, 200), ⟨105, 6, List.map recV ([] : List Rec), false, true⟩, none)] [] (rvC (resTmp rfl) (rvC (resTmp rfl) rvN)) ⟨rfl, trivial⟩ trivial rfl rfl (by kernel_rfl) (by first | (simp only [V.mat, V.mat1, V.mat0, matL, matT, List.length_map]; done) | (simp only [V.mat, V.mat1, V.mat0, matL, matT, List.length_map]; rfl)) (CvL.tup (.cons (.free rfl) (.cons (.nilRef rfl) .nil)))
  · replace h := cond_f h c3
    refine tri_skip ?_
    refine tri_seq ?_
    refine tri_draw mixed ?_
    refine s_fieldAddr rfl rfl fd31_0 rfl rfl rfl rfl ?_
    refine s_load rfl rfl rfl rfl ty28 rfl (.inr rfl) (by conv => lhs; whnf) rfl rfl rfl ?_
    refine s_mv (.inl rfl) (by conv => lhs; whnf) rfl rfl rfl ?_
    refine bnd1_elim h fun x4 q5 h => ?_
    have q5a := (idx_some q5).1; have q5b := (idx_some q5).2
    refine s_indexFZ rfl rfl rfl sl28 q5a (get_ltM q5b) rfl rfl rfl ?_
    refine s_loadFR rfl rfl (rowG q5b) ty45 rfl rfl rfl ?_
    refine s_loadR rfl rfl rfl rfl ty47 rfl rfl rfl ?_
    refine bnd1_elim h fun x6 q7 h => ?_
    refine s_callN (kb := []) (ns := []) (v := .sc (.int .i64 x6)) rfl rfl cl25 (wi_KindIn x4 p1 x6 q7) rfl (.cons (relAgg rfl) (.cons (relAgg rfl) .nil)) trivial memNil .nil memNil rfl trivial memNil rfl rfl rfl rfl rfl rfl ?_
    refine s_fieldAddr rfl rfl fd31_0 rfl rfl rfl rfl ?_
    refine s_load rfl rfl rfl rfl ty28 rfl (.inr rfl) (by conv => lhs; whnf) rfl rfl rfl ?_
    refine s_mv (.inl rfl) (by conv => lhs; whnf) rfl rfl rfl ?_
    refine s_indexFZ rfl rfl rfl sl28 q5a (get_ltM q5b) rfl rfl rfl ?_
    refine s_loadFR rfl rfl (rowG q5b) ty45 rfl rfl rfl ?_
    refine s_loadR rfl rfl rfl rfl ty47 rfl rfl rfl ?_
    refine bnd1_elim h fun x8 q9 h => ?_
    refine s_callN (kb := []) (ns := []) (v := .ref (26, 0) 0 x8.length) rfl rfl cl30 (wi_AnswerIn x4 p1 x8 q9) rfl (.cons (relAgg rfl) (.cons (relAgg rfl) .nil)) trivial memNil .nil memNil rfl ⟨(allSc_map recV_sc), trivial⟩ memNil rfl (by first | (simp only [V.mat, V.mat1, V.mat0, matL, matT, List.length_map]; done) | (simp only [V.mat, V.mat1, V.mat0, matL, matT, List.length_map]; rfl)) rfl rfl rfl rfl ?_
    refine s_mv (.inr rfl) (by conv => lhs; whnf) rfl rfl rfl ?_
    refine s_mv (.inr rfl) (by conv => lhs; whnf) rfl rfl rfl ?_
    refine rt_nil ⟨by kernel_rfl, ?_⟩
    refine tri_ret ?_
    have e0 := (some2 h).1; have e1 := (some2 h).2; subst e0; subst e1
    exact endY (v' := .tup [.sc (.int .i64 x6), .ref (2000, 200) 0 x8.length]) [((2000, 200), ⟨105, 6, List.map recV x8, false, true⟩, some (26, 0))] [] (rvC (resTmp rfl) (rvC (resTmp rfl) rvN)) ⟨⟨rfl, _, rfl, rfl, rfl, rfl, id, rowsCv_eq rfl (allFree_map recV_free), rowsZ_map recV_len⟩, trivial⟩ trivial rfl rfl (by kernel_rfl) (by first | (simp only [V.mat, V.mat1, V.mat0, matL, matT, List.length_map]; done) | (simp only [V.mat, V.mat1, V.mat0, matL, matT, List.length_map]; rfl)) (CvL.tup (.cons (.free rfl) (.cons (.ref rfl) .nil)))

/- impl.FactOf -/
def inv_i_FactOf_0 (p0 : MForest) (p1 : Quest) (v0_0 : ByteArray) (v0_1 : List Rec) : St := mkT 48 [(2, .ptr (2, 0) 0 0), (3, .ptr (3, 0) 0 0), (4, .ptr (4, 0) 0 0), (5, .ptr (5, 0) 0 0)] [((2, 0), some ⟨31, 2, [[.lst 2 (List.map mZoneV p0.zones), .lst 2 (List.map mPostV p0.posts)]], false, true⟩), ((3, 0), some ⟨47, 2, [[.sc (.string v0_0), .sc (.int .i64 p1.ty)]], false, true⟩), ((4, 0), some ⟨79, 4, [[.sc (.int .i64 0), .nils, .nils, .sc (.bool false)]], false, true⟩), ((5, 0), some ⟨79, 4, [[.sc (.int .i64 0), .ref (2005, 2) 0 v0_1.length, .nils, .sc (.bool false)]], false, true⟩), ((2005, 2), some ⟨105, 6, List.map recV v0_1, false, true⟩)]
set_option maxRecDepth 4000 in
set_option maxHeartbeats 800000 in
theorem wi_FactOf (p0 : MForest) (p1 : Quest) (r0 : MFact) (h : i_FactOf p0 p1 = some r0) : Runs Tryd.prog 59 [.agg (mForestV p0), .agg (questV p1)] [] (.agg [.sc (.int .i64 r0.code), .own 105 6 (List.map recV r0.links), .own 105 6 (List.map recV r0.l), .sc (.bool r0.fin)]) [] := by
  unfold i_FactOf at h
  refine runsR [.cell 4 79] Tryd.func59 rfl rfl rfl rfl ?_
  rw [Tryd.ntmps59]
  refine tri_seq ?_
  refine tri_region ?_
  refine s_box rfl rfl rfl rfl rfl rfl rfl ?_
  refine s_box rfl rfl rfl rfl rfl rfl rfl ?_
  refine s_alloc rfl rfl rfl zc79 rfl rfl rfl rfl rfl ?_
  refine rt_nil ?_
  refine tri_seq ?_
  refine tri_region ?_
  refine s_build (cells' := [.sc (.int .i64 0), .nils, .nils, .sc (.bool false)]) rfl stc79 rfl rfl rfl rfl rfl rfl rfl ?_
  refine s_alloc rfl rfl rfl zc79 rfl rfl rfl rfl rfl ?_
  refine s_storeB rfl rfl rfl ty79 rfl rfl rfl rfl rfl ?_
  refine rt_nil ?_
  refine tri_block ?_
  refine tri_loop (ι := { p : Nat × ByteArray × (List Rec) // i_FactOf_l0 p0 p1 p.1 p.2.1 p.2.2 = some r0 }) (fun p => inv_i_FactOf_0 p0 p1 p.1.2.1 p.1.2.2) (fun p => p.1.1) ⟨(fuel0, p1.name, ([] : List Rec)), h⟩ ?_ ?_
  · skip
    refine entX [((2, 0), ⟨31, 2, [[.lst 2 (List.map mZoneV p0.zones), .lst 2 (List.map mPostV p0.posts)]], false, true⟩, some (2, 0)), ((3, 0), ⟨47, 2, [[.sc (.string p1.name), .sc (.int .i64 p1.ty)]], false, true⟩, some (3, 0)), ((4, 0), ⟨79, 4, [[.sc (.int .i64 0), .nils, .nils, .sc (.bool false)]], false, true⟩, some (4, 0)), ((5, 0), ⟨79, 4, [[.sc (.int .i64 0), .ref (2005, 2) 0 ([] : List Rec).length, .nils, .sc (.bool false)]], false, true⟩, some (5, 0)), ((2005, 2), ⟨105, 6, List.map recV ([] : List Rec), false, true⟩, none)] [] ⟨⟨rfl, _, rfl, rfl, rfl, rfl, id, rowsCv_one (.cons (.free rfl) (.cons (.free rfl) .nil)), rowsZ_one rfl⟩, ⟨rfl, _, rfl, rfl, rfl, rfl, id, rowsCv_one (.cons (.free rfl) (.cons (.free rfl) .nil)), rowsZ_one rfl⟩, ⟨rfl, _, rfl, rfl, rfl, rfl, id, rowsCv_one (.cons (.free rfl) (.cons (.free rfl) (.cons (.free rfl) (.cons (.free rfl) .nil)))), rowsZ_one rfl⟩, ⟨rfl, _, rfl, rfl, rfl, rfl, id, rowsCv_one (.cons (.free rfl) (.cons (.nilRef rfl) (.cons (.free rfl) (.cons (.free rfl) .nil)))), rowsZ_one rfl⟩, rfl, trivial⟩ trivial rfl rfl ?_
    exact ⟨(.ptr rfl), (.ptr rfl), (.ptr rfl), (.ptr rfl), trivial⟩
  · rintro ⟨⟨f0, v0_0, v0_1⟩, h⟩
    replace h : i_FactOf_l0 p0 p1 f0 v0_0 v0_1 = some r0 := h
    cases f0 with
    | zero => cases h
    | succ f0 =>
    rw [i_FactOf_l0] at h
    show Tri _ _ _ (inv_i_FactOf_0 p0 p1 v0_0 v0_1)
    refine tri_block ?_
    refine tri_seq ?_
    refine tri_region ?_
    refine s_loadR rfl rfl rfl rfl ty31 rfl rfl rfl ?_
    refine s_loadR rfl rfl rfl rfl ty47 rfl rfl rfl ?_
    refine bnd2_elim h fun x1 x2 q3 h => ?_
    refine s_callN (kb := []) (ns := []) (v := .tup [.sc (.int .i64 x1), .ref (12, 200) 0 x2.length]) rfl rfl cl50 (wi_LinkAt p0 (Quest.mk v0_0 p1.ty) x1 x2 q3) rfl (.cons (relAgg rfl) (.cons (relAgg rfl) .nil)) trivial memNil .nil memNil rfl ⟨(allSc_map recV_sc), trivial⟩ memNil rfl (by first | (simp only [V.mat, V.mat1, V.mat0, matL, matT, List.length_map]; done) | (simp only [V.mat, V.mat1, V.mat0, matL, matT, List.length_map]; rfl)) rfl rfl rfl rfl ?_
    refine s_mv (.inl rfl) (by conv => lhs; whnf) rfl rfl rfl ?_
    refine s_extract rfl rfl rfl rfl rfl rfl ?_
    refine s_extract rfl rfl rfl rfl rfl rfl ?_
    refine s_mv (.inr rfl) (by conv => lhs; whnf) rfl rfl rfl ?_
    refine s_mv (.inr rfl) (by conv => lhs; whnf) rfl rfl rfl ?_
    refine rt_nil ?_
    refine tri_seq ?_
    refine tri_seq ?_
    refine tri_region ?_
    refine s_mv (.inl rfl) (by conv => lhs; whnf) rfl rfl rfl ?_
    refine rt_nil ?_
    refine tri_block ?_
    refine tri_seq ?_
    refine tri_region ?_
    refine s_of (st_eqI rfl rfl rfl) rfl rfl rfl rfl ?_
    refine s_mv (.inr rfl) (by conv => lhs; whnf) rfl rfl rfl ?_
    refine rt_nil ?_
    refine tri_cond rfl (fun c4 => ?_) (fun c4 => ?_)
    · replace h := cond_t h c4
      refine tri_seq ?_
      refine tri_seq ?_
      refine tri_region ?_
      refine s_fieldAddr rfl rfl fd79_1 rfl rfl rfl rfl ?_
      refine s_load rfl rfl rfl rfl ty43 rfl (.inr rfl) (by conv => lhs; whnf) rfl rfl rfl ?_
      refine s_len (m := v0_1.length) rfl sl43 rfl rfl rfl rfl ?_
      refine s_of (st_eqI rfl rfl rfl) rfl rfl rfl rfl ?_
      refine rt_nil ?_
      refine tri_cond rfl (fun c5 => ?_) (fun c5 => ?_)
      · replace h := cond_t h c5
        refine tri_seq ?_
        refine tri_region ?_
        refine s_build (cells' := [.sc (.int .i64 0), .nils, .nils, .sc (.bool false)]) rfl stc79 rfl rfl rfl rfl rfl rfl rfl ?_
        refine s_storeB rfl rfl rfl ty79 rfl rfl rfl rfl rfl ?_
        refine rt_nil ?_
        refine tri_ret ?_
        have e0 := (some1 h); subst e0
        exact endY (v' := .agg [.sc (.int .i64 0), .ref (2000, 1) 0 (([] : List Rec).length), .ref (2000, 2) 0 (([] : List Rec).length), .sc (.bool false)]) [((2000, 1), ⟨105, 6, List.map recV ([] : List Rec), false, true⟩, none), ((2000, 2), ⟨105, 6, List.map recV ([] : List Rec), false, true⟩, none)] [] (rvC (resCell rfl rfl ty79) rvN) ⟨rfl, rfl, trivial⟩ trivial rfl rfl (by kernel_rfl) (by first | (simp only [V.mat, V.mat1, V.mat0, matL, matT, List.length_map]; done) | (simp only [V.mat, V.mat1, V.mat0, matL, matT, List.length_map]; rfl)) (CvL.agg (.cons (.free rfl) (.cons (.nilRef rfl) (.cons (.nilRef rfl) (.cons (.free rfl) .nil)))))
      · replace h := cond_f h c5
        refine tri_skip ?_
        refine tri_seq ?_
        refine tri_draw mixed ?_
        refine s_fieldAddr rfl rfl fd79_1 rfl rfl rfl rfl ?_
        refine s_load rfl rfl rfl rfl ty43 rfl (.inr rfl) (by conv => lhs; whnf) rfl rfl rfl ?_
        refine s_mv (.inl rfl) (by conv => lhs; whnf) rfl rfl rfl ?_
        refine bnd1_elim h fun x6 q7 h => ?_
        have q7a := (idx_some q7).1; have q7b := (idx_some q7).2
        refine s_indexZ rfl rfl rfl rfl sl43 rfl q7a (get_lt q7b) rfl rfl rfl ?_
        refine s_loadR rfl rfl rfl (rowG q7b) ty105 rfl rfl rfl ?_
        refine s_buildSlice (rows' := List.map recV [x6]) rfl rfl rfl sl43 zc105 rfl rfl rfl rfl rfl rfl rfl rfl rfl ?_
        refine grd_elim h fun g8 h => ?_
        refine s_appL rfl rfl rfl sl43 zc105 rfl rfl rfl rfl rfl rfl (src_refL rfl rfl) g8 rfl rfl ?_
        refine s_fieldAddr rfl rfl fd79_1 rfl rfl rfl rfl ?_
        refine s_store (rows' := [[.sc (.int .i64 0), .ref (30, 0) 0 ((v0_1 ++ [x6]).length), .nils, .sc (.bool false)]]) rfl rfl rfl rfl ty43 rfl rfl rfl rfl rfl rfl ?_
        refine rt_nil ⟨by kernel_rfl, ?_⟩
        refine tri_seq ?_
        refine tri_region ?_
        refine s_mv (.inl rfl) (by conv => lhs; whnf) rfl rfl rfl ?_
        refine s_indexZ rfl rfl rfl rfl sl43 rfl q7a (get_lt q7b) rfl rfl rfl ?_
        refine s_fieldAddr rfl rfl fd105_4 rfl rfl rfl rfl ?_
        refine s_load rfl rfl rfl (rowG q7b) ty9 rfl (.inr rfl) (by conv => lhs; whnf) rfl rfl rfl ?_
        refine s_fieldAddr rfl rfl fd47_0 rfl rfl rfl rfl ?_
        refine s_store (rows' := [[.sc (.string x6.host), .sc (.int .i64 p1.ty)]]) rfl rfl rfl rfl ty9 rfl rfl rfl rfl rfl rfl ?_
        refine rt_nil ?_
        refine tri_exit ?_
        refine Exists.intro ⟨(f0, x6.host, v0_1 ++ [x6]), h⟩ (And.intro (Nat.lt_succ_self _) ?_)
        refine entX [((2, 0), ⟨31, 2, [[.lst 2 (List.map mZoneV p0.zones), .lst 2 (List.map mPostV p0.posts)]], false, true⟩, some (2, 0)), ((3, 0), ⟨47, 2, [[.sc (.string x6.host), .sc (.int .i64 p1.ty)]], false, true⟩, some (3, 0)), ((4, 0), ⟨79, 4, [[.sc (.int .i64 0), .nils, .nils, .sc (.bool false)]], false, true⟩, some (4, 0)), ((5, 0), ⟨79, 4, [[.sc (.int .i64 0), .ref (2005, 2) 0 (v0_1 ++ [x6]).length, .nils, .sc (.bool false)]], false, true⟩, some (5, 0)), ((2005, 2), ⟨105, 6, List.map recV (v0_1 ++ [x6]), false, true⟩, some (30, 0))] [] ⟨⟨rfl, _, rfl, rfl, rfl, rfl, id, rowsCv_one (.cons (.free rfl) (.cons (.free rfl) .nil)), rowsZ_one rfl⟩, ⟨rfl, _, rfl, rfl, rfl, rfl, id, rowsCv_one (.cons (.free rfl) (.cons (.free rfl) .nil)), rowsZ_one rfl⟩, ⟨rfl, _, rfl, rfl, rfl, rfl, id, rowsCv_one (.cons (.free rfl) (.cons (.free rfl) (.cons (.free rfl) (.cons (.free rfl) .nil)))), rowsZ_one rfl⟩, ⟨rfl, _, rfl, rfl, rfl, rfl, id, rowsCv_one (.cons (.free rfl) (.cons (.ref rfl) (.cons (.free rfl) (.cons (.free rfl) .nil)))), rowsZ_one rfl⟩, ⟨rfl, _, rfl, rfl, rfl, rfl, id, rowsCv_eq rfl (allFree_map recV_free), rowsZ_map recV_len⟩, trivial⟩ trivial rfl rfl ?_
        exact ⟨(.ptr rfl), (.ptr rfl), (.ptr rfl), (.ptr rfl), trivial⟩
    · replace h := cond_f h c4
      refine tri_seq ?_
      refine tri_region ?_
      refine s_of (st_eqI rfl rfl rfl) rfl rfl rfl rfl ?_
      refine s_mv (.inr rfl) (by conv => lhs; whnf) rfl rfl rfl ?_
      refine rt_nil ?_
      refine tri_cond rfl (fun c9 => ?_) (fun c9 => ?_)
      · replace h := cond_t h c9
        refine tri_region ?_
        refine s_mv (.inl rfl) (by conv => lhs; whnf) rfl rfl rfl ?_
        refine s_fieldAddr rfl rfl fd79_2 rfl rfl rfl rfl ?_
        refine s_store (rows' := [[.sc (.int .i64 0), .ref (2005, 2) 0 v0_1.length, .ref (12, 200) 0 x2.length, .sc (.bool false)]]) rfl rfl rfl rfl ty43 rfl rfl rfl rfl rfl rfl ?_
        refine rt_nil ?_
        refine tri_seq ?_
        refine tri_region ?_
        refine s_fieldAddr rfl rfl fd79_3 rfl rfl rfl rfl ?_
        refine s_store (rows' := [[.sc (.int .i64 0), .ref (2005, 2) 0 v0_1.length, .ref (12, 200) 0 x2.length, .sc (.bool true)]]) rfl rfl rfl rfl ty4 rfl rfl rfl rfl rfl rfl ?_
        refine rt_nil ?_
        refine tri_seq ?_
        refine tri_region ?_
        refine s_loadR rfl rfl rfl rfl ty79 rfl rfl rfl ?_
        refine s_storeB rfl rfl rfl ty79 rfl rfl rfl rfl rfl ?_
        refine rt_nil ?_
        refine tri_ret ?_
        have e0 := (some1 h); subst e0
        exact endY (v' := .agg [.sc (.int .i64 0), .ref (2000, 1) 0 v0_1.length, .ref (2000, 2) 0 x2.length, .sc (.bool true)]) [((2000, 1), ⟨105, 6, List.map recV v0_1, false, true⟩, some (2005, 2)), ((2000, 2), ⟨105, 6, List.map recV x2, false, true⟩, some (12, 200))] [] (rvC (resCell rfl rfl ty79) rvN) ⟨⟨rfl, _, rfl, rfl, rfl, rfl, id, rowsCv_eq rfl (allFree_map recV_free), rowsZ_map recV_len⟩, ⟨rfl, _, rfl, rfl, rfl, rfl, id, rowsCv_eq rfl (allFree_map recV_free), rowsZ_map recV_len⟩, trivial⟩ trivial rfl rfl (by kernel_rfl) (by first | (simp only [V.mat, V.mat1, V.mat0, matL, matT, List.length_map]; done) | (simp only [V.mat, V.mat1, V.mat0, matL, matT, List.length_map]; rfl)) (CvL.agg (.cons (.free rfl) (.cons (.ref rfl) (.cons (.ref rfl) (.cons (.free rfl) .nil)))))
      · replace h := cond_f h c9
        refine tri_seq ?_
        refine tri_region ?_
        refine s_of (st_eqI rfl rfl rfl) rfl rfl rfl rfl ?_
        refine s_mv (.inr rfl) (by conv => lhs; whnf) rfl rfl rfl ?_
        refine rt_nil ?_
        refine tri_cond rfl (fun c10 => ?_) (fun c10 => ?_)
        · replace h := cond_t h c10
          refine tri_skip ?_
          refine tri_seq ?_
          refine tri_region ?_
          refine s_fieldAddr rfl rfl fd79_3 rfl rfl rfl rfl ?_
          refine s_store (rows' := [[.sc (.int .i64 0), .ref (2005, 2) 0 v0_1.length, .nils, .sc (.bool true)]]) rfl rfl rfl rfl ty4 rfl rfl rfl rfl rfl rfl ?_
          refine rt_nil ?_
          refine tri_seq ?_
          refine tri_region ?_
          refine s_loadR rfl rfl rfl rfl ty79 rfl rfl rfl ?_
          refine s_storeB rfl rfl rfl ty79 rfl rfl rfl rfl rfl ?_
          refine rt_nil ?_
          refine tri_ret ?_
          have e0 := (some1 h); subst e0
          exact endY (v' := .agg [.sc (.int .i64 0), .ref (2000, 1) 0 v0_1.length, .ref (2000, 2) 0 (([] : List Rec).length), .sc (.bool true)]) [((2000, 1), ⟨105, 6, List.map recV v0_1, false, true⟩, some (2005, 2)), ((2000, 2), ⟨105, 6, List.map recV ([] : List Rec), false, true⟩, none)] [] (rvC (resCell rfl rfl ty79) rvN) ⟨⟨rfl, _, rfl, rfl, rfl, rfl, id, rowsCv_eq rfl (allFree_map recV_free), rowsZ_map recV_len⟩, rfl, trivial⟩ trivial rfl rfl (by kernel_rfl) (by first | (simp only [V.mat, V.mat1, V.mat0, matL, matT, List.length_map]; done) | (simp only [V.mat, V.mat1, V.mat0, matL, matT, List.length_map]; rfl)) (CvL.agg (.cons (.free rfl) (.cons (.ref rfl) (.cons (.nilRef rfl) (.cons (.free rfl) .nil)))))
        · replace h := cond_f h c10
          refine tri_seq ?_
          refine tri_region ?_
          refine s_of (st_eqI rfl rfl rfl) rfl rfl rfl rfl ?_
          refine s_mv (.inr rfl) (by conv => lhs; whnf) rfl rfl rfl ?_
          refine rt_nil ?_
          refine tri_cond rfl (fun c11 => ?_) (fun c11 => ?_)
          · replace h := cond_t h c11
            refine tri_region ?_
            refine s_fieldAddr rfl rfl fd79_0 rfl rfl rfl rfl ?_
            refine s_store (rows' := [[.sc (.int .i64 3), .ref (2005, 2) 0 v0_1.length, .nils, .sc (.bool false)]]) rfl rfl rfl rfl ty3 rfl rfl rfl rfl rfl rfl ?_
            refine rt_nil ?_
            refine tri_seq ?_
            refine tri_region ?_
            refine s_fieldAddr rfl rfl fd79_3 rfl rfl rfl rfl ?_
            refine s_store (rows' := [[.sc (.int .i64 3), .ref (2005, 2) 0 v0_1.length, .nils, .sc (.bool true)]]) rfl rfl rfl rfl ty4 rfl rfl rfl rfl rfl rfl ?_
            refine rt_nil ?_
            refine tri_seq ?_
            refine tri_region ?_
            refine s_loadR rfl rfl rfl rfl ty79 rfl rfl rfl ?_
            refine s_storeB rfl rfl rfl ty79 rfl rfl rfl rfl rfl ?_
            refine rt_nil ?_
            refine tri_ret ?_
            have e0 := (some1 h); subst e0
            exact endY (v' := .agg [.sc (.int .i64 3), .ref (2000, 1) 0 v0_1.length, .ref (2000, 2) 0 (([] : List Rec).length), .sc (.bool true)]) [((2000, 1), ⟨105, 6, List.map recV v0_1, false, true⟩, some (2005, 2)), ((2000, 2), ⟨105, 6, List.map recV ([] : List Rec), false, true⟩, none)] [] (rvC (resCell rfl rfl ty79) rvN) ⟨⟨rfl, _, rfl, rfl, rfl, rfl, id, rowsCv_eq rfl (allFree_map recV_free), rowsZ_map recV_len⟩, rfl, trivial⟩ trivial rfl rfl (by kernel_rfl) (by first | (simp only [V.mat, V.mat1, V.mat0, matL, matT, List.length_map]; done) | (simp only [V.mat, V.mat1, V.mat0, matL, matT, List.length_map]; rfl)) (CvL.agg (.cons (.free rfl) (.cons (.ref rfl) (.cons (.nilRef rfl) (.cons (.free rfl) .nil)))))
          · replace h := cond_f h c11
            refine tri_seq ?_
            refine tri_region ?_
            refine s_build (cells' := [.sc (.int .i64 0), .nils, .nils, .sc (.bool false)]) rfl stc79 rfl rfl rfl rfl rfl rfl rfl ?_
            refine s_storeB rfl rfl rfl ty79 rfl rfl rfl rfl rfl ?_
            refine rt_nil ?_
            refine tri_ret ?_
            have e0 := (some1 h); subst e0
            exact endY (v' := .agg [.sc (.int .i64 0), .ref (2000, 1) 0 (([] : List Rec).length), .ref (2000, 2) 0 (([] : List Rec).length), .sc (.bool false)]) [((2000, 1), ⟨105, 6, List.map recV ([] : List Rec), false, true⟩, none), ((2000, 2), ⟨105, 6, List.map recV ([] : List Rec), false, true⟩, none)] [] (rvC (resCell rfl rfl ty79) rvN) ⟨rfl, rfl, trivial⟩ trivial rfl rfl (by kernel_rfl) (by first | (simp only [V.mat, V.mat1, V.mat0, matL, matT, List.length_map]; done) | (simp only [V.mat, V.mat1, V.mat0, matL, matT, List.length_map]; rfl)) (CvL.agg (.cons (.free rfl) (.cons (.nilRef rfl) (.cons (.nilRef rfl) (.cons (.free rfl) .nil)))))

/- laws.eqRecord -/

set_option maxRecDepth 4000 in
set_option maxHeartbeats 800000 in
theorem ww_eqRecord (p0 : Rec) (p1 : Rec) (r0 : Bool) (h : w_eqRecord p0 p1 = some r0) : Runs Tryd.prog 85 [.agg (recV p0), .agg (recV p1)] [] (.sc (.bool r0)) [] := by
  unfold w_eqRecord at h
  refine runsR [.tmp 4] Tryd.func85 rfl rfl rfl rfl ?_
  rw [Tryd.ntmps85]
  refine tri_seq ?_
  refine tri_region ?_
  refine s_box rfl rfl rfl rfl rfl rfl rfl ?_
  refine s_box rfl rfl rfl rfl rfl rfl rfl ?_
  refine s_mv (.inr rfl) (v := .sc (.bool false)) rfl rfl rfl rfl ?_
  refine rt_nil ?_
  refine tri_seq ?_
  refine tri_seq ?_
  refine tri_region ?_
  refine s_fieldAddr rfl rfl fd105_0 rfl rfl rfl rfl ?_
  refine s_load rfl rfl rfl rfl ty9 rfl (.inr rfl) (by conv => lhs; whnf) rfl rfl rfl ?_
  refine s_fieldAddr rfl rfl fd105_0 rfl rfl rfl rfl ?_
  refine s_load rfl rfl rfl rfl ty9 rfl (.inr rfl) (by conv => lhs; whnf) rfl rfl rfl ?_
  refine s_of (st_neS rfl rfl rfl) rfl rfl rfl rfl ?_
  refine rt_nil ?_
  refine tri_cond rfl (fun c1 => ?_) (fun c1 => ?_)
  · replace h := cond_t h c1
    refine tri_seq ?_
    refine tri_region ?_
    refine s_mv (.inr rfl) (v := .sc (.bool false)) rfl rfl rfl rfl ?_
    refine rt_nil ?_
    refine tri_ret ?_
    have e0 := (some1 h); subst e0
    exact endY [] [] (rvC (resTmp rfl) rvN) trivial trivial rfl rfl rfl rfl (.free rfl)
  · replace h := cond_f h c1
    refine tri_skip ?_
    refine tri_seq ?_
    refine tri_seq ?_
    refine tri_region ?_
    refine s_fieldAddr rfl rfl fd105_1 rfl rfl rfl rfl ?_
    refine s_load rfl rfl rfl rfl ty3 rfl (.inr rfl) (by conv => lhs; whnf) rfl rfl rfl ?_
    refine s_fieldAddr rfl rfl fd105_1 rfl rfl rfl rfl ?_
    refine s_load rfl rfl rfl rfl ty3 rfl (.inr rfl) (by conv => lhs; whnf) rfl rfl rfl ?_
    refine s_of (st_neI rfl rfl rfl) rfl rfl rfl rfl ?_
    refine rt_nil ?_
    refine tri_cond rfl (fun c2 => ?_) (fun c2 => ?_)
    · replace h := cond_t h c2
      refine tri_seq ?_
      refine tri_region ?_
      refine s_mv (.inr rfl) (v := .sc (.bool false)) rfl rfl rfl rfl ?_
      refine rt_nil ?_
      refine tri_ret ?_
      have e0 := (some1 h); subst e0
      exact endY [] [] (rvC (resTmp rfl) rvN) trivial trivial rfl rfl rfl rfl (.free rfl)
    · replace h := cond_f h c2
      refine tri_skip ?_
      refine tri_seq ?_
      refine tri_seq ?_
      refine tri_region ?_
      refine s_fieldAddr rfl rfl fd105_2 rfl rfl rfl rfl ?_
      refine s_load rfl rfl rfl rfl ty3 rfl (.inr rfl) (by conv => lhs; whnf) rfl rfl rfl ?_
      refine s_fieldAddr rfl rfl fd105_2 rfl rfl rfl rfl ?_
      refine s_load rfl rfl rfl rfl ty3 rfl (.inr rfl) (by conv => lhs; whnf) rfl rfl rfl ?_
      refine s_of (st_neI rfl rfl rfl) rfl rfl rfl rfl ?_
      refine rt_nil ?_
      refine tri_cond rfl (fun c3 => ?_) (fun c3 => ?_)
      · replace h := cond_t h c3
        refine tri_seq ?_
        refine tri_region ?_
        refine s_mv (.inr rfl) (v := .sc (.bool false)) rfl rfl rfl rfl ?_
        refine rt_nil ?_
        refine tri_ret ?_
        have e0 := (some1 h); subst e0
        exact endY [] [] (rvC (resTmp rfl) rvN) trivial trivial rfl rfl rfl rfl (.free rfl)
      · replace h := cond_f h c3
        refine tri_skip ?_
        refine tri_seq ?_
        refine tri_seq ?_
        refine tri_region ?_
        refine s_fieldAddr rfl rfl fd105_3 rfl rfl rfl rfl ?_
        refine s_load rfl rfl rfl rfl ty3 rfl (.inr rfl) (by conv => lhs; whnf) rfl rfl rfl ?_
        refine s_fieldAddr rfl rfl fd105_3 rfl rfl rfl rfl ?_
        refine s_load rfl rfl rfl rfl ty3 rfl (.inr rfl) (by conv => lhs; whnf) rfl rfl rfl ?_
        refine s_of (st_neI rfl rfl rfl) rfl rfl rfl rfl ?_
        refine rt_nil ?_
        refine tri_cond rfl (fun c4 => ?_) (fun c4 => ?_)
        · replace h := cond_t h c4
          refine tri_seq ?_
          refine tri_region ?_
          refine s_mv (.inr rfl) (v := .sc (.bool false)) rfl rfl rfl rfl ?_
          refine rt_nil ?_
          refine tri_ret ?_
          have e0 := (some1 h); subst e0
          exact endY [] [] (rvC (resTmp rfl) rvN) trivial trivial rfl rfl rfl rfl (.free rfl)
        · replace h := cond_f h c4
          refine tri_skip ?_
          refine tri_seq ?_
          refine tri_seq ?_
          refine tri_region ?_
          refine s_fieldAddr rfl rfl fd105_4 rfl rfl rfl rfl ?_
          refine s_load rfl rfl rfl rfl ty9 rfl (.inr rfl) (by conv => lhs; whnf) rfl rfl rfl ?_
          refine s_fieldAddr rfl rfl fd105_4 rfl rfl rfl rfl ?_
          refine s_load rfl rfl rfl rfl ty9 rfl (.inr rfl) (by conv => lhs; whnf) rfl rfl rfl ?_
          refine s_of (st_neS rfl rfl rfl) rfl rfl rfl rfl ?_
          refine rt_nil ?_
          refine tri_cond rfl (fun c5 => ?_) (fun c5 => ?_)
          · replace h := cond_t h c5
            refine tri_seq ?_
            refine tri_region ?_
            refine s_mv (.inr rfl) (v := .sc (.bool false)) rfl rfl rfl rfl ?_
            refine rt_nil ?_
            refine tri_ret ?_
            have e0 := (some1 h); subst e0
            exact endY [] [] (rvC (resTmp rfl) rvN) trivial trivial rfl rfl rfl rfl (.free rfl)
          · replace h := cond_f h c5
            refine tri_skip ?_
            refine tri_seq ?_
            refine tri_seq ?_
            refine tri_region ?_
            refine s_fieldAddr rfl rfl fd105_5 rfl rfl rfl rfl ?_
            refine s_load rfl rfl rfl rfl ty9 rfl (.inr rfl) (by conv => lhs; whnf) rfl rfl rfl ?_
            refine s_fieldAddr rfl rfl fd105_5 rfl rfl rfl rfl ?_
            refine s_load rfl rfl rfl rfl ty9 rfl (.inr rfl) (by conv => lhs; whnf) rfl rfl rfl ?_
            refine s_of (st_neS rfl rfl rfl) rfl rfl rfl rfl ?_
            refine rt_nil ?_
            refine tri_cond rfl (fun c6 => ?_) (fun c6 => ?_)
            · replace h := cond_t h c6
              refine tri_seq ?_
              refine tri_region ?_
              refine s_mv (.inr rfl) (v := .sc (.bool false)) rfl rfl rfl rfl ?_
              refine rt_nil ?_
              refine tri_ret ?_
              have e0 := (some1 h); subst e0
              exact endY [] [] (rvC (resTmp rfl) rvN) trivial trivial rfl rfl rfl rfl (.free rfl)
            · replace h := cond_f h c6
              refine tri_skip ?_
              refine tri_seq ?_
              refine tri_region ?_
              refine s_mv (.inr rfl) (v := .sc (.bool true)) rfl rfl rfl rfl ?_
              refine rt_nil ?_
              refine tri_ret ?_
              have e0 := (some1 h); subst e0
              exact endY [] [] (rvC (resTmp rfl) rvN) trivial trivial rfl rfl rfl rfl (.free rfl)

/- laws.eqRecordS -/
def inv_w_eqRecordS_0 (p0 : List Rec) (p1 : List Rec) (v0_0 : Nat) : St := mkT 27 [(0, .lst 6 (List.map recV p0)), (1, .lst 6 (List.map recV p1)), (5, .sc (.int .i64 (v0_0 : Int)))] []
set_option maxRecDepth 4000 in
set_option maxHeartbeats 800000 in
theorem ww_eqRecordS (p0 : List Rec) (p1 : List Rec) (r0 : Bool) (h : w_eqRecordS p0 p1 = some r0) : Runs Tryd.prog 31 [.lst 6 (List.map recV p0), .lst 6 (List.map recV p1)] [] (.sc (.bool r0)) [] := by
  unfold w_eqRecordS at h
  refine runsR [.tmp 4] Tryd.func31 rfl rfl rfl rfl ?_
  rw [Tryd.ntmps31]
  refine tri_seq ?_
  refine tri_region ?_
  refine s_mv (.inr rfl) (v := .sc (.bool false)) rfl rfl rfl rfl ?_
  refine rt_nil ?_
  refine tri_seq ?_
  refine tri_seq ?_
  refine tri_region ?_
  refine s_mv (.inl rfl) (by conv => lhs; whnf) rfl rfl rfl ?_
  refine s_lenL rfl sl43 rfl rfl rfl rfl ?_
  refine s_mv (.inl rfl) (by conv => lhs; whnf) rfl rfl rfl ?_
  refine s_lenL rfl sl43 rfl rfl rfl rfl ?_
  refine s_of (st_neI rfl rfl rfl) rfl rfl rfl rfl ?_
  refine rt_nil ?_
  refine tri_cond rfl (fun c1 => ?_) (fun c1 => ?_)
  · replace h := cond_t h c1
    refine tri_seq ?_
    refine tri_region ?_
    refine s_mv (.inr rfl) (v := .sc (.bool false)) rfl rfl rfl rfl ?_
    refine rt_nil ?_
    refine tri_ret ?_
    have e0 := (some1 h); subst e0
    exact endY [] [] (rvC (resTmp rfl) rvN) trivial trivial rfl rfl rfl rfl (.free rfl)
  · replace h := cond_f h c1
    refine tri_skip ?_
    refine tri_seq ?_
    refine tri_seq ?_
    refine tri_region ?_
    refine s_mv (.inr rfl) (v := .sc (.int .i64 0)) rfl rfl rfl rfl ?_
    refine rt_nil ?_
    refine tri_block ?_
    refine tri_lstM 0 rfl (fun hl0 => ?_)
    refine tri_loop (ι := { p : (List Rec) × Nat // p0.drop p.2 = p.1 ∧ w_eqRecordS_l0 p1 p.1 p.2 = some r0 }) (fun p => inv_w_eqRecordS_0 p0 p1 p.1.2) (fun p => p.1.1.length) ⟨(p0, 0), rfl, h⟩ ?_ ?_
    · skip
      refine entX [] [] trivial trivial rfl rfl ?_
      exact ⟨(.free rfl), (.free rfl), (.free rfl), trivial⟩
    · rintro ⟨⟨lrs0, v0_0⟩, hd0, h⟩
      replace hd0 : p0.drop v0_0 = lrs0 := hd0
      replace h : w_eqRecordS_l0 p1 lrs0 v0_0 = some r0 := h
      show Tri _ _ _ (inv_w_eqRecordS_0 p0 p1 v0_0)
      refine tri_seq ?_
      refine tri_seq ?_
      refine tri_region ?_
      refine s_mv (.inl rfl) (by conv => lhs; whnf) rfl rfl rfl ?_
      refine s_mv (.inl rfl) (by conv => lhs; whnf) rfl rfl rfl ?_
      refine s_lenL rfl sl43 rfl rfl rfl rfl ?_
      refine s_of (st_lss rfl rfl rfl) rfl rfl rfl rfl ?_
      refine rt_nil ?_
      refine tri_cond rfl (fun c2 => ?_) (fun c2 => ?_)
      · refine drop_elim hd0 c2 fun e0 rs0 he hx0 hn0 => ?_
        subst he
        rw [w_eqRecordS_l0] at h
        refine tri_skip ?_
        refine tri_seq ?_
        refine tri_block ?_
        refine tri_seq ?_
        refine tri_draw mixed ?_
        refine s_mv (.inl rfl) (by conv => lhs; whnf) rfl rfl rfl ?_
        refine s_mv (.inl rfl) (by conv => lhs; whnf) rfl rfl rfl ?_
        refine s_indexF (i := v0_0) rfl rfl rfl sl43 (get_ltM hx0) rfl rfl rfl ?_
        refine s_loadFR rfl rfl (rowG hx0) ty105 rfl rfl rfl ?_
        refine s_mv (.inl rfl) (by conv => lhs; whnf) rfl rfl rfl ?_
        refine s_mv (.inl rfl) (by conv => lhs; whnf) rfl rfl rfl ?_
        refine bnd1_elim h fun x3 q4 h => ?_
        have q4a := (idx_some q4).1; have q4b := (idx_some q4).2
        refine s_indexFZ rfl rfl rfl sl43 q4a (get_ltM q4b) rfl rfl rfl ?_
        refine s_loadFR rfl rfl (rowG q4b) ty105 rfl rfl rfl ?_
        refine bnd1_elim h fun x5 q6 h => ?_
        refine s_callN (kb := []) (ns := []) (v := .sc (.bool x5)) rfl rfl cl85 (ww_eqRecord e0 x3 x5 q6) rfl (.cons (relAgg rfl) (.cons (relAgg rfl) .nil)) trivial memNil .nil memNil rfl trivial memNil rfl rfl rfl rfl rfl rfl ?_
        refine s_of (st_not rfl rfl) rfl rfl rfl rfl ?_
        refine rt_nil ⟨by kernel_rfl, ?_⟩
        refine tri_cond rfl (fun c7 => ?_) (fun c7 => ?_)
        · replace h := cond_t h c7
          refine tri_seq ?_
          refine tri_region ?_
          refine s_mv (.inr rfl) (v := .sc (.bool false)) rfl rfl rfl rfl ?_
          refine rt_nil ?_
          refine tri_ret ?_
          have e0 := (some1 h); subst e0
          exact endY [] [] (rvC (resTmp rfl) rvN) trivial trivial rfl rfl rfl rfl (.free rfl)
        · replace h := cond_f h c7
          refine tri_skip ?_
          refine tri_region ?_
          refine s_mv (.inl rfl) (by conv => lhs; whnf) rfl rfl rfl ?_
          refine s_inc (a := v0_0) (b := 1) rfl rfl rfl rfl (by have := get_lt hx0; have := hl0; omega) rfl rfl rfl ?_
          refine s_mv (.inr rfl) (by conv => lhs; whnf) rfl rfl rfl ?_
          refine rt_nil ?_
          refine Exists.intro ⟨(rs0, (v0_0 + 1)), hn0, h⟩ (And.intro (Nat.lt_succ_self _) ?_)
          refine entX [] [] trivial trivial rfl rfl ?_
          exact ⟨(.free rfl), (.free rfl), (.free rfl), trivial⟩
      · have he := drop_f hd0 c2; subst he
        rw [w_eqRecordS_l0] at h
        refine tri_exit ?_
        refine tri_seq ?_
        refine tri_region ?_
        refine s_mv (.inr rfl) (v := .sc (.bool true)) rfl rfl rfl rfl ?_
        refine rt_nil ?_
        refine tri_ret ?_
        have e0 := (some1 h); subst e0
        exact endY [] [] (rvC (resTmp rfl) rvN) trivial trivial rfl rfl rfl rfl (.free rfl)

/- laws.eqFact -/

set_option maxRecDepth 4000 in
set_option maxHeartbeats 800000 in
theorem ww_eqFact (p0 : MFact) (p1 : MFact) (r0 : Bool) (h : w_eqFact p0 p1 = some r0) : Runs Tryd.prog 60 [.agg (mFactV p0), .agg (mFactV p1)] [] (.sc (.bool r0)) [] := by
  unfold w_eqFact at h
  refine runsR [.tmp 4] Tryd.func60 rfl rfl rfl rfl ?_
  rw [Tryd.ntmps60]
  refine tri_seq ?_
  refine tri_region ?_
  refine s_box rfl rfl rfl rfl rfl rfl rfl ?_
  refine s_box rfl rfl rfl rfl rfl rfl rfl ?_
  refine s_mv (.inr rfl) (v := .sc (.bool false)) rfl rfl rfl rfl ?_
  refine rt_nil ?_
  refine tri_seq ?_
  refine tri_seq ?_
  refine tri_region ?_
  refine s_fieldAddr rfl rfl fd79_0 rfl rfl rfl rfl ?_
  refine s_load rfl rfl rfl rfl ty3 rfl (.inr rfl) (by conv => lhs; whnf) rfl rfl rfl ?_
  refine s_fieldAddr rfl rfl fd79_0 rfl rfl rfl rfl ?_
  refine s_load rfl rfl rfl rfl ty3 rfl (.inr rfl) (by conv => lhs; whnf) rfl rfl rfl ?_
  refine s_of (st_neI rfl rfl rfl) rfl rfl rfl rfl ?_
  refine rt_nil ?_
  refine tri_cond rfl (fun c1 => ?_) (fun c1 => ?_)
  · replace h := cond_t h c1
    refine tri_seq ?_
    refine tri_region ?_
    refine s_mv (.inr rfl) (v := .sc (.bool false)) rfl rfl rfl rfl ?_
    refine rt_nil ?_
    refine tri_ret ?_
    have e0 := (some1 h); subst e0
    exact endY [] [] (rvC (resTmp rfl) rvN) trivial trivial rfl rfl rfl rfl (.free rfl)
  · replace h := cond_f h c1
    refine tri_skip ?_
    refine tri_seq ?_
    refine tri_seq ?_
    refine tri_region ?_
    refine s_fieldAddr rfl rfl fd79_1 rfl rfl rfl rfl ?_
    refine s_load rfl rfl rfl rfl ty43 rfl (.inr rfl) (by conv => lhs; whnf) rfl rfl rfl ?_
    refine s_fieldAddr rfl rfl fd79_1 rfl rfl rfl rfl ?_
    refine s_load rfl rfl rfl rfl ty43 rfl (.inr rfl) (by conv => lhs; whnf) rfl rfl rfl ?_
    refine bnd1_elim h fun x2 q3 h => ?_
    refine s_callN (kb := []) (ns := []) (v := .sc (.bool x2)) rfl rfl cl31 (ww_eqRecordS p0.links p1.links x2 q3) rfl (.cons (.free rfl) (.cons (.free rfl) .nil)) trivial memNil .nil memNil rfl trivial memNil rfl rfl rfl rfl rfl rfl ?_
    refine s_of (st_not rfl rfl) rfl rfl rfl rfl ?_
    refine rt_nil ?_
    refine tri_cond rfl (fun c4 => ?_) (fun c4 => ?_)
    · replace h := cond_t h c4
      refine tri_seq ?_
      refine tri_region ?_
      refine s_mv (.inr rfl) (v := .sc (.bool false)) rfl rfl rfl rfl ?_
      refine rt_nil ?_
      refine tri_ret ?_
      have e0 := (some1 h); subst e0
      exact endY [] [] (rvC (resTmp rfl) rvN) trivial trivial rfl rfl rfl rfl (.free rfl)
    · replace h := cond_f h c4
      refine tri_skip ?_
      refine tri_seq ?_
      refine tri_seq ?_
      refine tri_region ?_
      refine s_fieldAddr rfl rfl fd79_2 rfl rfl rfl rfl ?_
      refine s_load rfl rfl rfl rfl ty43 rfl (.inr rfl) (by conv => lhs; whnf) rfl rfl rfl ?_
      refine s_fieldAddr rfl rfl fd79_2 rfl rfl rfl rfl ?_
      refine s_load rfl rfl rfl rfl ty43 rfl (.inr rfl) (by conv => lhs; whnf) rfl rfl rfl ?_
      refine bnd1_elim h fun x5 q6 h => ?_
      refine s_callN (kb := []) (ns := []) (v := .sc (.bool x5)) rfl rfl cl31 (ww_eqRecordS p0.l p1.l x5 q6) rfl (.cons (.free rfl) (.cons (.free rfl) .nil)) trivial memNil .nil memNil rfl trivial memNil rfl rfl rfl rfl rfl rfl ?_
      refine s_of (st_not rfl rfl) rfl rfl rfl rfl ?_
      refine rt_nil ?_
      refine tri_cond rfl (fun c7 => ?_) (fun c7 => ?_)
      · replace h := cond_t h c7
        refine tri_seq ?_
        refine tri_region ?_
        refine s_mv (.inr rfl) (v := .sc (.bool false)) rfl rfl rfl rfl ?_
        refine rt_nil ?_
        refine tri_ret ?_
        have e0 := (some1 h); subst e0
        exact endY [] [] (rvC (resTmp rfl) rvN) trivial trivial rfl rfl rfl rfl (.free rfl)
      · replace h := cond_f h c7
        refine tri_skip ?_
        refine tri_seq ?_
        refine tri_seq ?_
        refine tri_region ?_
        refine s_fieldAddr rfl rfl fd79_3 rfl rfl rfl rfl ?_
        refine s_load rfl rfl rfl rfl ty4 rfl (.inr rfl) (by conv => lhs; whnf) rfl rfl rfl ?_
        refine s_fieldAddr rfl rfl fd79_3 rfl rfl rfl rfl ?_
        refine s_load rfl rfl rfl rfl ty4 rfl (.inr rfl) (by conv => lhs; whnf) rfl rfl rfl ?_
        refine s_of (st_neB isb4 rfl rfl rfl) rfl rfl rfl rfl ?_
        refine rt_nil ?_
        refine tri_cond rfl (fun c8 => ?_) (fun c8 => ?_)
        · replace h := cond_t h c8
          refine tri_seq ?_
          refine tri_region ?_
          refine s_mv (.inr rfl) (v := .sc (.bool false)) rfl rfl rfl rfl ?_
          refine rt_nil ?_
          refine tri_ret ?_
          have e0 := (some1 h); subst e0
          exact endY [] [] (rvC (resTmp rfl) rvN) trivial trivial rfl rfl rfl rfl (.free rfl)
        · replace h := cond_f h c8
          refine tri_skip ?_
          refine tri_seq ?_
          refine tri_region ?_
          refine s_mv (.inr rfl) (v := .sc (.bool true)) rfl rfl rfl rfl ?_
          refine rt_nil ?_
          refine tri_ret ?_
          have e0 := (some1 h); subst e0
          exact endY [] [] (rvC (resTmp rfl) rvN) trivial trivial rfl rfl rfl rfl (.free rfl)

/- laws.eqZone -/

set_option maxRecDepth 4000 in
set_option maxHeartbeats 800000 in
theorem ww_eqZone (p0 : MZone) (p1 : MZone) (r0 : Bool) (h : w_eqZone p0 p1 = some r0) : Runs Tryd.prog 26 [.agg (mZoneV p0), .agg (mZoneV p1)] [] (.sc (.bool r0)) [] := by
  unfold w_eqZone at h
  refine runsR [.tmp 4] Tryd.func26 rfl rfl rfl rfl ?_
  rw [Tryd.ntmps26]
  refine tri_seq ?_
  refine tri_region ?_
  refine s_box rfl rfl rfl rfl rfl rfl rfl ?_
  refine s_box rfl rfl rfl rfl rfl rfl rfl ?_
  refine s_mv (.inr rfl) (v := .sc (.bool false)) rfl rfl rfl rfl ?_
  refine rt_nil ?_
  refine tri_seq ?_
  refine tri_seq ?_
  refine tri_region ?_
  refine s_fieldAddr rfl rfl fd45_0 rfl rfl rfl rfl ?_
  refine s_load rfl rfl rfl rfl ty9 rfl (.inr rfl) (by conv => lhs; whnf) rfl rfl rfl ?_
  refine s_fieldAddr rfl rfl fd45_0 rfl rfl rfl rfl ?_
  refine s_load rfl rfl rfl rfl ty9 rfl (.inr rfl) (by conv => lhs; whnf) rfl rfl rfl ?_
  refine s_of (st_neS rfl rfl rfl) rfl rfl rfl rfl ?_
  refine rt_nil ?_
  refine tri_cond rfl (fun c1 => ?_) (fun c1 => ?_)
  · replace h := cond_t h c1
    refine tri_seq ?_
    refine tri_region ?_
    refine s_mv (.inr rfl) (v := .sc (.bool false)) rfl rfl rfl rfl ?_
    refine rt_nil ?_
    refine tri_ret ?_
    have e0 := (some1 h); subst e0
    exact endY [] [] (rvC (resTmp rfl) rvN) trivial trivial rfl rfl rfl rfl (.free rfl)
  · replace h := cond_f h c1
    refine tri_skip ?_
    refine tri_seq ?_
    refine tri_seq ?_
    refine tri_region ?_
    refine s_fieldAddr rfl rfl fd45_1 rfl rfl rfl rfl ?_
    refine s_load rfl rfl rfl rfl ty43 rfl (.inr rfl) (by conv => lhs; whnf) rfl rfl rfl ?_
    refine s_fieldAddr rfl rfl fd45_1 rfl rfl rfl rfl ?_
    refine s_load rfl rfl rfl rfl ty43 rfl (.inr rfl) (by conv => lhs; whnf) rfl rfl rfl ?_
    refine bnd1_elim h fun x2 q3 h => ?_
    refine s_callN (kb := []) (ns := []) (v := .sc (.bool x2)) rfl rfl cl31 (ww_eqRecordS p0.l p1.l x2 q3) rfl (.cons (.free rfl) (.cons (.free rfl) .nil)) trivial memNil .nil memNil rfl trivial memNil rfl rfl rfl rfl rfl rfl ?_
    refine s_of (st_not rfl rfl) rfl rfl rfl rfl ?_
    refine rt_nil ?_
    refine tri_cond rfl (fun c4 => ?_) (fun c4 => ?_)
    · replace h := cond_t h c4
      refine tri_seq ?_
      refine tri_region ?_
      refine s_mv (.inr rfl) (v := .sc (.bool false)) rfl rfl rfl rfl ?_
      refine rt_nil ?_
      refine tri_ret ?_
      have e0 := (some1 h); subst e0
      exact endY [] [] (rvC (resTmp rfl) rvN) trivial trivial rfl rfl rfl rfl (.free rfl)
    · replace h := cond_f h c4
      refine tri_skip ?_
      refine tri_seq ?_
      refine tri_region ?_
      refine s_mv (.inr rfl) (v := .sc (.bool true)) rfl rfl rfl rfl ?_
      refine rt_nil ?_
      refine tri_ret ?_
      have e0 := (some1 h); subst e0
      exact endY [] [] (rvC (resTmp rfl) rvN) trivial trivial rfl rfl rfl rfl (.free rfl)

/- laws.eqZoneS -/
def inv_w_eqZoneS_0 (p0 : List MZone) (p1 : List MZone) (v0_0 : Nat) : St := mkT 27 [(0, .lst 2 (List.map mZoneV p0)), (1, .lst 2 (List.map mZoneV p1)), (5, .sc (.int .i64 (v0_0 : Int)))] []
set_option maxRecDepth 4000 in
set_option maxHeartbeats 800000 in
theorem ww_eqZoneS (p0 : List MZone) (p1 : List MZone) (r0 : Bool) (h : w_eqZoneS p0 p1 = some r0) : Runs Tryd.prog 71 [.lst 2 (List.map mZoneV p0), .lst 2 (List.map mZoneV p1)] [] (.sc (.bool r0)) [] := by
  unfold w_eqZoneS at h
  refine runsR [.tmp 4] Tryd.func71 rfl rfl rfl rfl ?_
  rw [Tryd.ntmps71]
  refine tri_seq ?_
  refine tri_region ?_
  refine s_mv (.inr rfl) (v := .sc (.bool false)) rfl rfl rfl rfl ?_
  refine rt_nil ?_
  refine tri_seq ?_
  refine tri_seq ?_
  refine tri_region ?_
  refine s_mv (.inl rfl) (by conv => lhs; whnf) rfl rfl rfl ?_
  refine s_lenL rfl sl28 rfl rfl rfl rfl ?_
  refine s_mv (.inl rfl) (by conv => lhs; whnf) rfl rfl rfl ?_
  refine s_lenL rfl sl28 rfl rfl rfl rfl ?_
  refine s_of (st_neI rfl rfl rfl) rfl rfl rfl rfl ?_
  refine rt_nil ?_
  refine tri_cond rfl (fun c1 => ?_) (fun c1 => ?_)
  · replace h := cond_t h c1
    refine tri_seq ?_
    refine tri_region ?_
    refine s_mv (.inr rfl) (v := .sc (.bool false)) rfl rfl rfl rfl ?_
    refine rt_nil ?_
    refine tri_ret ?_
    have e0 := (some1 h); subst e0
    exact endY [] [] (rvC (resTmp rfl) rvN) trivial trivial rfl rfl rfl rfl (.free rfl)
  · replace h := cond_f h c1
    refine tri_skip ?_
    refine tri_seq ?_
    refine tri_seq ?_
    refine tri_region ?_
    refine s_mv (.inr rfl) (v := .sc (.int .i64 0)) rfl rfl rfl rfl ?_
    refine rt_nil ?_
    refine tri_block ?_
    refine tri_lstM 0 rfl (fun hl0 => ?_)
    refine tri_loop (ι := { p : (List MZone) × Nat // p0.drop p.2 = p.1 ∧ w_eqZoneS_l0 p1 p.1 p.2 = some r0 }) (fun p => inv_w_eqZoneS_0 p0 p1 p.1.2) (fun p => p.1.1.length) ⟨(p0, 0), rfl, h⟩ ?_ ?_
    · skip
      refine entX [] [] trivial trivial rfl rfl ?_
      exact ⟨(.free rfl), (.free rfl), (.free rfl), trivial⟩
    · rintro ⟨⟨lrs0, v0_0⟩, hd0, h⟩
      replace hd0 : p0.drop v0_0 = lrs0 := hd0
      replace h : w_eqZoneS_l0 p1 lrs0 v0_0 = some r0 := h
      show Tri _ _ _ (inv_w_eqZoneS_0 p0 p1 v0_0)
      refine tri_seq ?_
      refine tri_seq ?_
      refine tri_region ?_
      refine s_mv (.inl rfl) (by conv => lhs; whnf) rfl rfl rfl ?_
      refine s_mv (.inl rfl) (by conv => lhs; whnf) rfl rfl rfl ?_
      refine s_lenL rfl sl28 rfl rfl rfl rfl ?_
      refine s_of (st_lss rfl rfl rfl) rfl rfl rfl rfl ?_
      refine rt_nil ?_
      refine tri_cond rfl (fun c2 => ?_) (fun c2 => ?_)
      · refine drop_elim hd0 c2 fun e0 rs0 he hx0 hn0 => ?_
        subst he
        rw [w_eqZoneS_l0] at h
        refine tri_skip ?_
        refine tri_seq ?_
        refine tri_block ?_
        refine tri_seq ?_
        refine tri_draw mixed ?_
        refine s_mv (.inl rfl) (by conv => lhs; whnf) rfl rfl rfl ?_
        refine s_mv (.inl rfl) (by conv => lhs; whnf) rfl rfl rfl ?_
        refine s_indexF (i := v0_0) rfl rfl rfl sl28 (get_ltM hx0) rfl rfl rfl ?_
        refine s_loadFR rfl rfl (rowG hx0) ty45 rfl rfl rfl ?_
        refine s_mv (.inl rfl) (by conv => lhs; whnf) rfl rfl rfl ?_
        refine s_mv (.inl rfl) (by conv => lhs; whnf) rfl rfl rfl ?_
        refine bnd1_elim h fun x3 q4 h => ?_
        have q4a := (idx_some q4).1; have q4b := (idx_some q4).2
        refine s_indexFZ rfl rfl rfl sl28 q4a (get_ltM q4b) rfl rfl rfl ?_
        refine s_loadFR rfl rfl (rowG q4b) ty45 rfl rfl rfl ?_
        refine bnd1_elim h fun x5 q6 h => ?_
        refine s_callN (kb := []) (ns := []) (v := .sc (.bool x5)) rfl rfl cl26 (ww_eqZone e0 x3 x5 q6) rfl (.cons (relAgg rfl) (.cons (relAgg rfl) .nil)) trivial memNil .nil memNil rfl trivial memNil rfl rfl rfl rfl rfl rfl ?_
        refine s_of (st_not rfl rfl) rfl rfl rfl rfl ?_
        refine rt_nil ⟨by kernel_rfl, ?_⟩
        refine tri_cond rfl (fun c7 => ?_) (fun c7 => ?_)
        · replace h := cond_t h c7
          refine tri_seq ?_
          refine tri_region ?_
          refine s_mv (.inr rfl) (v := .sc (.bool false)) rfl rfl rfl rfl ?_
          refine rt_nil ?_
          refine tri_ret ?_
          have e0 := (some1 h); subst e0
          exact endY [] [] (rvC (resTmp rfl) rvN) trivial trivial rfl rfl rfl rfl (.free rfl)
        · replace h := cond_f h c7
          refine tri_skip ?_
          refine tri_region ?_
          refine s_mv (.inl rfl) (by conv => lhs; whnf) rfl rfl rfl ?_
          refine s_inc (a := v0_0) (b := 1) rfl rfl rfl rfl (by have := get_lt hx0; have := hl0; omega) rfl rfl rfl ?_
          refine s_mv (.inr rfl) (by conv => lhs; whnf) rfl rfl rfl ?_
          refine rt_nil ?_
          refine Exists.intro ⟨(rs0, (v0_0 + 1)), hn0, h⟩ (And.intro (Nat.lt_succ_self _) ?_)
          refine entX [] [] trivial trivial rfl rfl ?_
          exact ⟨(.free rfl), (.free rfl), (.free rfl), trivial⟩
      · have he := drop_f hd0 c2; subst he
        rw [w_eqZoneS_l0] at h
        refine tri_exit ?_
        refine tri_seq ?_
        refine tri_region ?_
        refine s_mv (.inr rfl) (v := .sc (.bool true)) rfl rfl rfl rfl ?_
        refine rt_nil ?_
        refine tri_ret ?_
        have e0 := (some1 h); subst e0
        exact endY [] [] (rvC (resTmp rfl) rvN) trivial trivial rfl rfl rfl rfl (.free rfl)

/- laws.eqPost -/

set_option maxRecDepth 4000 in
set_option maxHeartbeats 800000 in
theorem ww_eqPost (p0 : MPost) (p1 : MPost) (r0 : Bool) (h : w_eqPost p0 p1 = some r0) : Runs Tryd.prog 112 [.agg (mPostV p0), .agg (mPostV p1)] [] (.sc (.bool r0)) [] := by
  unfold w_eqPost at h
  refine runsR [.tmp 4] Tryd.func112 rfl rfl rfl rfl ?_
  rw [Tryd.ntmps112]
  refine tri_seq ?_
  refine tri_region ?_
  refine s_box rfl rfl rfl rfl rfl rfl rfl ?_
  refine s_box rfl rfl rfl rfl rfl rfl rfl ?_
  refine s_mv (.inr rfl) (v := .sc (.bool false)) rfl rfl rfl rfl ?_
  refine rt_nil ?_
  refine tri_seq ?_
  refine tri_seq ?_
  refine tri_region ?_
  refine s_fieldAddr rfl rfl fd102_0 rfl rfl rfl rfl ?_
  refine s_load rfl rfl rfl rfl ty3 rfl (.inr rfl) (by conv => lhs; whnf) rfl rfl rfl ?_
  refine s_fieldAddr rfl rfl fd102_0 rfl rfl rfl rfl ?_
  refine s_load rfl rfl rfl rfl ty3 rfl (.inr rfl) (by conv => lhs; whnf) rfl rfl rfl ?_
  refine s_of (st_neI rfl rfl rfl) rfl rfl rfl rfl ?_
  refine rt_nil ?_
  refine tri_cond rfl (fun c1 => ?_) (fun c1 => ?_)
  · replace h := cond_t h c1
    refine tri_seq ?_
    refine tri_region ?_
    refine s_mv (.inr rfl) (v := .sc (.bool false)) rfl rfl rfl rfl ?_
    refine rt_nil ?_
    refine tri_ret ?_
    have e0 := (some1 h); subst e0
    exact endY [] [] (rvC (resTmp rfl) rvN) trivial trivial rfl rfl rfl rfl (.free rfl)
  · replace h := cond_f h c1
    refine tri_skip ?_
    refine tri_seq ?_
    refine tri_seq ?_
    refine tri_region ?_
    refine s_fieldAddr rfl rfl fd102_1 rfl rfl rfl rfl ?_
    refine s_load rfl rfl rfl rfl ty9 rfl (.inr rfl) (by conv => lhs; whnf) rfl rfl rfl ?_
    refine s_fieldAddr rfl rfl fd102_1 rfl rfl rfl rfl ?_
    refine s_load rfl rfl rfl rfl ty9 rfl (.inr rfl) (by conv => lhs; whnf) rfl rfl rfl ?_
    refine s_of (st_neS rfl rfl rfl) rfl rfl rfl rfl ?_
    refine rt_nil ?_
    refine tri_cond rfl (fun c2 => ?_) (fun c2 => ?_)
    · replace h := cond_t h c2
      refine tri_seq ?_
      refine tri_region ?_
      refine s_mv (.inr rfl) (v := .sc (.bool false)) rfl rfl rfl rfl ?_
      refine rt_nil ?_
      refine tri_ret ?_
      have e0 := (some1 h); subst e0
      exact endY [] [] (rvC (resTmp rfl) rvN) trivial trivial rfl rfl rfl rfl (.free rfl)
    · replace h := cond_f h c2
      refine tri_skip ?_
      refine tri_seq ?_
      refine tri_region ?_
      refine s_mv (.inr rfl) (v := .sc (.bool true)) rfl rfl rfl rfl ?_
      refine rt_nil ?_
      refine tri_ret ?_
      have e0 := (some1 h); subst e0
      exact endY [] [] (rvC (resTmp rfl) rvN) trivial trivial rfl rfl rfl rfl (.free rfl)

/- laws.eqPostS -/
def inv_w_eqPostS_0 (p0 : List MPost) (p1 : List MPost) (v0_0 : Nat) : St := mkT 27 [(0, .lst 2 (List.map mPostV p0)), (1, .lst 2 (List.map mPostV p1)), (5, .sc (.int .i64 (v0_0 : Int)))] []
set_option maxRecDepth 4000 in
set_option maxHeartbeats 800000 in
theorem ww_eqPostS (p0 : List MPost) (p1 : List MPost) (r0 : Bool) (h : w_eqPostS p0 p1 = some r0) : Runs Tryd.prog 72 [.lst 2 (List.map mPostV p0), .lst 2 (List.map mPostV p1)] [] (.sc (.bool r0)) [] := by
  unfold w_eqPostS at h
  refine runsR [.tmp 4] Tryd.func72 rfl rfl rfl rfl ?_
  rw [Tryd.ntmps72]
  refine tri_seq ?_
  refine tri_region ?_
  refine s_mv (.inr rfl) (v := .sc (.bool false)) rfl rfl rfl rfl ?_
  refine rt_nil ?_
  refine tri_seq ?_
  refine tri_seq ?_
  refine tri_region ?_
  refine s_mv (.inl rfl) (by conv => lhs; whnf) rfl rfl rfl ?_
  refine s_lenL rfl sl29 rfl rfl rfl rfl ?_
  refine s_mv (.inl rfl) (by conv => lhs; whnf) rfl rfl rfl ?_
  refine s_lenL rfl sl29 rfl rfl rfl rfl ?_
  refine s_of (st_neI rfl rfl rfl) rfl rfl rfl rfl ?_
  refine rt_nil ?_
  refine tri_cond rfl (fun c1 => ?_) (fun c1 => ?_)
  · replace h := cond_t h c1
    refine tri_seq ?_
    refine tri_region ?_
    refine s_mv (.inr rfl) (v := .sc (.bool false)) rfl rfl rfl rfl ?_
    refine rt_nil ?_
    refine tri_ret ?_
    have e0 := (some1 h); subst e0
    exact endY [] [] (rvC (resTmp rfl) rvN) trivial trivial rfl rfl rfl rfl (.free rfl)
  · replace h := cond_f h c1
    refine tri_skip ?_
    refine tri_seq ?_
    refine tri_seq ?_
    refine tri_region ?_
    refine s_mv (.inr rfl) (v := .sc (.int .i64 0)) rfl rfl rfl rfl ?_
    refine rt_nil ?_
    refine tri_block ?_
    refine tri_lstM 0 rfl (fun hl0 => ?_)
    refine tri_loop (ι := { p : (List MPost) × Nat // p0.drop p.2 = p.1 ∧ w_eqPostS_l0 p1 p.1 p.2 = some r0 }) (fun p => inv_w_eqPostS_0 p0 p1 p.1.2) (fun p => p.1.1.length) ⟨(p0, 0), rfl, h⟩ ?_ ?_
    · skip
      refine entX [] [] trivial trivial rfl rfl ?_
      exact ⟨(.free rfl), (.free rfl), (.free rfl), trivial⟩
    · rintro ⟨⟨lrs0, v0_0⟩, hd0, h⟩
      replace hd0 : p0.drop v0_0 = lrs0 := hd0
      replace h : w_eqPostS_l0 p1 lrs0 v0_0 = some r0 := h
      show Tri _ _ _ (inv_w_eqPostS_0 p0 p1 v0_0)
      refine tri_seq ?_
      refine tri_seq ?_
      refine tri_region ?_
      refine s_mv (.inl rfl) (by conv => lhs; whnf) rfl rfl rfl ?_
      refine s_mv (.inl rfl) (by conv => lhs; whnf) rfl rfl rfl ?_
      refine s_lenL rfl sl29 rfl rfl rfl rfl ?_
      refine s_of (st_lss rfl rfl rfl) rfl rfl rfl rfl ?_
      refine rt_nil ?_
      refine tri_cond rfl (fun c2 => ?_) (fun c2 => ?_)
      · refine drop_elim hd0 c2 fun e0 rs0 he hx0 hn0 => ?_
        subst he
        rw [w_eqPostS_l0] at h
        refine tri_skip ?_
        refine tri_seq ?_
        refine tri_block ?_
        refine tri_seq ?_
        refine tri_draw mixed ?_
        refine s_mv (.inl rfl) (by conv => lhs; whnf) rfl rfl rfl ?_
        refine s_mv (.inl rfl) (by conv => lhs; whnf) rfl rfl rfl ?_
        refine s_indexF (i := v0_0) rfl rfl rfl sl29 (get_ltM hx0) rfl rfl rfl ?_
        refine s_loadFR rfl rfl (rowG hx0) ty102 rfl rfl rfl ?_
        refine s_mv (.inl rfl) (by conv => lhs; whnf) rfl rfl rfl ?_
        refine s_mv (.inl rfl) (by conv => lhs; whnf) rfl rfl rfl ?_
        refine bnd1_elim h fun x3 q4 h => ?_
        have q4a := (idx_some q4).1; have q4b := (idx_some q4).2
        refine s_indexFZ rfl rfl rfl sl29 q4a (get_ltM q4b) rfl rfl rfl ?_
        refine s_loadFR rfl rfl (rowG q4b) ty102 rfl rfl rfl ?_
        refine bnd1_elim h fun x5 q6 h => ?_
        refine s_callN (kb := []) (ns := []) (v := .sc (.bool x5)) rfl rfl cl112 (ww_eqPost e0 x3 x5 q6) rfl (.cons (relAgg rfl) (.cons (relAgg rfl) .nil)) trivial memNil .nil memNil rfl trivial memNil rfl rfl rfl rfl rfl rfl ?_
        refine s_of (st_not rfl rfl) rfl rfl rfl rfl ?_
        refine rt_nil ⟨by kernel_rfl, ?_⟩
        refine tri_cond rfl (fun c7 => ?_) (fun c7 => ?_)
        · replace h := cond_t h c7
          refine tri_seq ?_
          refine tri_region ?_
          refine s_mv (.inr rfl) (v := .sc (.bool false)) rfl rfl rfl rfl ?_
          refine rt_nil ?_
          refine tri_ret ?_
          have e0 := (some1 h); subst e0
          exact endY [] [] (rvC (resTmp rfl) rvN) trivial trivial rfl rfl rfl rfl (.free rfl)
        · replace h := cond_f h c7
          refine tri_skip ?_
          refine tri_region ?_
          refine s_mv (.inl rfl) (by conv => lhs; whnf) rfl rfl rfl ?_
          refine s_inc (a := v0_0) (b := 1) rfl rfl rfl rfl (by have := get_lt hx0; have := hl0; omega) rfl rfl rfl ?_
          refine s_mv (.inr rfl) (by conv => lhs; whnf) rfl rfl rfl ?_
          refine rt_nil ?_
          refine Exists.intro ⟨(rs0, (v0_0 + 1)), hn0, h⟩ (And.intro (Nat.lt_succ_self _) ?_)
          refine entX [] [] trivial trivial rfl rfl ?_
          exact ⟨(.free rfl), (.free rfl), (.free rfl), trivial⟩
      · have he := drop_f hd0 c2; subst he
        rw [w_eqPostS_l0] at h
        refine tri_exit ?_
        refine tri_seq ?_
        refine tri_region ?_
        refine s_mv (.inr rfl) (v := .sc (.bool true)) rfl rfl rfl rfl ?_
        refine rt_nil ?_
        refine tri_ret ?_
        have e0 := (some1 h); subst e0
        exact endY [] [] (rvC (resTmp rfl) rvN) trivial trivial rfl rfl rfl rfl (.free rfl)

/- laws.eqForest -/

set_option maxRecDepth 4000 in
set_option maxHeartbeats 800000 in
theorem ww_eqForest (p0 : MForest) (p1 : MForest) (r0 : Bool) (h : w_eqForest p0 p1 = some r0) : Runs Tryd.prog 19 [.agg (mForestV p0), .agg (mForestV p1)] [] (.sc (.bool r0)) [] := by
  unfold w_eqForest at h
  refine runsR [.tmp 4] Tryd.func19 rfl rfl rfl rfl ?_
  rw [Tryd.ntmps19]
  refine tri_seq ?_
  refine tri_region ?_
  refine s_box rfl rfl rfl rfl rfl rfl rfl ?_
  refine s_box rfl rfl rfl rfl rfl rfl rfl ?_
  refine s_mv (.inr rfl) (v := .sc (.bool false)) rfl rfl rfl rfl ?_
  refine rt_nil ?_
  refine tri_seq ?_
  refine tri_seq ?_
  refine tri_region ?_
  refine s_fieldAddr rfl rfl fd31_0 rfl rfl rfl rfl ?_
  refine s_load rfl rfl rfl rfl ty28 rfl (.inr rfl) (by conv => lhs; whnf) rfl rfl rfl ?_
  refine s_fieldAddr rfl rfl fd31_0 rfl rfl rfl rfl ?_
  refine s_load rfl rfl rfl rfl ty28 rfl (.inr rfl) (by conv => lhs; whnf) rfl rfl rfl ?_
  refine bnd1_elim h fun x1 q2 h => ?_
  refine s_callN (kb := []) (ns := []) (v := .sc (.bool x1)) rfl rfl cl71 (ww_eqZoneS p0.zones p1.zones x1 q2) rfl (.cons (.free rfl) (.cons (.free rfl) .nil)) trivial memNil .nil memNil rfl trivial memNil rfl rfl rfl rfl rfl rfl ?_
  refine s_of (st_not rfl rfl) rfl rfl rfl rfl ?_
  refine rt_nil ?_
  refine tri_cond rfl (fun c3 => ?_) (fun c3 => ?_)
  · replace h := cond_t h c3
    refine tri_seq ?_
    refine tri_region ?_
    refine s_mv (.inr rfl) (v := .sc (.bool false)) rfl rfl rfl rfl ?_
    refine rt_nil ?_
    refine tri_ret ?_
    have e0 := (some1 h); subst e0
    exact endY [] [] (rvC (resTmp rfl) rvN) trivial trivial rfl rfl rfl rfl (.free rfl)
  · replace h := cond_f h c3
    refine tri_skip ?_
    refine tri_seq ?_
    refine tri_seq ?_
    refine tri_region ?_
    refine s_fieldAddr rfl rfl fd31_1 rfl rfl rfl rfl ?_
    refine s_load rfl rfl rfl rfl ty29 rfl (.inr rfl) (by conv => lhs; whnf) rfl rfl rfl ?_
    refine s_fieldAddr rfl rfl fd31_1 rfl rfl rfl rfl ?_
    refine s_load rfl rfl rfl rfl ty29 rfl (.inr rfl) (by conv => lhs; whnf) rfl rfl rfl ?_
    refine bnd1_elim h fun x4 q5 h => ?_
    refine s_callN (kb := []) (ns := []) (v := .sc (.bool x4)) rfl rfl cl72 (ww_eqPostS p0.posts p1.posts x4 q5) rfl (.cons (.free rfl) (.cons (.free rfl) .nil)) trivial memNil .nil memNil rfl trivial memNil rfl rfl rfl rfl rfl rfl ?_
    refine s_of (st_not rfl rfl) rfl rfl rfl rfl ?_
    refine rt_nil ?_
    refine tri_cond rfl (fun c6 => ?_) (fun c6 => ?_)
    · replace h := cond_t h c6
      refine tri_seq ?_
      refine tri_region ?_
      refine s_mv (.inr rfl) (v := .sc (.bool false)) rfl rfl rfl rfl ?_
      refine rt_nil ?_
      refine tri_ret ?_
      have e0 := (some1 h); subst e0
      exact endY [] [] (rvC (resTmp rfl) rvN) trivial trivial rfl rfl rfl rfl (.free rfl)
    · replace h := cond_f h c6
      refine tri_skip ?_
      refine tri_seq ?_
      refine tri_region ?_
      refine s_mv (.inr rfl) (v := .sc (.bool true)) rfl rfl rfl rfl ?_
      refine rt_nil ?_
      refine tri_ret ?_
      have e0 := (some1 h); subst e0
      exact endY [] [] (rvC (resTmp rfl) rvN) trivial trivial rfl rfl rfl rfl (.free rfl)

/- laws.markText -/
def inv_w_markText_0  (v0_0 : Int) (v0_1 : ByteArray) : St := mkT 20 [(0, .sc (.int .i64 v0_0)), (3, .sc (.string v0_1))] []
set_option maxRecDepth 4000 in
set_option maxHeartbeats 800000 in
theorem ww_markText (p0 : Int) (r0 : ByteArray) (h : w_markText p0 = some r0) : Runs Tryd.prog 86 [.sc (.int .i64 p0)] [] (.sc (.string r0)) [] := by
  unfold w_markText at h
  refine runsR [.tmp 2] Tryd.func86 rfl rfl rfl rfl ?_
  rw [Tryd.ntmps86]
  refine tri_seq ?_
  refine tri_region ?_
  refine s_mv (.inr rfl) (v := .sc (.string (⟨#[]⟩ : ByteArray))) rfl rfl rfl rfl ?_
  refine rt_nil ?_
  refine tri_seq ?_
  refine tri_seq ?_
  refine tri_region ?_
  refine s_mv (.inl rfl) (by conv => lhs; whnf) rfl rfl rfl ?_
  refine s_of (st_leq rfl rfl rfl) rfl rfl rfl rfl ?_
  refine rt_nil ?_
  refine tri_cond rfl (fun c1 => ?_) (fun c1 => ?_)
  · replace h := cond_t h c1
    refine tri_seq ?_
    refine tri_region ?_
    refine s_mv (.inr rfl) (v := .sc (.string (⟨#[109, 48]⟩ : ByteArray))) rfl rfl rfl rfl ?_
    refine rt_nil ?_
    refine tri_ret ?_
    have e0 := (some1 h); subst e0
    exact endY [] [] (rvC (resTmp rfl) rvN) trivial trivial rfl rfl rfl rfl (.free rfl)
  · replace h := cond_f h c1
    refine tri_skip ?_
    refine tri_seq ?_
    refine tri_region ?_
    refine s_mv (.inr rfl) (v := .sc (.string (⟨#[]⟩ : ByteArray))) rfl rfl rfl rfl ?_
    refine rt_nil ?_
    refine tri_seq ?_
    refine tri_block ?_
    refine tri_loop (ι := { p : Nat × Int × ByteArray // w_markText_l0 p.1 p.2.1 p.2.2 = some r0 }) (fun p => inv_w_markText_0 p.1.2.1 p.1.2.2) (fun p => p.1.1) ⟨(fuel0, p0, (⟨#[]⟩ : ByteArray)), h⟩ ?_ ?_
    · skip
      refine entX [] [] trivial trivial rfl rfl ?_
      exact ⟨(.free rfl), (.free rfl), trivial⟩
    · rintro ⟨⟨f0, v0_0, v0_1⟩, h⟩
      replace h : w_markText_l0 f0 v0_0 v0_1 = some r0 := h
      cases f0 with
      | zero => cases h
      | succ f0 =>
      rw [w_markText_l0] at h
      show Tri _ _ _ (inv_w_markText_0 v0_0 v0_1)
      refine tri_seq ?_
      refine tri_seq ?_
      refine tri_region ?_
      refine s_mv (.inl rfl) (by conv => lhs; whnf) rfl rfl rfl ?_
      refine s_of (st_gtr rfl rfl rfl) rfl rfl rfl rfl ?_
      refine rt_nil ?_
      refine tri_cond rfl (fun c2 => ?_) (fun c2 => ?_)
      · replace h := cond_t h c2
        refine tri_skip ?_
        refine tri_block ?_
        refine tri_seq ?_
        refine tri_region ?_
        refine s_mv (.inl rfl) (by conv => lhs; whnf) rfl rfl rfl ?_
        refine s_of (st_rem rfl rfl rfl (by decide)) rfl rfl rfl rfl ?_
        refine grd_elim h fun g3 h => ?_
        refine s_addI rfl rfl rfl rfl g3 rfl rfl rfl ?_
        refine s_of (st_conv ik3 ik5 rfl rfl) rfl rfl rfl rfl ?_
        refine s_buildSlice (rows' := List.map byteV [IntKind.u8.wrap (48 + (Int.tmod v0_0 10))]) rfl rfl rfl sl132 zc5 rfl rfl rfl rfl rfl rfl rfl rfl rfl ?_
        refine s_toString rfl (src_refL rfl rfl) byt132 iss9 rfl rfl rfl rfl ?_
        refine s_mv (.inl rfl) (by conv => lhs; whnf) rfl rfl rfl ?_
        refine grd_elim h fun g4 h => ?_
        refine s_of (st_catS g4 rfl rfl rfl) rfl rfl rfl rfl ?_
        refine s_mv (.inr rfl) (by conv => lhs; whnf) rfl rfl rfl ?_
        refine rt_nil ?_
        refine tri_region ?_
        refine s_mv (.inl rfl) (by conv => lhs; whnf) rfl rfl rfl ?_
        refine s_of (st_quo rfl rfl rfl (by decide)) rfl rfl rfl rfl ?_
        refine s_mv (.inr rfl) (by conv => lhs; whnf) rfl rfl rfl ?_
        refine rt_nil ?_
        refine Exists.intro ⟨(f0, IntKind.i64.wrap (Int.tdiv v0_0 10), (strOfNums [IntKind.u8.wrap (48 + (Int.tmod v0_0 10))]) ++ v0_1), h⟩ (And.intro (Nat.lt_succ_self _) ?_)
        refine entX [] [] trivial trivial rfl rfl ?_
        exact ⟨(.free rfl), (.free rfl), trivial⟩
      · replace h := cond_f h c2
        refine tri_exit ?_
        refine tri_seq ?_
        refine tri_region ?_
        refine s_mv (.inl rfl) (by conv => lhs; whnf) rfl rfl rfl ?_
        refine grd_elim h fun g5 h => ?_
        refine s_of (st_catS g5 rfl rfl rfl) rfl rfl rfl rfl ?_
        refine s_mv (.inr rfl) (by conv => lhs; whnf) rfl rfl rfl ?_
        refine rt_nil ?_
        refine tri_ret ?_
        have e0 := (some1 h); subst e0
        exact endY [] [] (rvC (resTmp rfl) rvN) trivial trivial rfl rfl rfl rfl (.free rfl)

/- laws.markRecordS -/
def inv_w_markRecordS_0  (v0_0 : List Rec) (v0_1 : Int) (v0_2 : Int) : St := mkT 58 [(0, .ref (1000, 0) 0 v0_0.length), (1, .sc (.int .i64 v0_1)), (5, .sc (.int .i64 v0_2))] [((1000, 0), some ⟨105, 6, List.map recV v0_0, false, false⟩)]
set_option maxRecDepth 4000 in
set_option maxHeartbeats 800000 in
theorem ww_markRecordS (p0 : List Rec) (p1 : Int) (r0 : Int) (r1 : List Rec) (h : w_markRecordS p0 p1 = some (r0, r1)) : Runs Tryd.prog 33 [.ref (1000, 0) 0 p0.length, .sc (.int .i64 p1)] [⟨105, 6, List.map recV p0, false, false⟩] (.sc (.int .i64 r0)) [⟨105, 6, List.map recV r1, false, false⟩] := by
  unfold w_markRecordS at h
  refine runsR [.tmp 4] Tryd.func33 rfl rfl rfl rfl ?_
  rw [Tryd.ntmps33]
  refine tri_seq ?_
  refine tri_region ?_
  refine s_mv (.inr rfl) (v := .sc (.int .i64 0)) rfl rfl rfl rfl ?_
  refine rt_nil ?_
  refine tri_seq ?_
  refine tri_seq ?_
  refine tri_region ?_
  refine s_mv (.inr rfl) (v := .sc (.int .i64 0)) rfl rfl rfl rfl ?_
  refine rt_nil ?_
  refine tri_block ?_
  refine tri_loop (ι := { p : Nat × (List Rec) × Int × Int // w_markRecordS_l0 p.1 p.2.1 p.2.2.1 p.2.2.2 = some (r0, r1) }) (fun p => inv_w_markRecordS_0 p.1.2.1 p.1.2.2.1 p.1.2.2.2) (fun p => p.1.1) ⟨(fuel0, p0, p1, 0), h⟩ ?_ ?_
  · skip
    refine entX [((1000, 0), ⟨105, 6, List.map recV p0, false, false⟩, some (1000, 0))] [] ⟨⟨rfl, _, rfl, rfl, rfl, rfl, id, rowsCv_eq rfl (allFree_map recV_free), rowsZ_map recV_len⟩, trivial⟩ trivial rfl rfl ?_
    exact ⟨(.ref rfl), (.free rfl), (.free rfl), trivial⟩
  · rintro ⟨⟨f0, v0_0, v0_1, v0_2⟩, h⟩
    replace h : w_markRecordS_l0 f0 v0_0 v0_1 v0_2 = some (r0, r1) := h
    cases f0 with
    | zero => cases h
    | succ f0 =>
    rw [w_markRecordS_l0] at h
    show Tri _ _ _ (inv_w_markRecordS_0 v0_0 v0_1 v0_2)
    refine tri_seq ?_
    refine tri_seq ?_
    refine tri_region ?_
    refine s_mv (.inl rfl) (by conv => lhs; whnf) rfl rfl rfl ?_
    refine s_mv (.inl rfl) (by conv => lhs; whnf) rfl rfl rfl ?_
    refine s_len (m := v0_0.length) rfl sl43 rfl rfl rfl rfl ?_
    refine s_of (st_lss rfl rfl rfl) rfl rfl rfl rfl ?_
    refine rt_nil ?_
    refine tri_cond rfl (fun c1 => ?_) (fun c1 => ?_)
    · replace h := cond_t h c1
      refine tri_skip ?_
      refine tri_seq ?_
      refine tri_block ?_
      refine tri_seq ?_
      refine tri_region ?_
      refine s_mv (.inl rfl) (by conv => lhs; whnf) rfl rfl rfl ?_
      refine s_mv (.inl rfl) (by conv => lhs; whnf) rfl rfl rfl ?_
      refine s_mv (.inl rfl) (by conv => lhs; whnf) rfl rfl rfl ?_
      refine bnd1_elim h fun x2 q3 h => ?_
      refine s_callN (kb := []) (ns := []) (v := .sc (.string x2)) rfl rfl cl86 (ww_markText v0_1 x2 q3) rfl (.cons (.free rfl) .nil) trivial memNil .nil memNil rfl trivial memNil rfl rfl rfl rfl rfl rfl ?_
      refine bnd1_elim h fun x4 q5 h => ?_
      have q5a := (idx_some q5).1; have q5b := (idx_some q5).2
      refine s_indexZ rfl rfl rfl rfl sl43 rfl q5a (get_lt q5b) rfl rfl rfl ?_
      refine s_fieldAddr rfl rfl fd105_0 rfl rfl rfl rfl ?_
      refine s_storeL (x' := Rec.mk x2 x4.ty x4.ttl x4.n x4.host x4.text) rfl rfl rfl q5b ty9 rfl rfl rfl rfl rfl rfl ?_
      refine rt_nil ?_
      refine tri_seq ?_
      refine tri_region ?_
      refine s_mv (.inl rfl) (by conv => lhs; whnf) rfl rfl rfl ?_
      refine grd_elim h fun g6 h => ?_
      refine s_addI rfl rfl rfl rfl g6 rfl rfl rfl ?_
      refine s_mv (.inr rfl) (by conv => lhs; whnf) rfl rfl rfl ?_
      refine rt_nil ?_
      refine tri_seq ?_
      refine tri_region ?_
      refine s_mv (.inl rfl) (by conv => lhs; whnf) rfl rfl rfl ?_
      refine s_mv (.inl rfl) (by conv => lhs; whnf) rfl rfl rfl ?_
      refine s_mv (.inl rfl) (by conv => lhs; whnf) rfl rfl rfl ?_
      refine s_indexZ rfl rfl rfl rfl sl43 rfl q5a (by have q := get_lt q5b; simpa only [List.length_set] using q) rfl rfl rfl ?_
      refine s_fieldAddr rfl rfl fd105_1 rfl rfl rfl rfl ?_
      refine s_storeL (x' := Rec.mk x2 (v0_1 + 1) x4.ttl x4.n x4.host x4.text) rfl rfl rfl (get_set q5b) ty3 rfl rfl rfl rfl rfl rfl ?_
      refine rt_nil ?_
      refine tri_seq ?_
      refine tri_region ?_
      refine s_mv (.inl rfl) (by conv => lhs; whnf) rfl rfl rfl ?_
      refine grd_elim h fun g7 h => ?_
      refine s_addI rfl rfl rfl rfl g7 rfl rfl rfl ?_
      refine s_mv (.inr rfl) (by conv => lhs; whnf) rfl rfl rfl ?_
      refine rt_nil ?_
      refine tri_seq ?_
      refine tri_region ?_
      refine s_mv (.inl rfl) (by conv => lhs; whnf) rfl rfl rfl ?_
      refine s_mv (.inl rfl) (by conv => lhs; whnf) rfl rfl rfl ?_
      refine s_mv (.inl rfl) (by conv => lhs; whnf) rfl rfl rfl ?_
      refine s_indexZ rfl rfl rfl rfl sl43 rfl q5a (by have q := get_lt q5b; simpa only [List.length_set] using q) rfl rfl rfl ?_
      refine s_fieldAddr rfl rfl fd105_2 rfl rfl rfl rfl ?_
      refine s_storeL (x' := Rec.mk x2 (v0_1 + 1) ((v0_1 + 1) + 1) x4.n x4.host x4.text) rfl rfl rfl (get_set (get_set q5b)) ty3 rfl rfl rfl rfl rfl rfl ?_
      refine rt_nil ?_
      refine tri_seq ?_
      refine tri_region ?_
      refine s_mv (.inl rfl) (by conv => lhs; whnf) rfl rfl rfl ?_
      refine grd_elim h fun g8 h => ?_
      refine s_addI rfl rfl rfl rfl g8 rfl rfl rfl ?_
      refine s_mv (.inr rfl) (by conv => lhs; whnf) rfl rfl rfl ?_
      refine rt_nil ?_
      refine tri_seq ?_
      refine tri_region ?_
      refine s_mv (.inl rfl) (by conv => lhs; whnf) rfl rfl rfl ?_
      refine s_mv (.inl rfl) (by conv => lhs; whnf) rfl rfl rfl ?_
      refine s_mv (.inl rfl) (by conv => lhs; whnf) rfl rfl rfl ?_
      refine s_indexZ rfl rfl rfl rfl sl43 rfl q5a (by have q := get_lt q5b; simpa only [List.length_set] using q) rfl rfl rfl ?_
      refine s_fieldAddr rfl rfl fd105_3 rfl rfl rfl rfl ?_
      refine s_storeL (x' := Rec.mk x2 (v0_1 + 1) ((v0_1 + 1) + 1) (((v0_1 + 1) + 1) + 1) x4.host x4.text) rfl rfl rfl (get_set (get_set (get_set q5b))) ty3 rfl rfl rfl rfl rfl rfl ?_
      refine rt_nil ?_
      refine tri_seq ?_
      refine tri_region ?_
      refine s_mv (.inl rfl) (by conv => lhs; whnf) rfl rfl rfl ?_
      refine grd_elim h fun g9 h => ?_
      refine s_addI rfl rfl rfl rfl g9 rfl rfl rfl ?_
      refine s_mv (.inr rfl) (by conv => lhs; whnf) rfl rfl rfl ?_
      refine rt_nil ?_
      refine tri_seq ?_
      refine tri_region ?_
      refine s_mv (.inl rfl) (by conv => lhs; whnf) rfl rfl rfl ?_
      refine s_mv (.inl rfl) (by conv => lhs; whnf) rfl rfl rfl ?_
      refine s_mv (.inl rfl) (by conv => lhs; whnf) rfl rfl rfl ?_
      refine bnd1_elim h fun x10 q11 h => ?_
      refine s_callN (kb := []) (ns := []) (v := .sc (.string x10)) rfl rfl cl86 (ww_markText ((((v0_1 + 1) + 1) + 1) + 1) x10 q11) rfl (.cons (.free rfl) .nil) trivial memNil .nil memNil rfl trivial memNil rfl rfl rfl rfl rfl rfl ?_
      refine s_indexZ rfl rfl rfl rfl sl43 rfl q5a (by have q := get_lt q5b; simpa only [List.length_set] using q) rfl rfl rfl ?_
      refine s_fieldAddr rfl rfl fd105_4 rfl rfl rfl rfl ?_
      refine s_storeL (x' := Rec.mk x2 (v0_1 + 1) ((v0_1 + 1) + 1) (((v0_1 + 1) + 1) + 1) x10 x4.text) rfl rfl rfl (get_set (get_set (get_set (get_set q5b)))) ty9 rfl rfl rfl rfl rfl rfl ?_
      refine rt_nil ?_
      refine tri_seq ?_
      refine tri_region ?_
      refine s_mv (.inl rfl) (by conv => lhs; whnf) rfl rfl rfl ?_
      refine grd_elim h fun g12 h => ?_
      refine s_addI rfl rfl rfl rfl g12 rfl rfl rfl ?_
      refine s_mv (.inr rfl) (by conv => lhs; whnf) rfl rfl rfl ?_
      refine rt_nil ?_
      refine tri_seq ?_
      refine tri_region ?_
      refine s_mv (.inl rfl) (by conv => lhs; whnf) rfl rfl rfl ?_
      refine s_mv (.inl rfl) (by conv => lhs; whnf) rfl rfl rfl ?_
      refine s_mv (.inl rfl) (by conv => lhs; whnf) rfl rfl rfl ?_
      refine bnd1_elim h fun x13 q14 h => ?_
      refine s_callN (kb := []) (ns := []) (v := .sc (.string x13)) rfl rfl cl86 (ww_markText (((((v0_1 + 1) + 1) + 1) + 1) + 1) x13 q14) rfl (.cons (.free rfl) .nil) trivial memNil .nil memNil rfl trivial memNil rfl rfl rfl rfl rfl rfl ?_
      refine s_indexZ rfl rfl rfl rfl sl43 rfl q5a (by have q := get_lt q5b; simpa only [List.length_set] using q) rfl rfl rfl ?_
      refine s_fieldAddr rfl rfl fd105_5 rfl rfl rfl rfl ?_
      refine s_storeL (x' := Rec.mk x2 (v0_1 + 1) ((v0_1 + 1) + 1) (((v0_1 + 1) + 1) + 1) x10 x13) rfl rfl rfl (get_set (get_set (get_set (get_set (get_set q5b))))) ty9 rfl rfl rfl rfl rfl rfl ?_
      refine rt_nil ?_
      refine tri_region ?_
      refine s_mv (.inl rfl) (by conv => lhs; whnf) rfl rfl rfl ?_
      refine grd_elim h fun g15 h => ?_
      refine s_addI rfl rfl rfl rfl g15 rfl rfl rfl ?_
      refine s_mv (.inr rfl) (by conv => lhs; whnf) rfl rfl rfl ?_
      refine rt_nil ?_
      refine tri_region ?_
      refine s_mv (.inl rfl) (by conv => lhs; whnf) rfl rfl rfl ?_
      refine grd_elim h fun g16 h => ?_
      refine s_addI rfl rfl rfl rfl g16 rfl rfl rfl ?_
      refine s_mv (.inr rfl) (by conv => lhs; whnf) rfl rfl rfl ?_
      refine rt_nil ?_
      refine Exists.intro ⟨(f0, (((((v0_0.set v0_2.toNat (Rec.mk x2 x4.ty x4.ttl x4.n x4.host x4.text)).set v0_2.toNat (Rec.mk x2 (v0_1 + 1) x4.ttl x4.n x4.host x4.text)).set v0_2.toNat (Rec.mk x2 (v0_1 + 1) ((v0_1 + 1) + 1) x4.n x4.host x4.text)).set v0_2.toNat (Rec.mk x2 (v0_1 + 1) ((v0_1 + 1) + 1) (((v0_1 + 1) + 1) + 1) x4.host x4.text)).set v0_2.toNat (Rec.mk x2 (v0_1 + 1) ((v0_1 + 1) + 1) (((v0_1 + 1) + 1) + 1) x10 x4.text)).set v0_2.toNat (Rec.mk x2 (v0_1 + 1) ((v0_1 + 1) + 1) (((v0_1 + 1) + 1) + 1) x10 x13), (((((v0_1 + 1) + 1) + 1) + 1) + 1) + 1, v0_2 + 1), h⟩ (And.intro (Nat.lt_succ_self _) ?_)
      refine entX [((1000, 0), ⟨105, 6, List.map recV ((((((v0_0.set v0_2.toNat (Rec.mk x2 x4.ty x4.ttl x4.n x4.host x4.text)).set v0_2.toNat (Rec.mk x2 (v0_1 + 1) x4.ttl x4.n x4.host x4.text)).set v0_2.toNat (Rec.mk x2 (v0_1 + 1) ((v0_1 + 1) + 1) x4.n x4.host x4.text)).set v0_2.toNat (Rec.mk x2 (v0_1 + 1) ((v0_1 + 1) + 1) (((v0_1 + 1) + 1) + 1) x4.host x4.text)).set v0_2.toNat (Rec.mk x2 (v0_1 + 1) ((v0_1 + 1) + 1) (((v0_1 + 1) + 1) + 1) x10 x4.text)).set v0_2.toNat (Rec.mk x2 (v0_1 + 1) ((v0_1 + 1) + 1) (((v0_1 + 1) + 1) + 1) x10 x13)), false, false⟩, some (1000, 0))] [] ⟨⟨rfl, _, rfl, rfl, rfl, rfl, id, rowsCv_eq rfl (allFree_map recV_free), rowsZ_map recV_len⟩, trivial⟩ trivial rfl rfl ?_
      exact ⟨(cvRefLen rfl (by simp only [List.length_set])), (.free rfl), (.free rfl), trivial⟩
    · replace h := cond_f h c1
      refine tri_exit ?_
      refine tri_seq ?_
      refine tri_region ?_
      refine s_mv (.inl rfl) (by conv => lhs; whnf) rfl rfl rfl ?_
      refine s_mv (.inr rfl) (by conv => lhs; whnf) rfl rfl rfl ?_
      refine rt_nil ?_
      refine tri_ret ?_
      have e0 := (some2 h).1; have e1 := (some2 h).2; subst e0; subst e1
      exact endY [((1000, 0), ⟨105, 6, List.map recV v0_0, false, false⟩, some (1000, 0))] [] (rvC (resTmp rfl) rvN) ⟨⟨rfl, _, rfl, rfl, rfl, rfl, id, rowsCv_eq rfl (allFree_map recV_free), rowsZ_map recV_len⟩, trivial⟩ trivial rfl rfl (by kernel_rfl) rfl (.free rfl)

/- laws.markZoneS -/

def invR_w_markZoneS_0 (v0_0 : List MZone) (v0_1 : Int) (v0_2 : Int) : St := mkT 28 [(0, .ref (1000, 0) 0 v0_0.length), (1, .sc (.int .i64 v0_1)), (5, .sc (.int .i64 v0_2))] (((1000, 0), some ⟨45, 2, nr 1000 mZoneN 1 v0_0, false, false⟩) :: (fam 1000 1 (List.map mZoneP v0_0) ++ []))
set_option maxRecDepth 4000 in
set_option maxHeartbeats 800000 in
theorem wRw_markZoneS (p0 : List MZone) (p1 : Int) (r0 : Int) (r1 : List MZone) (h : w_markZoneS p0 p1 = some (r0, r1)) : RunsG Tryd.prog 91 [.ref (1000, 0) 0 p0.length, .sc (.int .i64 p1)] ([⟨45, 2, nr 1000 mZoneN 1 p0, false, false⟩] ++ List.map mZoneP p0) (.sc (.int .i64 r0)) [] ([⟨45, 2, nr 1000 mZoneN 1 r1, false, false⟩] ++ List.map mZoneP r1) := by
  unfold w_markZoneS at h
  have hlen := w_markZoneS_len _ _ _ _ _ _ h
  refine runsG [.tmp 4] Tryd.func91 rfl rfl rfl (by simp only [List.length_append, List.length_map, hlen]; rfl) ?_
  rw [Tryd.ntmps91, outsL_one]
  refine tri_seq ?_
  refine tri_region ?_
  refine s_mv (.inr rfl) (v := .sc (.int .i64 0)) rfl rfl rfl rfl ?_
  refine rt_nil ?_
  refine tri_seq ?_
  refine tri_seq ?_
  refine tri_region ?_
  refine s_mv (.inr rfl) (v := .sc (.int .i64 0)) rfl rfl rfl rfl ?_
  refine rt_nil ?_
  refine tri_block ?_
  refine tri_loop (ι := { p : Nat × (List MZone) × Int × Int // w_markZoneS_l0 p.1 p.2.1 p.2.2.1 p.2.2.2 = some (r0, r1) }) (fun p => invR_w_markZoneS_0 p.1.2.1 p.1.2.2.1 p.1.2.2.2) (fun p => p.1.1) ⟨(fuel0, p0, p1, 0), h⟩ ?_ ?_
  · skip
    refine nest_mark rfl rfl (fun j y hy => lkTo rfl (fam_lk (by rw [List.getElem?_map, hy]; rfl))) mZoneN_z (fun x h => mZoneN_cv x h) mZoneP_f mZoneP_z (only_lit (by decide) (by have := only_fam (b := 1) (Es := List.map mZoneP p0); rw [List.length_map] at this; exact this)) ?_
    exact ⟨(.ref rfl), (.free rfl), (.free rfl), trivial⟩
  · rintro ⟨⟨f0, v0_0, v0_1, v0_2⟩, h⟩
    replace h : w_markZoneS_l0 f0 v0_0 v0_1 v0_2 = some (r0, r1) := h
    cases f0 with
    | zero => cases h
    | succ f0 =>
    rw [w_markZoneS_l0] at h
    show Tri _ _ _ (invR_w_markZoneS_0 v0_0 v0_1 v0_2)
    refine tri_seq ?_
    refine tri_seq ?_
    refine tri_region ?_
    refine s_mv (.inl rfl) (by conv => lhs; whnf) rfl rfl rfl ?_
    refine s_mv (.inl rfl) (by conv => lhs; whnf) rfl rfl rfl ?_
    refine s_len (m := v0_0.length) rfl sl28 rfl rfl rfl rfl ?_
    refine s_of (st_lss rfl rfl rfl) rfl rfl rfl rfl ?_
    refine rt_nil ?_
    refine tri_cond rfl (fun c1 => ?_) (fun c1 => ?_)
    · replace h := cond_t h c1
      refine tri_skip ?_
      refine tri_seq ?_
      refine tri_block ?_
      refine tri_seq ?_
      refine tri_region ?_
      refine s_mv (.inl rfl) (by conv => lhs; whnf) rfl rfl rfl ?_
      refine s_mv (.inl rfl) (by conv => lhs; whnf) rfl rfl rfl ?_
      refine s_mv (.inl rfl) (by conv => lhs; whnf) rfl rfl rfl ?_
      refine bnd1_elim h fun x2 q3 h => ?_
      refine s_callN (kb := []) (ns := []) (v := .sc (.string x2)) rfl rfl cl86 (ww_markText v0_1 x2 q3) rfl (.cons (.free rfl) .nil) trivial memNil .nil memNil rfl trivial memNil rfl rfl rfl rfl rfl rfl ?_
      refine bnd1_elim h fun x4 q5 h => ?_
      have q5a := (idx_some q5).1; have q5b := (idx_some q5).2
      refine s_indexZ rfl rfl rfl rfl sl28 rfl q5a (get_lt q5b) rfl rfl rfl ?_
      refine s_fieldAddr rfl rfl fd45_0 rfl rfl rfl rfl ?_
      refine s_store (rows' := (nr 1000 mZoneN 1 v0_0).set v0_2.toNat [.sc (.string x2), .ref (1000, v0_2.toNat + 1) 0 x4.l.length]) rfl rfl rfl (nr_get q5b) ty9 rfl rfl rfl rfl rfl rfl ?_
      refine rt_nil ?_
      refine tri_seq ?_
      refine tri_region ?_
      refine s_mv (.inl rfl) (by conv => lhs; whnf) rfl rfl rfl ?_
      refine grd_elim h fun g6 h => ?_
      refine s_addI rfl rfl rfl rfl g6 rfl rfl rfl ?_
      refine s_mv (.inr rfl) (by conv => lhs; whnf) rfl rfl rfl ?_
      refine rt_nil ?_
      refine tri_region ?_
      refine s_mv (.inl rfl) (by conv => lhs; whnf) rfl rfl rfl ?_
      refine s_mv (.inl rfl) (by conv => lhs; whnf) rfl rfl rfl ?_
      refine s_indexZ rfl rfl rfl rfl sl28 rfl q5a (get_lt q5b) rfl rfl rfl ?_
      refine s_fieldAddr rfl rfl fd45_1 rfl rfl rfl rfl ?_
      refine s_load rfl rfl rfl (get_set (nr_get q5b)) ty43 rfl (.inr rfl) (by conv => lhs; whnf) rfl rfl rfl ?_
      refine s_mv (.inl rfl) (by conv => lhs; whnf) rfl rfl rfl ?_
      refine bnd2_elim h fun x5 x6 q7 h => ?_
      refine grd_elim h fun g8 h => ?_
      have hm : (List.map mZoneP v0_0)[v0_2.toNat]? = some (mZoneP x4) := by rw [List.getElem?_map, q5b]; rfl
      refine s_callN (kb := []) (ns := [(1000, v0_2.toNat + 1)]) (v := .sc (.int .i64 x5)) rfl rfl cl33 (ww_markRecordS x4.l (v0_1 + 1) x5 x6 q7) rfl (.cons (.refOwn rfl) (.cons (.free rfl) .nil)) ⟨⟨mZoneP x4, lkTo rfl (lkTo rfl (fam_lk hm)), rfl⟩, trivial⟩ (memCons (allFree_map recV_free) memNil) (List.nodup_cons.2 ⟨List.not_mem_nil, .nil⟩) memNil rfl trivial (memCons (allSc_map recV_sc) memNil) rfl rfl (congrArg (fun b => ((1000, v0_2.toNat + 1), some (⟨105, 6, List.map recV x6, false, b⟩ : Entry)) :: _) (mine_of (lkTo rfl (lkTo rfl (fam_lk hm))))) rfl rfl rfl ?_
      refine s_mv (.inr rfl) (by conv => lhs; whnf) rfl rfl rfl ?_
      refine rt_nil ?_
      refine tri_region ?_
      refine s_mv (.inl rfl) (by conv => lhs; whnf) rfl rfl rfl ?_
      refine grd_elim h fun g9 h => ?_
      refine s_addI rfl rfl rfl rfl g9 rfl rfl rfl ?_
      refine s_mv (.inr rfl) (by conv => lhs; whnf) rfl rfl rfl ?_
      refine rt_nil ?_
      refine Exists.intro ⟨(f0, v0_0.set v0_2.toNat (MZone.mk x2 x6), x5, v0_2 + 1), h⟩ (And.intro (Nat.lt_succ_self _) ?_)
      have hr : (nr 1000 mZoneN 1 v0_0).set v0_2.toNat [.sc (.string x2), .ref (1000, v0_2.toNat + 1) 0 x4.l.length] = nr 1000 mZoneN 1 (v0_0.set v0_2.toNat (MZone.mk x2 x6)) := nr_set (by rw [← g8]; rfl)
      refine nest_mark rfl hr (fun j y hy => ?_) mZoneN_z (fun x h => mZoneN_cv x h) mZoneP_f mZoneP_z (by rw [List.length_set]; exact only_mem (get_lt q5b) (only_lit (by decide) (only_lit (by decide) (by have := only_fam (b := 1) (Es := List.map mZoneP v0_0); rw [List.length_map] at this; exact this)))) ?_
      · rcases set_cases hy with ⟨rfl, rfl, hi⟩ | ⟨hji, hy⟩
        · exact lkAt
        · exact lkTo (nmEq_ne hji) (lkTo rfl (lkTo rfl (fam_lk (by rw [List.getElem?_map, hy]; rfl))))
      · exact ⟨(cvRefLen rfl (by simp only [List.length_set])), (.free rfl), (.free rfl), trivial⟩
    · replace h := cond_f h c1
      refine tri_exit ?_
      refine tri_seq ?_
      refine tri_region ?_
      refine s_mv (.inl rfl) (by conv => lhs; whnf) rfl rfl rfl ?_
      refine s_mv (.inr rfl) (by conv => lhs; whnf) rfl rfl rfl ?_
      refine rt_nil ?_
      refine tri_ret ?_
      have e0 := (some2 h).1; have e1 := (some2 h).2; subst e0; subst e1
      exact nest_endB (b := 1) [((1000, 0), ⟨45, 2, nr 1000 mZoneN 1 v0_0, false, false⟩, some (1000, 0))] [⟨45, 2, nr 1000 mZoneN 1 v0_0, false, false⟩] (rvC (resTmp rfl) rvN) rfl ⟨⟨rfl, _, rfl, rfl, rfl, rfl, id, rowsCv_fam (fun x h => mZoneN_cv x h), nr_rowsZ mZoneN_z⟩, trivial⟩ rfl rfl (fun _ => rfl) rfl (fun j y hy => lkTo rfl (fam_lk (by rw [List.getElem?_map, hy]; rfl))) mZoneP_f mZoneP_z (only_lit (by decide) (by have := only_fam (b := 1) (Es := List.map mZoneP v0_0); rw [List.length_map] at this; exact this)) (fun j hj => by cases (Nat.lt_one_iff.1 hj : j = 0); rfl) rfl rfl

/- laws.markPostS -/
def inv_w_markPostS_0  (v0_0 : List MPost) (v0_1 : Int) (v0_2 : Int) : St := mkT 28 [(0, .ref (1000, 0) 0 v0_0.length), (1, .sc (.int .i64 v0_1)), (5, .sc (.int .i64 v0_2))] [((1000, 0), some ⟨102, 2, List.map mPostV v0_0, false, false⟩)]
set_option maxRecDepth 4000 in
set_option maxHeartbeats 800000 in
theorem ww_markPostS (p0 : List MPost) (p1 : Int) (r0 : Int) (r1 : List MPost) (h : w_markPostS p0 p1 = some (r0, r1)) : Runs Tryd.prog 92 [.ref (1000, 0) 0 p0.length, .sc (.int .i64 p1)] [⟨102, 2, List.map mPostV p0, false, false⟩] (.sc (.int .i64 r0)) [⟨102, 2, List.map mPostV r1, false, false⟩] := by
  unfold w_markPostS at h
  refine runsR [.tmp 4] Tryd.func92 rfl rfl rfl rfl ?_
  rw [Tryd.ntmps92]
  refine tri_seq ?_
  refine tri_region ?_
  refine s_mv (.inr rfl) (v := .sc (.int .i64 0)) rfl rfl rfl rfl ?_
  refine rt_nil ?_
  refine tri_seq ?_
  refine tri_seq ?_
  refine tri_region ?_
  refine s_mv (.inr rfl) (v := .sc (.int .i64 0)) rfl rfl rfl rfl ?_
  refine rt_nil ?_
  refine tri_block ?_
  refine tri_loop (ι := { p : Nat × (List MPost) × Int × Int // w_markPostS_l0 p.1 p.2.1 p.2.2.1 p.2.2.2 = some (r0, r1) }) (fun p => inv_w_markPostS_0 p.1.2.1 p.1.2.2.1 p.1.2.2.2) (fun p => p.1.1) ⟨(fuel0, p0, p1, 0), h⟩ ?_ ?_
  · skip
    refine entX [((1000, 0), ⟨102, 2, List.map mPostV p0, false, false⟩, some (1000, 0))] [] ⟨⟨rfl, _, rfl, rfl, rfl, rfl, id, rowsCv_eq rfl (allFree_map mPostV_free), rowsZ_map mPostV_len⟩, trivial⟩ trivial rfl rfl ?_
    exact ⟨(.ref rfl), (.free rfl), (.free rfl), trivial⟩
  · rintro ⟨⟨f0, v0_0, v0_1, v0_2⟩, h⟩
    replace h : w_markPostS_l0 f0 v0_0 v0_1 v0_2 = some (r0, r1) := h
    cases f0 with
    | zero => cases h
    | succ f0 =>
    rw [w_markPostS_l0] at h
    show Tri _ _ _ (inv_w_markPostS_0 v0_0 v0_1 v0_2)
    refine tri_seq ?_
    refine tri_seq ?_
    refine tri_region ?_
    refine s_mv (.inl rfl) (by conv => lhs; whnf) rfl rfl rfl ?_
    refine s_mv (.inl rfl) (by conv => lhs; whnf) rfl rfl rfl ?_
    refine s_len (m := v0_0.length) rfl sl29 rfl rfl rfl rfl ?_
    refine s_of (st_lss rfl rfl rfl) rfl rfl rfl rfl ?_
    refine rt_nil ?_
    refine tri_cond rfl (fun c1 => ?_) (fun c1 => ?_)
    · replace h := cond_t h c1
      refine tri_skip ?_
      refine tri_seq ?_
      refine tri_block ?_
      refine tri_seq ?_
      refine tri_region ?_
      refine s_mv (.inl rfl) (by conv => lhs; whnf) rfl rfl rfl ?_
      refine s_mv (.inl rfl) (by conv => lhs; whnf) rfl rfl rfl ?_
      refine s_mv (.inl rfl) (by conv => lhs; whnf) rfl rfl rfl ?_
      refine bnd1_elim h fun x2 q3 h => ?_
      have q3a := (idx_some q3).1; have q3b := (idx_some q3).2
      refine s_indexZ rfl rfl rfl rfl sl29 rfl q3a (get_lt q3b) rfl rfl rfl ?_
      refine s_fieldAddr rfl rfl fd102_0 rfl rfl rfl rfl ?_
      refine s_storeL (x' := MPost.mk v0_1 x2.apex) rfl rfl rfl q3b ty3 rfl rfl rfl rfl rfl rfl ?_
      refine rt_nil ?_
      refine tri_seq ?_
      refine tri_region ?_
      refine s_mv (.inl rfl) (by conv => lhs; whnf) rfl rfl rfl ?_
      refine grd_elim h fun g4 h => ?_
      refine s_addI rfl rfl rfl rfl g4 rfl rfl rfl ?_
      refine s_mv (.inr rfl) (by conv => lhs; whnf) rfl rfl rfl ?_
      refine rt_nil ?_
      refine tri_seq ?_
      refine tri_region ?_
      refine s_mv (.inl rfl) (by conv => lhs; whnf) rfl rfl rfl ?_
      refine s_mv (.inl rfl) (by conv => lhs; whnf) rfl rfl rfl ?_
      refine s_mv (.inl rfl) (by conv => lhs; whnf) rfl rfl rfl ?_
      refine bnd1_elim h fun x5 q6 h => ?_
      refine s_callN (kb := []) (ns := []) (v := .sc (.string x5)) rfl rfl cl86 (ww_markText (v0_1 + 1) x5 q6) rfl (.cons (.free rfl) .nil) trivial memNil .nil memNil rfl trivial memNil rfl rfl rfl rfl rfl rfl ?_
      refine s_indexZ rfl rfl rfl rfl sl29 rfl q3a (by have q := get_lt q3b; simpa only [List.length_set] using q) rfl rfl rfl ?_
      refine s_fieldAddr rfl rfl fd102_1 rfl rfl rfl rfl ?_
      refine s_storeL (x' := MPost.mk v0_1 x5) rfl rfl rfl (get_set q3b) ty9 rfl rfl rfl rfl rfl rfl ?_
      refine rt_nil ?_
      refine tri_region ?_
      refine s_mv (.inl rfl) (by conv => lhs; whnf) rfl rfl rfl ?_
      refine grd_elim h fun g7 h => ?_
      refine s_addI rfl rfl rfl rfl g7 rfl rfl rfl ?_
      refine s_mv (.inr rfl) (by conv => lhs; whnf) rfl rfl rfl ?_
      refine rt_nil ?_
      refine tri_region ?_
      refine s_mv (.inl rfl) (by conv => lhs; whnf) rfl rfl rfl ?_
      refine grd_elim h fun g8 h => ?_
      refine s_addI rfl rfl rfl rfl g8 rfl rfl rfl ?_
      refine s_mv (.inr rfl) (by conv => lhs; whnf) rfl rfl rfl ?_
      refine rt_nil ?_
      refine Exists.intro ⟨(f0, (v0_0.set v0_2.toNat (MPost.mk v0_1 x2.apex)).set v0_2.toNat (MPost.mk v0_1 x5), (v0_1 + 1) + 1, v0_2 + 1), h⟩ (And.intro (Nat.lt_succ_self _) ?_)
      refine entX [((1000, 0), ⟨102, 2, List.map mPostV ((v0_0.set v0_2.toNat (MPost.mk v0_1 x2.apex)).set v0_2.toNat (MPost.mk v0_1 x5)), false, false⟩, some (1000, 0))] [] ⟨⟨rfl, _, rfl, rfl, rfl, rfl, id, rowsCv_eq rfl (allFree_map mPostV_free), rowsZ_map mPostV_len⟩, trivial⟩ trivial rfl rfl ?_
      exact ⟨(cvRefLen rfl (by simp only [List.length_set])), (.free rfl), (.free rfl), trivial⟩
    · replace h := cond_f h c1
      refine tri_exit ?_
      refine tri_seq ?_
      refine tri_region ?_
      refine s_mv (.inl rfl) (by conv => lhs; whnf) rfl rfl rfl ?_
      refine s_mv (.inr rfl) (by conv => lhs; whnf) rfl rfl rfl ?_
      refine rt_nil ?_
      refine tri_ret ?_
      have e0 := (some2 h).1; have e1 := (some2 h).2; subst e0; subst e1
      exact endY [((1000, 0), ⟨102, 2, List.map mPostV v0_0, false, false⟩, some (1000, 0))] [] (rvC (resTmp rfl) rvN) ⟨⟨rfl, _, rfl, rfl, rfl, rfl, id, rowsCv_eq rfl (allFree_map mPostV_free), rowsZ_map mPostV_len⟩, trivial⟩ trivial rfl rfl (by kernel_rfl) rfl (.free rfl)

/- laws.markForest -/

set_option maxRecDepth 4000 in
set_option maxHeartbeats 800000 in
theorem wRw_markForest (p0 : MForest) (p1 : Int) (r0 : Int) (r1 : List MZone) (r2 : List MPost) (h : w_markForest p0 p1 = some (r0, r1, r2)) : RunsG Tryd.prog 40 [.agg [.ref (1000, 0) 0 p0.zones.length, .ref (1000, 1) 0 p0.posts.length], .sc (.int .i64 p1)] ([⟨45, 2, nr 1000 mZoneN 2 p0.zones, false, false⟩, ⟨102, 2, List.map mPostV p0.posts, false, false⟩] ++ List.map mZoneP p0.zones) (.sc (.int .i64 r0)) [] ([⟨45, 2, nr 1000 mZoneN 2 r1, false, false⟩, ⟨102, 2, List.map mPostV r2, false, false⟩] ++ List.map mZoneP r1) := by
  unfold w_markForest at h
  refine bnd2_elim h fun x1 x2 q3 h => ?_
  refine grd_elim h fun g4 h => ?_
  refine bnd2_elim h fun x5 x6 q7 h => ?_
  refine grd_elim h fun g8 h => ?_
  have e0 := (some3 h).1; have e1 := (some3 h).2.1; have e2 := (some3 h).2.2; subst e0; subst e1; subst e2
  refine runsG [.tmp 4] Tryd.func40 rfl rfl rfl (by simp only [List.length_append, List.length_map, g4]; rfl) ?_
  rw [Tryd.ntmps40, show outsL 0 ([(⟨45, 2, nr 1000 mZoneN 2 p0.zones, false, false⟩ : Entry), ⟨102, 2, List.map mPostV p0.posts, false, false⟩] ++ List.map mZoneP p0.zones) = [((1000, 0), some ⟨45, 2, nr 1000 mZoneN 2 p0.zones, false, false⟩), ((1000, 1), some ⟨102, 2, List.map mPostV p0.posts, false, false⟩)] ++ (fam 1000 2 (List.map mZoneP p0.zones) ++ []) from by rw [outsL_app, outsL_fam (List.map mZoneP p0.zones), List.append_nil]; rfl]
  refine tri_seq ?_
  refine tri_region ?_
  refine s_box rfl rfl (lkNo rfl (lkNo rfl (famNo rfl rfl))) rfl rfl rfl rfl ?_
  refine s_mv (.inr rfl) (v := .sc (.int .i64 0)) rfl rfl rfl rfl ?_
  refine rt_nil ?_
  refine tri_seq ?_
  refine tri_region ?_
  refine s_fieldAddr rfl rfl fd31_0 rfl rfl rfl rfl ?_
  refine s_load rfl rfl rfl rfl ty28 rfl (.inr rfl) (by conv => lhs; whnf) rfl rfl rfl ?_
  refine s_mv (.inl rfl) (by conv => lhs; whnf) rfl rfl rfl ?_
  refine s_callMn (A := [((2, 0), some ⟨31, 2, [[.ref (1000, 0) 0 p0.zones.length, .ref (1000, 1) 0 p0.posts.length]], false, true⟩), ((1000, 0), some ⟨45, 2, nr 1000 mZoneN 2 p0.zones, false, false⟩), ((1000, 1), some ⟨102, 2, List.map mPostV p0.posts, false, false⟩)]) (l := p0.zones) (l' := x2) (gm := mZoneP) (fN := mZoneN) (dn := (1000, 0)) (a := 1000) (b := 2) (s := false) (mi := false) rfl rfl cl91 (wRw_markZoneS p0.zones p1 x1 x2 q3) g4 rfl (.cons (.refOwn rfl) (.cons (.free rfl) .nil)) rfl (fun j => rfl) (fun k => rfl) mZoneN_z (fun x hm => .cons (.free rfl) (.cons (.refOwn hm) .nil)) (fun x hm => .cons retSc (.cons (.inn hm) .nil)) (fun x => allSc_map recV_sc) mZoneP_f mZoneP_z (fun _ _ => rfl) rfl rfl rfl rfl ?_
  refine s_mv (.inr rfl) (by conv => lhs; whnf) rfl rfl rfl ?_
  refine rt_nil ?_
  refine tri_seq ?_
  refine tri_region ?_
  refine s_fieldAddr rfl rfl fd31_1 rfl rfl rfl rfl ?_
  refine s_load rfl rfl rfl rfl ty29 rfl (.inr rfl) (by conv => lhs; whnf) rfl rfl rfl ?_
  refine s_mv (.inl rfl) (by conv => lhs; whnf) rfl rfl rfl ?_
  refine s_callN (kb := []) (ns := [(1000, 1)]) (v := .sc (.int .i64 x5)) rfl rfl cl92 (ww_markPostS p0.posts x1 x5 x6 q7) rfl (.cons (.refOwn rfl) (.cons (.free rfl) .nil)) ⟨⟨_, rfl, rfl⟩, trivial⟩ (memCons (allFree_map mPostV_free) memNil) (List.nodup_cons.2 ⟨List.not_mem_nil, .nil⟩) memNil rfl trivial (memCons (allSc_map mPostV_sc) memNil) rfl rfl rfl rfl rfl rfl ?_
  refine s_mv (.inr rfl) (by conv => lhs; whnf) rfl rfl rfl ?_
  refine rt_nil ?_
  refine tri_seq ?_
  refine tri_region ?_
  refine s_mv (.inl rfl) (by conv => lhs; whnf) rfl rfl rfl ?_
  refine s_mv (.inr rfl) (by conv => lhs; whnf) rfl rfl rfl ?_
  refine rt_nil ?_
  refine tri_ret ?_
  exact nest_endB (b := 2) (l := x2) (g := mZoneP) [((1000, 0), ⟨45, 2, nr 1000 mZoneN 2 x2, false, false⟩, some (1000, 0)), ((1000, 1), ⟨102, 2, List.map mPostV x6, false, false⟩, some (1000, 1))] [⟨45, 2, nr 1000 mZoneN 2 x2, false, false⟩, ⟨102, 2, List.map mPostV x6, false, false⟩] (rvC (resTmp rfl) rvN) rfl ⟨⟨rfl, _, rfl, rfl, rfl, rfl, id, rowsCv_fam (fun x h => mZoneN_cv x h), nr_rowsZ mZoneN_z⟩, ⟨rfl, _, rfl, rfl, rfl, rfl, id, rowsCv_eq rfl (allFree_map mPostV_free), rowsZ_map mPostV_len⟩, trivial⟩ rfl rfl (fun _ => rfl) rfl (fun j y hy => by repeat (first | exact fam_lk (by rw [List.getElem?_map, hy]; rfl) | refine lkTo rfl ?_)) mZoneP_f mZoneP_z (only_lit (by decide) (only_lit (by decide) (only_oth rfl (only_lit (by decide) (only_lit (by decide) (by have := only_fam (b := 2) (Es := List.map mZoneP x2); rw [List.length_map] at this; exact this)))))) (fun j hj => by
    rcases (show j = 0 ∨ j = 1 from by have : j < 2 := hj; omega) with rfl | rfl <;> rfl) rfl rfl

/- laws.markFact -/

set_option maxRecDepth 4000 in
set_option maxHeartbeats 800000 in
theorem ww_markFact (p0 : MFact) (p1 : Int) (r0 : Int) (r1 : List Rec) (r2 : List Rec) (h : w_markFact p0 p1 = some (r0, r1, r2)) : Runs Tryd.prog 61 [.agg [.sc (.int .i64 p0.code), .ref (1000, 0) 0 p0.links.length, .ref (1000, 1) 0 p0.l.length, .sc (.bool p0.fin)], .sc (.int .i64 p1)] [⟨105, 6, List.map recV p0.links, false, false⟩, ⟨105, 6, List.map recV p0.l, false, false⟩] (.sc (.int .i64 r0)) [⟨105, 6, List.map recV r1, false, false⟩, ⟨105, 6, List.map recV r2, false, false⟩] := by
  unfold w_markFact at h
  refine runsR [.tmp 4] Tryd.func61 rfl rfl rfl rfl ?_
  rw [Tryd.ntmps61]
  refine tri_seq ?_
  refine tri_region ?_
  refine s_box rfl rfl rfl rfl rfl rfl rfl ?_
  refine s_mv (.inr rfl) (v := .sc (.int .i64 0)) rfl rfl rfl rfl ?_
  refine rt_nil ?_
  refine tri_seq ?_
  refine tri_region ?_
  refine s_fieldAddr rfl rfl fd79_1 rfl rfl rfl rfl ?_
  refine s_load rfl rfl rfl rfl ty43 rfl (.inr rfl) (by conv => lhs; whnf) rfl rfl rfl ?_
  refine s_mv (.inl rfl) (by conv => lhs; whnf) rfl rfl rfl ?_
  refine bnd2_elim h fun x1 x2 q3 h => ?_
  refine grd_elim h fun g4 h => ?_
  refine s_callN (kb := []) (ns := [(1000, 0)]) (v := .sc (.int .i64 x1)) rfl rfl cl33 (ww_markRecordS p0.links p1 x1 x2 q3) rfl (.cons (.refOwn rfl) (.cons (.free rfl) .nil)) ⟨⟨_, rfl, rfl⟩, trivial⟩ (memCons (allFree_map recV_free) memNil) (List.nodup_cons.2 ⟨List.not_mem_nil, .nil⟩) memNil rfl trivial (memCons (allSc_map recV_sc) memNil) rfl rfl rfl rfl rfl rfl ?_
  refine s_mv (.inr rfl) (by conv => lhs; whnf) rfl rfl rfl ?_
  refine rt_nil ?_
  refine tri_seq ?_
  refine tri_region ?_
  refine s_fieldAddr rfl rfl fd79_2 rfl rfl rfl rfl ?_
  refine s_load rfl rfl rfl rfl ty43 rfl (.inr rfl) (by conv => lhs; whnf) rfl rfl rfl ?_
  refine s_mv (.inl rfl) (by conv => lhs; whnf) rfl rfl rfl ?_
  refine bnd2_elim h fun x5 x6 q7 h => ?_
  refine grd_elim h fun g8 h => ?_
  refine s_callN (kb := []) (ns := [(1000, 1)]) (v := .sc (.int .i64 x5)) rfl rfl cl33 (ww_markRecordS p0.l x1 x5 x6 q7) rfl (.cons (.refOwn rfl) (.cons (.free rfl) .nil)) ⟨⟨_, rfl, rfl⟩, trivial⟩ (memCons (allFree_map recV_free) memNil) (List.nodup_cons.2 ⟨List.not_mem_nil, .nil⟩) memNil rfl trivial (memCons (allSc_map recV_sc) memNil) rfl rfl rfl rfl rfl rfl ?_
  refine s_mv (.inr rfl) (by conv => lhs; whnf) rfl rfl rfl ?_
  refine rt_nil ?_
  refine tri_seq ?_
  refine tri_region ?_
  refine s_mv (.inl rfl) (by conv => lhs; whnf) rfl rfl rfl ?_
  refine s_mv (.inr rfl) (by conv => lhs; whnf) rfl rfl rfl ?_
  refine rt_nil ?_
  refine tri_ret ?_
  have e0 := (some3 h).1; have e1 := (some3 h).2.1; have e2 := (some3 h).2.2; subst e0; subst e1; subst e2
  exact endY [((1000, 0), ⟨105, 6, List.map recV x2, false, false⟩, some (1000, 0)), ((1000, 1), ⟨105, 6, List.map recV x6, false, false⟩, some (1000, 1))] [] (rvC (resTmp rfl) rvN) ⟨⟨rfl, _, rfl, rfl, rfl, rfl, id, rowsCv_eq rfl (allFree_map recV_free), rowsZ_map recV_len⟩, ⟨rfl, _, rfl, rfl, rfl, rfl, id, rowsCv_eq rfl (allFree_map recV_free), rowsZ_map recV_len⟩, trivial⟩ trivial rfl rfl (by kernel_rfl) rfl (.free rfl)

/- laws.heldRecordS -/
def inv_w_heldRecordS_0 (p0 : List Rec) (v0_0 : Int) (v0_1 : Nat) : St := mkT 70 [(0, .lst 6 (List.map recV p0)), (1, .sc (.int .i64 v0_0)), (5, .sc (.int .i64 (v0_1 : Int)))] []
set_option maxRecDepth 4000 in
set_option maxHeartbeats 800000 in
theorem ww_heldRecordS (p0 : List Rec) (p1 : Int) (r0 : Int) (h : w_heldRecordS p0 p1 = some r0) : Runs Tryd.prog 34 [.lst 6 (List.map recV p0), .sc (.int .i64 p1)] [] (.sc (.int .i64 r0)) [] := by
  unfold w_heldRecordS at h
  refine runsR [.tmp 4] Tryd.func34 rfl rfl rfl rfl ?_
  rw [Tryd.ntmps34]
  refine tri_seq ?_
  refine tri_region ?_
  refine s_mv (.inr rfl) (v := .sc (.int .i64 0)) rfl rfl rfl rfl ?_
  refine rt_nil ?_
  refine tri_seq ?_
  refine tri_seq ?_
  refine tri_region ?_
  refine s_mv (.inr rfl) (v := .sc (.int .i64 0)) rfl rfl rfl rfl ?_
  refine rt_nil ?_
  refine tri_block ?_
  refine tri_lstM 0 rfl (fun hl0 => ?_)
  refine tri_loop (ι := { p : (List Rec) × Int × Nat // p0.drop p.2.2 = p.1 ∧ w_heldRecordS_l0 p.1 p.2.1 p.2.2 = some r0 }) (fun p => inv_w_heldRecordS_0 p0 p.1.2.1 p.1.2.2) (fun p => p.1.1.length) ⟨(p0, p1, 0), rfl, h⟩ ?_ ?_
  · skip
    refine entX [] [] trivial trivial rfl rfl ?_
    exact ⟨(.free rfl), (.free rfl), (.free rfl), trivial⟩
  · rintro ⟨⟨lrs0, v0_0, v0_1⟩, hd0, h⟩
    replace hd0 : p0.drop v0_1 = lrs0 := hd0
    replace h : w_heldRecordS_l0 lrs0 v0_0 v0_1 = some r0 := h
    show Tri _ _ _ (inv_w_heldRecordS_0 p0 v0_0 v0_1)
    refine tri_seq ?_
    refine tri_seq ?_
    refine tri_region ?_
    refine s_mv (.inl rfl) (by conv => lhs; whnf) rfl rfl rfl ?_
    refine s_mv (.inl rfl) (by conv => lhs; whnf) rfl rfl rfl ?_
    refine s_lenL rfl sl43 rfl rfl rfl rfl ?_
    refine s_of (st_lss rfl rfl rfl) rfl rfl rfl rfl ?_
    refine rt_nil ?_
    refine tri_cond rfl (fun c1 => ?_) (fun c1 => ?_)
    · refine drop_elim hd0 c1 fun e0 rs0 he hx0 hn0 => ?_
      subst he
      rw [w_heldRecordS_l0] at h
      refine tri_skip ?_
      refine tri_seq ?_
      refine tri_block ?_
      refine tri_seq ?_
      refine tri_seq ?_
      refine tri_draw mixed ?_
      refine s_mv (.inl rfl) (by conv => lhs; whnf) rfl rfl rfl ?_
      refine s_mv (.inl rfl) (by conv => lhs; whnf) rfl rfl rfl ?_
      refine s_indexF (i := v0_1) rfl rfl rfl sl43 (get_ltM hx0) rfl rfl rfl ?_
      refine s_fieldAddrF rfl rfl fd105_0 rfl rfl rfl rfl ?_
      refine s_loadF rfl rfl (rowG hx0) ty9 rfl (.inr rfl) (by conv => lhs; whnf) rfl rfl rfl ?_
      refine s_mv (.inl rfl) (by conv => lhs; whnf) rfl rfl rfl ?_
      refine bnd1_elim h fun x2 q3 h => ?_
      refine s_callN (kb := []) (ns := []) (v := .sc (.string x2)) rfl rfl cl86 (ww_markText v0_0 x2 q3) rfl (.cons (.free rfl) .nil) trivial memNil .nil memNil rfl trivial memNil rfl rfl rfl rfl rfl rfl ?_
      refine s_of (st_neS rfl rfl rfl) rfl rfl rfl rfl ?_
      refine rt_nil ⟨by kernel_rfl, ?_⟩
      refine tri_cond rfl (fun c4 => ?_) (fun c4 => ?_)
      · replace h := cond_t h c4
        refine tri_seq ?_
        refine tri_region ?_
        refine s_mv (.inr rfl) (v := .sc (.int .i64 (-1))) rfl rfl rfl rfl ?_
        refine rt_nil ?_
        refine tri_ret ?_
        have e0 := (some1 h); subst e0
        exact endY [] [] (rvC (resTmp rfl) rvN) trivial trivial rfl rfl rfl rfl (.free rfl)
      · replace h := cond_f h c4
        refine tri_skip ?_
        refine tri_seq ?_
        refine tri_region ?_
        refine s_mv (.inl rfl) (by conv => lhs; whnf) rfl rfl rfl ?_
        refine grd_elim h fun g5 h => ?_
        refine s_addI rfl rfl rfl rfl g5 rfl rfl rfl ?_
        refine s_mv (.inr rfl) (by conv => lhs; whnf) rfl rfl rfl ?_
        refine rt_nil ?_
        refine tri_seq ?_
        refine tri_seq ?_
        refine tri_region ?_
        refine s_mv (.inl rfl) (by conv => lhs; whnf) rfl rfl rfl ?_
        refine s_mv (.inl rfl) (by conv => lhs; whnf) rfl rfl rfl ?_
        refine s_indexF (i := v0_1) rfl rfl rfl sl43 (get_ltM hx0) rfl rfl rfl ?_
        refine s_fieldAddrF rfl rfl fd105_1 rfl rfl rfl rfl ?_
        refine s_loadF rfl rfl (rowG hx0) ty3 rfl (.inr rfl) (by conv => lhs; whnf) rfl rfl rfl ?_
        refine s_mv (.inl rfl) (by conv => lhs; whnf) rfl rfl rfl ?_
        refine s_of (st_neI rfl rfl rfl) rfl rfl rfl rfl ?_
        refine rt_nil ?_
        refine tri_cond rfl (fun c6 => ?_) (fun c6 => ?_)
        · replace h := cond_t h c6
          refine tri_seq ?_
          refine tri_region ?_
          refine s_mv (.inr rfl) (v := .sc (.int .i64 (-1))) rfl rfl rfl rfl ?_
          refine rt_nil ?_
          refine tri_ret ?_
          have e0 := (some1 h); subst e0
          exact endY [] [] (rvC (resTmp rfl) rvN) trivial trivial rfl rfl rfl rfl (.free rfl)
        · replace h := cond_f h c6
          refine tri_skip ?_
          refine tri_seq ?_
          refine tri_region ?_
          refine s_mv (.inl rfl) (by conv => lhs; whnf) rfl rfl rfl ?_
          refine grd_elim h fun g7 h => ?_
          refine s_addI rfl rfl rfl rfl g7 rfl rfl rfl ?_
          refine s_mv (.inr rfl) (by conv => lhs; whnf) rfl rfl rfl ?_
          refine rt_nil ?_
          refine tri_seq ?_
          refine tri_seq ?_
          refine tri_region ?_
          refine s_mv (.inl rfl) (by conv => lhs; whnf) rfl rfl rfl ?_
          refine s_mv (.inl rfl) (by conv => lhs; whnf) rfl rfl rfl ?_
          refine s_indexF (i := v0_1) rfl rfl rfl sl43 (get_ltM hx0) rfl rfl rfl ?_
          refine s_fieldAddrF rfl rfl fd105_2 rfl rfl rfl rfl ?_
          refine s_loadF rfl rfl (rowG hx0) ty3 rfl (.inr rfl) (by conv => lhs; whnf) rfl rfl rfl ?_
          refine s_mv (.inl rfl) (by conv => lhs; whnf) rfl rfl rfl ?_
          refine s_of (st_neI rfl rfl rfl) rfl rfl rfl rfl ?_
          refine rt_nil ?_
          refine tri_cond rfl (fun c8 => ?_) (fun c8 => ?_)
          · replace h := cond_t h c8
            refine tri_seq ?_
            refine tri_region ?_
            refine s_mv (.inr rfl) (v := .sc (.int .i64 (-1))) rfl rfl rfl rfl ?_
            refine rt_nil ?_
            refine tri_ret ?_
            have e0 := (some1 h); subst e0
            exact endY [] [] (rvC (resTmp rfl) rvN) trivial trivial rfl rfl rfl rfl (.free rfl)
          · replace h := cond_f h c8
            refine tri_skip ?_
            refine tri_seq ?_
            refine tri_region ?_
            refine s_mv (.inl rfl) (by conv => lhs; whnf) rfl rfl rfl ?_
            refine grd_elim h fun g9 h => ?_
            refine s_addI rfl rfl rfl rfl g9 rfl rfl rfl ?_
            refine s_mv (.inr rfl) (by conv => lhs; whnf) rfl rfl rfl ?_
            refine rt_nil ?_
            refine tri_seq ?_
            refine tri_seq ?_
            refine tri_region ?_
            refine s_mv (.inl rfl) (by conv => lhs; whnf) rfl rfl rfl ?_
            refine s_mv (.inl rfl) (by conv => lhs; whnf) rfl rfl rfl ?_
            refine s_indexF (i := v0_1) rfl rfl rfl sl43 (get_ltM hx0) rfl rfl rfl ?_
            refine s_fieldAddrF rfl rfl fd105_3 rfl rfl rfl rfl ?_
            refine s_loadF rfl rfl (rowG hx0) ty3 rfl (.inr rfl) (by conv => lhs; whnf) rfl rfl rfl ?_
            refine s_mv (.inl rfl) (by conv => lhs; whnf) rfl rfl rfl ?_
            refine s_of (st_neI rfl rfl rfl) rfl rfl rfl rfl ?_
            refine rt_nil ?_
            refine tri_cond rfl (fun c10 => ?_) (fun c10 => ?_)
            · replace h := cond_t h c10
              refine tri_seq ?_
              refine tri_region ?_
              refine s_mv (.inr rfl) (v := .sc (.int .i64 (-1))) rfl rfl rfl rfl ?_
              refine rt_nil ?_
              refine tri_ret ?_
              have e0 := (some1 h); subst e0
              exact endY [] [] (rvC (resTmp rfl) rvN) trivial trivial rfl rfl rfl rfl (.free rfl)
            · replace h := cond_f h c10
              refine tri_skip ?_
              refine tri_seq ?_
              refine tri_region ?_
              refine s_mv (.inl rfl) (by conv => lhs; whnf) rfl rfl rfl ?_
              refine grd_elim h fun g11 h => ?_
              refine s_addI rfl rfl rfl rfl g11 rfl rfl rfl ?_
              refine s_mv (.inr rfl) (by conv => lhs; whnf) rfl rfl rfl ?_
              refine rt_nil ?_
              refine tri_seq ?_
              refine tri_seq ?_
              refine tri_draw mixed ?_
              refine s_mv (.inl rfl) (by conv => lhs; whnf) rfl rfl rfl ?_
              refine s_mv (.inl rfl) (by conv => lhs; whnf) rfl rfl rfl ?_
              refine s_indexF (i := v0_1) rfl rfl rfl sl43 (get_ltM hx0) rfl rfl rfl ?_
              refine s_fieldAddrF rfl rfl fd105_4 rfl rfl rfl rfl ?_
              refine s_loadF rfl rfl (rowG hx0) ty9 rfl (.inr rfl) (by conv => lhs; whnf) rfl rfl rfl ?_
              refine s_mv (.inl rfl) (by conv => lhs; whnf) rfl rfl rfl ?_
              refine bnd1_elim h fun x12 q13 h => ?_
              refine s_callN (kb := []) (ns := []) (v := .sc (.string x12)) rfl rfl cl86 (ww_markText ((((v0_0 + 1) + 1) + 1) + 1) x12 q13) rfl (.cons (.free rfl) .nil) trivial memNil .nil memNil rfl trivial memNil rfl rfl rfl rfl rfl rfl ?_
              refine s_of (st_neS rfl rfl rfl) rfl rfl rfl rfl ?_
              refine rt_nil ⟨by kernel_rfl, ?_⟩
              refine tri_cond rfl (fun c14 => ?_) (fun c14 => ?_)
              · replace h := cond_t h c14
                refine tri_seq ?_
                refine tri_region ?_
                refine s_mv (.inr rfl) (v := .sc (.int .i64 (-1))) rfl rfl rfl rfl ?_
                refine rt_nil ?_
                refine tri_ret ?_
                have e0 := (some1 h); subst e0
                exact endY [] [] (rvC (resTmp rfl) rvN) trivial trivial rfl rfl rfl rfl (.free rfl)
              · replace h := cond_f h c14
                refine tri_skip ?_
                refine tri_seq ?_
                refine tri_region ?_
                refine s_mv (.inl rfl) (by conv => lhs; whnf) rfl rfl rfl ?_
                refine grd_elim h fun g15 h => ?_
                refine s_addI rfl rfl rfl rfl g15 rfl rfl rfl ?_
                refine s_mv (.inr rfl) (by conv => lhs; whnf) rfl rfl rfl ?_
                refine rt_nil ?_
                refine tri_seq ?_
                refine tri_seq ?_
                refine tri_draw mixed ?_
                refine s_mv (.inl rfl) (by conv => lhs; whnf) rfl rfl rfl ?_
                refine s_mv (.inl rfl) (by conv => lhs; whnf) rfl rfl rfl ?_
                refine s_indexF (i := v0_1) rfl rfl rfl sl43 (get_ltM hx0) rfl rfl rfl ?_
                refine s_fieldAddrF rfl rfl fd105_5 rfl rfl rfl rfl ?_
                refine s_loadF rfl rfl (rowG hx0) ty9 rfl (.inr rfl) (by conv => lhs; whnf) rfl rfl rfl ?_
                refine s_mv (.inl rfl) (by conv => lhs; whnf) rfl rfl rfl ?_
                refine bnd1_elim h fun x16 q17 h => ?_
                refine s_callN (kb := []) (ns := []) (v := .sc (.string x16)) rfl rfl cl86 (ww_markText (((((v0_0 + 1) + 1) + 1) + 1) + 1) x16 q17) rfl (.cons (.free rfl) .nil) trivial memNil .nil memNil rfl trivial memNil rfl rfl rfl rfl rfl rfl ?_
                refine s_of (st_neS rfl rfl rfl) rfl rfl rfl rfl ?_
                refine rt_nil ⟨by kernel_rfl, ?_⟩
                refine tri_cond rfl (fun c18 => ?_) (fun c18 => ?_)
                · replace h := cond_t h c18
                  refine tri_seq ?_
                  refine tri_region ?_
                  refine s_mv (.inr rfl) (v := .sc (.int .i64 (-1))) rfl rfl rfl rfl ?_
                  refine rt_nil ?_
                  refine tri_ret ?_
                  have e0 := (some1 h); subst e0
                  exact endY [] [] (rvC (resTmp rfl) rvN) trivial trivial rfl rfl rfl rfl (.free rfl)
                · replace h := cond_f h c18
                  refine tri_skip ?_
                  refine tri_region ?_
                  refine s_mv (.inl rfl) (by conv => lhs; whnf) rfl rfl rfl ?_
                  refine grd_elim h fun g19 h => ?_
                  refine s_addI rfl rfl rfl rfl g19 rfl rfl rfl ?_
                  refine s_mv (.inr rfl) (by conv => lhs; whnf) rfl rfl rfl ?_
                  refine rt_nil ?_
                  refine tri_region ?_
                  refine s_mv (.inl rfl) (by conv => lhs; whnf) rfl rfl rfl ?_
                  refine s_inc (a := v0_1) (b := 1) rfl rfl rfl rfl (by have := get_lt hx0; have := hl0; omega) rfl rfl rfl ?_
                  refine s_mv (.inr rfl) (by conv => lhs; whnf) rfl rfl rfl ?_
                  refine rt_nil ?_
                  refine Exists.intro ⟨(rs0, (((((v0_0 + 1) + 1) + 1) + 1) + 1) + 1, (v0_1 + 1)), hn0, h⟩ (And.intro (Nat.lt_succ_self _) ?_)
                  refine entX [] [] trivial trivial rfl rfl ?_
                  exact ⟨(.free rfl), (.free rfl), (.free rfl), trivial⟩
    · have he := drop_f hd0 c1; subst he
      rw [w_heldRecordS_l0] at h
      refine tri_exit ?_
      refine tri_seq ?_
      refine tri_region ?_
      refine s_mv (.inl rfl) (by conv => lhs; whnf) rfl rfl rfl ?_
      refine s_mv (.inr rfl) (by conv => lhs; whnf) rfl rfl rfl ?_
      refine rt_nil ?_
      refine tri_ret ?_
      have e0 := (some1 h); subst e0
      exact endY [] [] (rvC (resTmp rfl) rvN) trivial trivial rfl rfl rfl rfl (.free rfl)

/- laws.heldFact -/

set_option maxRecDepth 4000 in
set_option maxHeartbeats 800000 in
theorem ww_heldFact (p0 : MFact) (p1 : Int) (r0 : Int) (h : w_heldFact p0 p1 = some r0) : Runs Tryd.prog 62 [.agg (mFactV p0), .sc (.int .i64 p1)] [] (.sc (.int .i64 r0)) [] := by
  unfold w_heldFact at h
  refine runsR [.tmp 4] Tryd.func62 rfl rfl rfl rfl ?_
  rw [Tryd.ntmps62]
  refine tri_seq ?_
  refine tri_region ?_
  refine s_box rfl rfl rfl rfl rfl rfl rfl ?_
  refine s_mv (.inr rfl) (v := .sc (.int .i64 0)) rfl rfl rfl rfl ?_
  refine rt_nil ?_
  refine tri_seq ?_
  refine tri_region ?_
  refine s_fieldAddr rfl rfl fd79_1 rfl rfl rfl rfl ?_
  refine s_load rfl rfl rfl rfl ty43 rfl (.inr rfl) (by conv => lhs; whnf) rfl rfl rfl ?_
  refine s_mv (.inl rfl) (by conv => lhs; whnf) rfl rfl rfl ?_
  refine bnd1_elim h fun x1 q2 h => ?_
  refine s_callN (kb := []) (ns := []) (v := .sc (.int .i64 x1)) rfl rfl cl34 (ww_heldRecordS p0.links p1 x1 q2) rfl (.cons (.free rfl) (.cons (.free rfl) .nil)) trivial memNil .nil memNil rfl trivial memNil rfl rfl rfl rfl rfl rfl ?_
  refine s_mv (.inr rfl) (by conv => lhs; whnf) rfl rfl rfl ?_
  refine rt_nil ?_
  refine tri_seq ?_
  refine tri_seq ?_
  refine tri_region ?_
  refine s_mv (.inl rfl) (by conv => lhs; whnf) rfl rfl rfl ?_
  refine s_of (st_lss rfl rfl rfl) rfl rfl rfl rfl ?_
  refine rt_nil ?_
  refine tri_cond rfl (fun c3 => ?_) (fun c3 => ?_)
  · replace h := cond_t h c3
    refine tri_seq ?_
    refine tri_region ?_
    refine s_mv (.inr rfl) (v := .sc (.int .i64 (-1))) rfl rfl rfl rfl ?_
    refine rt_nil ?_
    refine tri_ret ?_
    have e0 := (some1 h); subst e0
    exact endY [] [] (rvC (resTmp rfl) rvN) trivial trivial rfl rfl rfl rfl (.free rfl)
  · replace h := cond_f h c3
    refine tri_skip ?_
    refine tri_seq ?_
    refine tri_region ?_
    refine s_fieldAddr rfl rfl fd79_2 rfl rfl rfl rfl ?_
    refine s_load rfl rfl rfl rfl ty43 rfl (.inr rfl) (by conv => lhs; whnf) rfl rfl rfl ?_
    refine s_mv (.inl rfl) (by conv => lhs; whnf) rfl rfl rfl ?_
    refine bnd1_elim h fun x4 q5 h => ?_
    refine s_callN (kb := []) (ns := []) (v := .sc (.int .i64 x4)) rfl rfl cl34 (ww_heldRecordS p0.l x1 x4 q5) rfl (.cons (.free rfl) (.cons (.free rfl) .nil)) trivial memNil .nil memNil rfl trivial memNil rfl rfl rfl rfl rfl rfl ?_
    refine s_mv (.inr rfl) (by conv => lhs; whnf) rfl rfl rfl ?_
    refine rt_nil ?_
    refine tri_seq ?_
    refine tri_seq ?_
    refine tri_region ?_
    refine s_mv (.inl rfl) (by conv => lhs; whnf) rfl rfl rfl ?_
    refine s_of (st_lss rfl rfl rfl) rfl rfl rfl rfl ?_
    refine rt_nil ?_
    refine tri_cond rfl (fun c6 => ?_) (fun c6 => ?_)
    · replace h := cond_t h c6
      refine tri_seq ?_
      refine tri_region ?_
      refine s_mv (.inr rfl) (v := .sc (.int .i64 (-1))) rfl rfl rfl rfl ?_
      refine rt_nil ?_
      refine tri_ret ?_
      have e0 := (some1 h); subst e0
      exact endY [] [] (rvC (resTmp rfl) rvN) trivial trivial rfl rfl rfl rfl (.free rfl)
    · replace h := cond_f h c6
      refine tri_skip ?_
      refine tri_seq ?_
      refine tri_region ?_
      refine s_mv (.inl rfl) (by conv => lhs; whnf) rfl rfl rfl ?_
      refine s_mv (.inr rfl) (by conv => lhs; whnf) rfl rfl rfl ?_
      refine rt_nil ?_
      refine tri_ret ?_
      have e0 := (some1 h); subst e0
      exact endY [] [] (rvC (resTmp rfl) rvN) trivial trivial rfl rfl rfl rfl (.free rfl)

/- laws.FnExactFactOf -/
def inv_w_FnExactFactOf_0 (p0 : MForest) (p1 : Quest) (x11 : MFact) (x17 : MFact) (j0_0 : Bool) : St := mkT 82 [(2, .ptr (2, 0) 0 0), (3, .ptr (3, 0) 0 0), (6, .ptr (6, 0) 0 0), (8, .ptr (8, 0) 0 0), (53, .sc (.bool j0_0))] [((2, 0), some ⟨25, 2, [[.lst 2 (List.map mZoneV p0.zones), .lst 2 (List.map mPostV p0.posts)]], false, true⟩), ((3, 0), some ⟨39, 2, [[.sc (.string p1.name), .sc (.int .i64 p1.ty)]], false, true⟩), ((6, 0), some ⟨79, 4, [[.sc (.int .i64 x11.code), .ref (27, 1) 0 x11.links.length, .ref (27, 2) 0 x11.l.length, .sc (.bool x11.fin)]], false, true⟩), ((27, 1), some ⟨105, 6, List.map recV x11.links, false, true⟩), ((27, 2), some ⟨105, 6, List.map recV x11.l, false, true⟩), ((8, 0), some ⟨79, 4, [[.sc (.int .i64 x17.code), .ref (33, 1) 0 x17.links.length, .ref (33, 2) 0 x17.l.length, .sc (.bool x17.fin)]], false, true⟩), ((33, 1), some ⟨105, 6, List.map recV x17.links, false, true⟩), ((33, 2), some ⟨105, 6, List.map recV x17.l, false, true⟩)]
set_option maxRecDepth 4000 in
set_option maxHeartbeats 800000 in
theorem ww_FnExactFactOf (p0 : MForest) (p1 : Quest) (r0 : Bool) (h : w_FnExactFactOf p0 p1 = some r0) : Runs Tryd.prog 14 [.agg (mForestV p0), .agg (questV p1)] [] (.sc (.bool r0)) [] := by
  unfold w_FnExactFactOf at h
  refine runsR [.tmp 4] Tryd.func14 rfl rfl rfl rfl ?_
  rw [Tryd.ntmps14]
  refine tri_seq ?_
  refine tri_region ?_
  refine s_box rfl rfl rfl rfl rfl rfl rfl ?_
  refine s_box rfl rfl rfl rfl rfl rfl rfl ?_
  refine s_mv (.inr rfl) (v := .sc (.bool false)) rfl rfl rfl rfl ?_
  refine rt_nil ?_
  refine tri_seq ?_
  refine tri_region ?_
  refine s_mv (.inr rfl) (v := .sc (.int .i64 1048576)) rfl rfl rfl rfl ?_
  refine rt_nil ?_
  refine tri_seq ?_
  refine tri_region ?_
  refine s_loadR rfl rfl rfl rfl ty25 rfl rfl rfl ?_
  refine s_mv (.inl rfl) (by conv => lhs; whnf) rfl rfl rfl ?_
  refine bnd1_elim h fun x1 q2 h => ?_
  refine s_callN (kb := []) (ns := []) (v := .sc (.int .i64 x1)) rfl rfl cl15 (ww_szForest p0 1048576 x1 q2) rfl (.cons (relAgg rfl) (.cons (.free rfl) .nil)) trivial memNil .nil memNil rfl trivial memNil rfl rfl rfl rfl rfl rfl ?_
  refine s_mv (.inr rfl) (by conv => lhs; whnf) rfl rfl rfl ?_
  refine rt_nil ?_
  refine tri_seq ?_
  refine tri_seq ?_
  refine tri_region ?_
  refine s_mv (.inl rfl) (by conv => lhs; whnf) rfl rfl rfl ?_
  refine s_of (st_lss rfl rfl rfl) rfl rfl rfl rfl ?_
  refine rt_nil ?_
  refine tri_cond rfl (fun c3 => ?_) (fun c3 => ?_)
  · replace h := cond_t h c3
    refine tri_seq ?_
    refine tri_region ?_
    refine s_mv (.inr rfl) (v := .sc (.bool true)) rfl rfl rfl rfl ?_
    refine rt_nil ?_
    refine tri_ret ?_
    have e0 := (some1 h); subst e0
    exact endY [] [] (rvC (resTmp rfl) rvN) trivial trivial rfl rfl rfl rfl (.free rfl)
  · replace h := cond_f h c3
    refine tri_skip ?_
    refine tri_seq ?_
    refine tri_region ?_
    refine s_loadR rfl rfl rfl rfl ty39 rfl rfl rfl ?_
    refine s_mv (.inl rfl) (by conv => lhs; whnf) rfl rfl rfl ?_
    refine bnd1_elim h fun x4 q5 h => ?_
    refine s_callN (kb := []) (ns := []) (v := .sc (.int .i64 x4)) rfl rfl cl21 (ww_szQuest p1 x1 x4 q5) rfl (.cons (relAgg rfl) (.cons (.free rfl) .nil)) trivial memNil .nil memNil rfl trivial memNil rfl rfl rfl rfl rfl rfl ?_
    refine s_mv (.inr rfl) (by conv => lhs; whnf) rfl rfl rfl ?_
    refine rt_nil ?_
    refine tri_seq ?_
    refine tri_seq ?_
    refine tri_region ?_
    refine s_mv (.inl rfl) (by conv => lhs; whnf) rfl rfl rfl ?_
    refine s_of (st_lss rfl rfl rfl) rfl rfl rfl rfl ?_
    refine rt_nil ?_
    refine tri_cond rfl (fun c6 => ?_) (fun c6 => ?_)
    · replace h := cond_t h c6
      refine tri_seq ?_
      refine tri_region ?_
      refine s_mv (.inr rfl) (v := .sc (.bool true)) rfl rfl rfl rfl ?_
      refine rt_nil ?_
      refine tri_ret ?_
      have e0 := (some1 h); subst e0
      exact endY [] [] (rvC (resTmp rfl) rvN) trivial trivial rfl rfl rfl rfl (.free rfl)
    · replace h := cond_f h c6
      refine tri_skip ?_
      refine tri_seq ?_
      refine tri_draw mixed ?_
      refine s_loadR rfl rfl rfl rfl ty25 rfl rfl rfl ?_
      refine bnd1_elim h fun x7 q8 h => ?_
      refine s_callZ (kb := []) (ns := []) (v := .agg [.ref (24, 0) 0 x7.zones.length, .ref (24, 1) 0 x7.posts.length]) rfl rfl cl17 (ww_toForest p0 x7 q8) rfl (.cons (relAgg rfl) .nil) trivial memNil .nil memNil trivial rfl ⟨(allFree_map mZoneV_free), ⟨(allFree_map mPostV_free), trivial⟩⟩ memNil rfl (by first | (simp only [V.mat, V.mat1, V.mat0, matL, matT, List.length_map]; done) | (simp only [V.mat, V.mat1, V.mat0, matL, matT, List.length_map]; rfl)) rfl rfl rfl rfl ?_
      refine s_loadR rfl rfl rfl rfl ty39 rfl rfl rfl ?_
      refine bnd1_elim h fun x9 q10 h => ?_
      refine s_callN (kb := []) (ns := []) (v := .agg (questV x9)) rfl rfl cl24 (ww_toQuest p1 x9 q10) rfl (.cons (relAgg rfl) .nil) trivial memNil .nil memNil rfl trivial memNil rfl rfl rfl rfl rfl rfl ?_
      refine bnd1_elim h fun x11 q12 h => ?_
      refine s_callN (kb := [(24, 0), (24, 1)]) (ns := []) (v := .agg [.sc (.int .i64 x11.code), .ref (27, 1) 0 x11.links.length, .ref (27, 2) 0 x11.l.length, .sc (.bool x11.fin)]) rfl rfl cl58 (ws_FactOf x7 x9 x11 q12) rfl (.cons (relAggL (.cons (lendL rfl (.head _) rfl mZoneV_free mZoneV_len) (.cons (lendL rfl (.tail _ (.head _)) rfl mPostV_free mPostV_len) .nil))) (.cons (relAgg rfl) .nil)) trivial memNil .nil (fun _ _ => List.not_mem_nil) rfl ⟨(allSc_map recV_sc), ⟨(allSc_map recV_sc), trivial⟩⟩ memNil rfl (by first | (simp only [V.mat, V.mat1, V.mat0, matL, matT, List.length_map]; done) | (simp only [V.mat, V.mat1, V.mat0, matL, matT, List.length_map]; rfl)) rfl rfl rfl rfl ?_
      refine s_alloc rfl rfl rfl zc79 rfl rfl rfl rfl rfl ?_
      refine s_storeB rfl rfl rfl ty79 rfl rfl rfl rfl rfl ?_
      refine rt_nil ⟨by kernel_rfl, ?_⟩
      refine tri_seq ?_
      refine tri_region ?_
      refine s_loadR rfl rfl rfl rfl ty25 rfl rfl rfl ?_
      refine bnd1_elim h fun x13 q14 h => ?_
      refine s_callRt (kb := []) (os' := [(0, ⟨45, 2, nr 29 mZoneN 10000 x13.zones, false, true⟩), (1, ⟨102, 2, List.map mPostV x13.posts, false, true⟩)]) (y := .agg [.ref (29, 0) 0 x13.zones.length, .ref (29, 1) 0 x13.posts.length]) rfl rfl cl17 (wRw_toForest p0 x13 q14) rfl (.cons (relAgg rfl) .nil) (.cons (outRows mZoneN_z (fun i x hx => (.cons retSc (.cons (.own (owns_at (by rw [List.length_map]; exact (List.getElem?_eq_some_iff.1 hx).1))) .nil)))) id (.cons (outSame (E := ⟨102, 2, List.map mPostV x13.posts, false, true⟩) (m := true) (allSc_map mPostV_sc) (rowsZ_map mPostV_len)) id .nil)) (fun x => allSc_map recV_sc) mZoneG_z (RetL.agg (.cons (.own rfl) (.cons (.own rfl) .nil))) (fun q E h => by simp only [List.mem_cons, List.not_mem_nil, or_false, Prod.mk.injEq] at h; rcases h with ⟨rfl, -⟩ | ⟨rfl, -⟩ <;> exact rfl) (fun i => rfl) rfl rfl rfl ?_
      refine s_alloc rfl rfl (by repeat (first | exact rfl | exact famNo rfl rfl | refine lkNo rfl ?_)) zc31 rfl rfl rfl rfl rfl ?_
      refine s_storeB rfl rfl rfl ty31 rfl rfl rfl rfl rfl ?_
      refine rt_nil ?_
      refine tri_seq ?_
      refine tri_draw mixed ?_
      refine s_loadR rfl rfl rfl rfl ty31 rfl rfl rfl ?_
      refine s_loadR rfl rfl rfl rfl ty39 rfl rfl rfl ?_
      refine bnd1_elim h fun x15 q16 h => ?_
      refine s_callN (kb := []) (ns := []) (v := .agg (questV x15)) rfl rfl cl24 (ww_toQuest p1 x15 q16) rfl (.cons (relAgg rfl) .nil) trivial memNil .nil memNil rfl trivial memNil rfl rfl rfl rfl rfl rfl ?_
      refine bnd1_elim h fun x17 q18 h => ?_
      refine s_callN (kb := [(29, 0), (29, 1)] ++ famN 29 10000 x13.zones.length) (ns := []) (v := .agg [.sc (.int .i64 x17.code), .ref (33, 1) 0 x17.links.length, .ref (33, 2) 0 x17.l.length, .sc (.bool x17.fin)]) rfl rfl cl59 (wi_FactOf x13 x15 x17 q18) rfl (.cons (relAggL (.cons (lendN (a := 29) (b := 10000) (f := mZoneN) (g := mZoneG) rfl (List.mem_append_left _ (.head _)) rfl (fun i x hx => ⟨List.mem_append_right _ (famN_iff.2 ⟨i, (List.getElem?_eq_some_iff.1 hx).1, rfl⟩), (by repeat (first | exact fam_lk (by rw [List.getElem?_map, hx]; rfl) | refine lkTo rfl ?_))⟩) (fun m x hm hl => (.cons (.free rfl) (.cons (lendL hl hm rfl recV_free recV_len) .nil))) mZoneV_free mZoneV_len) (.cons (lendL rfl (List.mem_append_left _ (.tail _ (.head _))) rfl mPostV_free mPostV_len) .nil))) (.cons (relAgg rfl) .nil)) trivial memNil .nil (fun _ _ => List.not_mem_nil) rfl ⟨(allSc_map recV_sc), ⟨(allSc_map recV_sc), trivial⟩⟩ memNil (habC (by repeat (first | exact rfl | exact famNo rfl rfl | refine lkNo rfl ?_)) (habC (by repeat (first | exact rfl | exact famNo rfl rfl | refine lkNo rfl ?_)) habN)) (by first | (simp only [V.mat, V.mat1, V.mat0, matL, matT, List.length_map]; done) | (simp only [V.mat, V.mat1, V.mat0, matL, matT, List.length_map]; rfl)) rfl rfl rfl rfl ?_
      refine s_alloc rfl rfl (by repeat (first | exact rfl | exact famNo rfl rfl | refine lkNo rfl ?_)) zc79 rfl rfl rfl rfl rfl ?_
      refine s_storeB rfl rfl rfl ty79 rfl rfl rfl rfl rfl ?_
      refine rt_nil ⟨drawCov (W := [29]) (by kernel_rfl) (covS rfl (covS rfl (covS rfl (covM (rs' := [(29, 0), (29, 1)]) rfl (fun m hm => cov_fam (rs := [(29, 0), (29, 1)]) (a := 29) (b := 10000) (k := x13.zones.length) (by decide) (.head _) m hm) (covS rfl (covS rfl .nil)))))), ?_⟩
      refine tri_seq ?_
      refine tri_seq ?_
      refine tri_region ?_
      refine s_loadR rfl rfl rfl rfl ty79 rfl rfl rfl ?_
      refine s_loadR rfl rfl rfl rfl ty79 rfl rfl rfl ?_
      refine bnd1_elim h fun x19 q20 h => ?_
      refine s_callN (kb := [(33, 1), (33, 2), (27, 1), (27, 2)]) (ns := []) (v := .sc (.bool x19)) rfl rfl cl60 (ww_eqFact x17 x11 x19 q20) rfl (.cons (relAggL (.cons (.free rfl) (.cons (lendL rfl (.head _) rfl recV_free recV_len) (.cons (lendL rfl (.tail _ (.head _)) rfl recV_free recV_len) (.cons (.free rfl) .nil))))) (.cons (relAggL (.cons (.free rfl) (.cons (lendL rfl (.tail _ (.tail _ (.head _))) rfl recV_free recV_len) (.cons (lendL rfl (.tail _ (.tail _ (.tail _ (.head _)))) rfl recV_free recV_len) (.cons (.free rfl) .nil))))) .nil)) trivial memNil .nil (fun _ _ => List.not_mem_nil) rfl trivial memNil rfl rfl rfl rfl rfl rfl ?_
      refine s_of (st_not rfl rfl) rfl rfl rfl rfl ?_
      refine rt_nil ?_
      refine tri_cond rfl (fun c21 => ?_) (fun c21 => ?_)
      · replace h := cond_t h c21
        refine tri_seq ?_
        refine tri_region ?_
        refine s_mv (.inr rfl) (v := .sc (.bool false)) rfl rfl rfl rfl ?_
        refine rt_nil ?_
        refine tri_ret ?_
        have e0 := (some1 h); subst e0
        exact endY [] [] (rvC (resTmp rfl) rvN) trivial trivial rfl (by repeat (first | exact itb_nil | refine itb_cons rfl ?_ | refine itb_fam rfl ?_)) rfl rfl (.free rfl)
      · replace h := cond_f h c21
        refine tri_skip ?_
        refine tri_seq ?_
        refine tri_seq ?_
        refine tri_draw mixed ?_
        refine s_loadR rfl rfl rfl rfl ty31 rfl rfl rfl ?_
        refine s_loadR rfl rfl rfl rfl ty25 rfl rfl rfl ?_
        refine bnd1_elim h fun x22 q23 h => ?_
        refine s_callZ (kb := []) (ns := []) (v := .agg [.ref (40, 0) 0 x22.zones.length, .ref (40, 1) 0 x22.posts.length]) rfl rfl cl17 (ww_toForest p0 x22 q23) rfl (.cons (relAgg rfl) .nil) trivial memNil .nil memNil trivial rfl ⟨(allFree_map mZoneV_free), ⟨(allFree_map mPostV_free), trivial⟩⟩ memNil (habC (by repeat (first | exact rfl | exact famNo rfl rfl | refine lkNo rfl ?_)) (habC (by repeat (first | exact rfl | exact famNo rfl rfl | refine lkNo rfl ?_)) habN)) (by first | (simp only [V.mat, V.mat1, V.mat0, matL, matT, List.length_map]; done) | (simp only [V.mat, V.mat1, V.mat0, matL, matT, List.length_map]; rfl)) rfl rfl rfl rfl ?_
        refine bnd1_elim h fun x24 q25 h => ?_
        refine s_callN (kb := [(29, 0), (29, 1), (40, 0), (40, 1)] ++ famN 29 10000 x13.zones.length) (ns := []) (v := .sc (.bool x24)) rfl rfl cl19 (ww_eqForest x13 x22 x24 q25) rfl (.cons (relAggL (.cons (lendN (a := 29) (b := 10000) (f := mZoneN) (g := mZoneG) rfl (List.mem_append_left _ (.head _)) rfl (fun i x hx => ⟨List.mem_append_right _ (famN_iff.2 ⟨i, (List.getElem?_eq_some_iff.1 hx).1, rfl⟩), (by repeat (first | exact fam_lk (by rw [List.getElem?_map, hx]; rfl) | refine lkTo rfl ?_))⟩) (fun m x hm hl => (.cons (.free rfl) (.cons (lendL hl hm rfl recV_free recV_len) .nil))) mZoneV_free mZoneV_len) (.cons (lendL rfl (List.mem_append_left _ (.tail _ (.head _))) rfl mPostV_free mPostV_len) .nil))) (.cons (relAggL (.cons (lendL rfl (List.mem_append_left _ (.tail _ (.tail _ (.head _)))) rfl mZoneV_free mZoneV_len) (.cons (lendL rfl (List.mem_append_left _ (.tail _ (.tail _ (.tail _ (.head _))))) rfl mPostV_free mPostV_len) .nil))) .nil)) trivial memNil .nil (fun _ _ => List.not_mem_nil) rfl trivial memNil rfl rfl rfl rfl rfl rfl ?_
        refine s_of (st_not rfl rfl) rfl rfl rfl rfl ?_
        refine rt_nil ⟨drawCov (W := [29]) (by kernel_rfl) (covS rfl (covS rfl (covS rfl (covM (rs' := [(29, 0), (29, 1), (40, 0), (40, 1)]) rfl (fun m hm => cov_fam (rs := [(29, 0), (29, 1), (40, 0), (40, 1)]) (a := 29) (b := 10000) (k := x13.zones.length) (by decide) (.head _) m hm) (covS rfl .nil))))), ?_⟩
        refine tri_cond rfl (fun c26 => ?_) (fun c26 => ?_)
        · replace h := cond_t h c26
          refine tri_seq ?_
          refine tri_region ?_
          refine s_mv (.inr rfl) (v := .sc (.bool false)) rfl rfl rfl rfl ?_
          refine rt_nil ?_
          refine tri_ret ?_
          have e0 := (some1 h); subst e0
          exact endY [] [] (rvC (resTmp rfl) rvN) trivial trivial rfl (by repeat (first | exact itb_nil | refine itb_cons rfl ?_ | refine itb_fam rfl ?_)) rfl rfl (.free rfl)
        · replace h := cond_f h c26
          refine tri_skip ?_
          refine tri_seq ?_
          refine tri_region ?_
          refine s_mv (.inr rfl) (v := .sc (.int .i64 1)) rfl rfl rfl rfl ?_
          refine rt_nil ?_
          refine tri_seq ?_
          refine Tri.ent (st' := mkT 82 [(2, .ptr (2, 0) 0 0), (3, .ptr (3, 0) 0 0), (6, .ptr (6, 0) 0 0), (7, .ptr (7, 0) 0 0), (8, .ptr (8, 0) 0 0), (9, .sc (.int .i64 1))] ([((2, 0), some ⟨25, 2, [[.lst 2 (List.map mZoneV p0.zones), .lst 2 (List.map mPostV p0.posts)]], false, true⟩), ((3, 0), some ⟨39, 2, [[.sc (.string p1.name), .sc (.int .i64 p1.ty)]], false, true⟩), ((6, 0), some ⟨79, 4, [[.sc (.int .i64 x11.code), .ref (27, 1) 0 x11.links.length, .ref (27, 2) 0 x11.l.length, .sc (.bool x11.fin)]], false, true⟩), ((27, 1), some ⟨105, 6, List.map recV x11.links, false, true⟩), ((27, 2), some ⟨105, 6, List.map recV x11.l, false, true⟩), ((7, 0), some ⟨31, 2, [[.ref (29, 0) 0 x13.zones.length, .ref (29, 1) 0 x13.posts.length]], false, true⟩), ((29, 0), some ⟨45, 2, nr 29 mZoneN 10000 x13.zones, false, true⟩), ((29, 1), some ⟨102, 2, List.map mPostV x13.posts, false, true⟩), ((8, 0), some ⟨79, 4, [[.sc (.int .i64 x17.code), .ref (33, 1) 0 x17.links.length, .ref (33, 2) 0 x17.l.length, .sc (.bool x17.fin)]], false, true⟩), ((33, 1), some ⟨105, 6, List.map recV x17.links, false, true⟩), ((33, 2), some ⟨105, 6, List.map recV x17.l, false, true⟩)] ++ (fam 29 10000 (List.map mZoneG x13.zones) ++ []))) ?_ ?_
          · skip
            refine entK (items := [((2, 0), ⟨25, 2, [[.lst 2 (List.map mZoneV p0.zones), .lst 2 (List.map mPostV p0.posts)]], false, true⟩, some (2, 0)), ((3, 0), ⟨39, 2, [[.sc (.string p1.name), .sc (.int .i64 p1.ty)]], false, true⟩, some (3, 0)), ((6, 0), ⟨79, 4, [[.sc (.int .i64 x11.code), .ref (27, 1) 0 x11.links.length, .ref (27, 2) 0 x11.l.length, .sc (.bool x11.fin)]], false, true⟩, some (6, 0)), ((27, 1), ⟨105, 6, List.map recV x11.links, false, true⟩, some (27, 1)), ((27, 2), ⟨105, 6, List.map recV x11.l, false, true⟩, some (27, 2)), ((7, 0), ⟨31, 2, [[.ref (29, 0) 0 x13.zones.length, .ref (29, 1) 0 x13.posts.length]], false, true⟩, some (7, 0)), ((29, 0), ⟨45, 2, nr 29 mZoneN 10000 x13.zones, false, true⟩, some (29, 0)), ((29, 1), ⟨102, 2, List.map mPostV x13.posts, false, true⟩, some (29, 1)), ((8, 0), ⟨79, 4, [[.sc (.int .i64 x17.code), .ref (33, 1) 0 x17.links.length, .ref (33, 2) 0 x17.l.length, .sc (.bool x17.fin)]], false, true⟩, some (8, 0)), ((33, 1), ⟨105, 6, List.map recV x17.links, false, true⟩, some (33, 1)), ((33, 2), ⟨105, 6, List.map recV x17.l, false, true⟩, some (33, 2))]) (D := []) (a := 29) (b := 10000) (l := x13.zones) (g := mZoneG) ⟨⟨rfl, _, rfl, rfl, rfl, rfl, id, rowsCv_one (.cons (.free rfl) (.cons (.free rfl) .nil)), rowsZ_one rfl⟩, ⟨rfl, _, rfl, rfl, rfl, rfl, id, rowsCv_one (.cons (.free rfl) (.cons (.free rfl) .nil)), rowsZ_one rfl⟩, ⟨rfl, _, rfl, rfl, rfl, rfl, id, rowsCv_one (.cons (.free rfl) (.cons (.ref rfl) (.cons (.ref rfl) (.cons (.free rfl) .nil)))), rowsZ_one rfl⟩, ⟨rfl, _, rfl, rfl, rfl, rfl, id, rowsCv_eq rfl (allFree_map recV_free), rowsZ_map recV_len⟩, ⟨rfl, _, rfl, rfl, rfl, rfl, id, rowsCv_eq rfl (allFree_map recV_free), rowsZ_map recV_len⟩, ⟨rfl, _, rfl, rfl, rfl, rfl, id, rowsCv_one (.cons (.ref rfl) (.cons (.ref rfl) .nil)), rowsZ_one rfl⟩, ⟨rfl, _, rfl, rfl, rfl, rfl, id, rowsCv_fam (fun x h => mZoneN_cv x h), nr_rowsZ mZoneN_z⟩, ⟨rfl, _, rfl, rfl, rfl, rfl, id, rowsCv_eq rfl (allFree_map mPostV_free), rowsZ_map mPostV_len⟩, ⟨rfl, _, rfl, rfl, rfl, rfl, id, rowsCv_one (.cons (.free rfl) (.cons (.ref rfl) (.cons (.ref rfl) (.cons (.free rfl) .nil)))), rowsZ_one rfl⟩, ⟨rfl, _, rfl, rfl, rfl, rfl, id, rowsCv_eq rfl (allFree_map recV_free), rowsZ_map recV_len⟩, ⟨rfl, _, rfl, rfl, rfl, rfl, id, rowsCv_eq rfl (allFree_map recV_free), rowsZ_map recV_len⟩, trivial⟩ trivial rfl rfl rfl rfl (fun j y hy => (by repeat (first | exact fam_lk (by rw [List.getElem?_map, hy]; rfl) | refine lkTo rfl ?_))) mZoneG_f mZoneG_z (fun j => (by repeat (first | exact rfl | exact famNo rfl rfl | refine lkNo rfl ?_))) ?_
            exact ⟨(.ptr rfl), (.ptr rfl), (.ptr rfl), (.ptr rfl), (.ptr rfl), (.free rfl), trivial⟩
          refine tri_region ?_
          refine s_loadR rfl rfl rfl rfl ty31 rfl rfl rfl ?_
          refine s_mv (.inl rfl) (by conv => lhs; whnf) rfl rfl rfl ?_
          refine bnd3_elim h fun x27 x28 x29 q30 h => ?_
          refine grd_elim h fun g31 h => ?_
          refine grd_elim h fun g32 h => ?_
          refine s_callMp (A := [((2, 0), some ⟨25, 2, [[.lst 2 (List.map mZoneV p0.zones), .lst 2 (List.map mPostV p0.posts)]], false, true⟩), ((3, 0), some ⟨39, 2, [[.sc (.string p1.name), .sc (.int .i64 p1.ty)]], false, true⟩), ((6, 0), some ⟨79, 4, [[.sc (.int .i64 x11.code), .ref (27, 1) 0 x11.links.length, .ref (27, 2) 0 x11.l.length, .sc (.bool x11.fin)]], false, true⟩), ((27, 1), some ⟨105, 6, List.map recV x11.links, false, true⟩), ((27, 2), some ⟨105, 6, List.map recV x11.l, false, true⟩), ((7, 0), some ⟨31, 2, [[.ref (29, 0) 0 x13.zones.length, .ref (29, 1) 0 x13.posts.length]], false, true⟩), ((29, 0), some ⟨45, 2, nr 29 mZoneN 10000 x13.zones, false, true⟩), ((29, 1), some ⟨102, 2, List.map mPostV x13.posts, false, true⟩), ((8, 0), some ⟨79, 4, [[.sc (.int .i64 x17.code), .ref (33, 1) 0 x17.links.length, .ref (33, 2) 0 x17.l.length, .sc (.bool x17.fin)]], false, true⟩), ((33, 1), some ⟨105, 6, List.map recV x17.links, false, true⟩), ((33, 2), some ⟨105, 6, List.map recV x17.l, false, true⟩)]) (l := x13.zones) (l' := x28) (X := ⟨102, 2, List.map mPostV x13.posts, false, true⟩) (X' := ⟨102, 2, List.map mPostV x29, false, true⟩) (gm := mZoneG) (fN := mZoneN) (dn := (29, 0)) (pn := (29, 1)) (a := 29) (b := 10000) (s := false) (mi := true) rfl rfl cl40 (wRw_markForest x13 1 x27 x28 x29 q30) g31 rfl (.cons (relAggL (.cons (.refOwn rfl) (.cons (.refOwn rfl) .nil))) (.cons (.free rfl) .nil)) rfl rfl (fun j => rfl) (fun k => rfl) (fun k => rfl) rfl mZoneN_z (fun x hm => (.cons (.free rfl) (.cons (.refOwn hm) .nil))) (fun x hm => (.cons retSc (.cons (.inn hm) .nil))) (fun x => allSc_map recV_sc) mZoneG_f mZoneG_z (fun _ _ => rfl) (allFree_map mPostV_free) (rowsZ_map mPostV_len) (allSc_map mPostV_sc) (rowsZ_map mPostV_len) rfl rfl rfl rfl rfl ?_
          refine s_mv (.inr rfl) (by conv => lhs; whnf) rfl rfl rfl ?_
          refine rt_nil ?_
          refine tri_seq ?_
          refine tri_cutI (ι := { p : Bool // w_FnExactFactOf_j0 p0 p1 x11 x17 p = some r0 }) (fun p => inv_w_FnExactFactOf_0 p0 p1 x11 x17 p.1) ?_ ?_
          · skip
            refine tri_region ?_
            refine s_mv (.inl rfl) (by conv => lhs; whnf) rfl rfl rfl ?_
            refine s_of (st_lss rfl rfl rfl) rfl rfl rfl rfl ?_
            refine s_mv (.inl rfl) (by conv => lhs; whnf) rfl rfl rfl ?_
            refine s_split (t := 48) rfl (fun b33 => ?_) (fun b33 => ?_)
            · replace h := cond_t h b33
              refine s_skip rfl rfl rfl ?_
              refine s_skip rfl rfl rfl ?_
              refine s_skip rfl rfl rfl ?_
              refine s_skip rfl rfl rfl ?_
              refine s_pickT rfl rfl (v := .sc (.bool true)) rfl rfl rfl rfl ?_
              refine rt_nil ?_
              refine Exists.intro ⟨true, h⟩ ?_
              refine entX [((2, 0), ⟨25, 2, [[.lst 2 (List.map mZoneV p0.zones), .lst 2 (List.map mPostV p0.posts)]], false, true⟩, some (2, 0)), ((3, 0), ⟨39, 2, [[.sc (.string p1.name), .sc (.int .i64 p1.ty)]], false, true⟩, some (3, 0)), ((6, 0), ⟨79, 4, [[.sc (.int .i64 x11.code), .ref (27, 1) 0 x11.links.length, .ref (27, 2) 0 x11.l.length, .sc (.bool x11.fin)]], false, true⟩, some (6, 0)), ((27, 1), ⟨105, 6, List.map recV x11.links, false, true⟩, some (27, 1)), ((27, 2), ⟨105, 6, List.map recV x11.l, false, true⟩, some (27, 2)), ((8, 0), ⟨79, 4, [[.sc (.int .i64 x17.code), .ref (33, 1) 0 x17.links.length, .ref (33, 2) 0 x17.l.length, .sc (.bool x17.fin)]], false, true⟩, some (8, 0)), ((33, 1), ⟨105, 6, List.map recV x17.links, false, true⟩, some (33, 1)), ((33, 2), ⟨105, 6, List.map recV x17.l, false, true⟩, some (33, 2))] [] ⟨⟨rfl, _, rfl, rfl, rfl, rfl, id, rowsCv_one (.cons (.free rfl) (.cons (.free rfl) .nil)), rowsZ_one rfl⟩, ⟨rfl, _, rfl, rfl, rfl, rfl, id, rowsCv_one (.cons (.free rfl) (.cons (.free rfl) .nil)), rowsZ_one rfl⟩, ⟨rfl, _, rfl, rfl, rfl, rfl, id, rowsCv_one (.cons (.free rfl) (.cons (.ref rfl) (.cons (.ref rfl) (.cons (.free rfl) .nil)))), rowsZ_one rfl⟩, ⟨rfl, _, rfl, rfl, rfl, rfl, id, rowsCv_eq rfl (allFree_map recV_free), rowsZ_map recV_len⟩, ⟨rfl, _, rfl, rfl, rfl, rfl, id, rowsCv_eq rfl (allFree_map recV_free), rowsZ_map recV_len⟩, ⟨rfl, _, rfl, rfl, rfl, rfl, id, rowsCv_one (.cons (.free rfl) (.cons (.ref rfl) (.cons (.ref rfl) (.cons (.free rfl) .nil)))), rowsZ_one rfl⟩, ⟨rfl, _, rfl, rfl, rfl, rfl, id, rowsCv_eq rfl (allFree_map recV_free), rowsZ_map recV_len⟩, ⟨rfl, _, rfl, rfl, rfl, rfl, id, rowsCv_eq rfl (allFree_map recV_free), rowsZ_map recV_len⟩, trivial⟩ trivial rfl (by repeat (first | exact itb_nil | refine itb_cons rfl ?_ | refine itb_fam rfl ?_)) ?_
              exact ⟨(.ptr rfl), (.ptr rfl), (.ptr rfl), (.ptr rfl), (.free rfl), trivial⟩
            · replace h := cond_f h b33
              refine s_loadR rfl rfl rfl rfl ty79 rfl rfl rfl ?_
              refine s_loadR rfl rfl rfl rfl ty79 rfl rfl rfl ?_
              refine bnd1_elim h fun x34 q35 h => ?_
              refine s_callN (kb := [(33, 1), (33, 2), (27, 1), (27, 2)]) (ns := []) (v := .sc (.bool x34)) rfl rfl cl60 (ww_eqFact x17 x11 x34 q35) rfl (.cons (relAggL (.cons (.free rfl) (.cons (lendL rfl (.head _) rfl recV_free recV_len) (.cons (lendL rfl (.tail _ (.head _)) rfl recV_free recV_len) (.cons (.free rfl) .nil))))) (.cons (relAggL (.cons (.free rfl) (.cons (lendL rfl (.tail _ (.tail _ (.head _))) rfl recV_free recV_len) (.cons (lendL rfl (.tail _ (.tail _ (.tail _ (.head _)))) rfl recV_free recV_len) (.cons (.free rfl) .nil))))) .nil)) trivial memNil .nil (fun _ _ => List.not_mem_nil) rfl trivial memNil rfl rfl rfl rfl rfl rfl ?_
              refine s_of (st_not rfl rfl) rfl rfl rfl rfl ?_
              refine s_pickF rfl rfl (by conv => lhs; whnf) rfl rfl rfl ?_
              refine rt_nil ?_
              refine Exists.intro ⟨!x34, h⟩ ?_
              refine entX [((2, 0), ⟨25, 2, [[.lst 2 (List.map mZoneV p0.zones), .lst 2 (List.map mPostV p0.posts)]], false, true⟩, some (2, 0)), ((3, 0), ⟨39, 2, [[.sc (.string p1.name), .sc (.int .i64 p1.ty)]], false, true⟩, some (3, 0)), ((6, 0), ⟨79, 4, [[.sc (.int .i64 x11.code), .ref (27, 1) 0 x11.links.length, .ref (27, 2) 0 x11.l.length, .sc (.bool x11.fin)]], false, true⟩, some (6, 0)), ((27, 1), ⟨105, 6, List.map recV x11.links, false, true⟩, some (27, 1)), ((27, 2), ⟨105, 6, List.map recV x11.l, false, true⟩, some (27, 2)), ((8, 0), ⟨79, 4, [[.sc (.int .i64 x17.code), .ref (33, 1) 0 x17.links.length, .ref (33, 2) 0 x17.l.length, .sc (.bool x17.fin)]], false, true⟩, some (8, 0)), ((33, 1), ⟨105, 6, List.map recV x17.links, false, true⟩, some (33, 1)), ((33, 2), ⟨105, 6, List.map recV x17.l, false, true⟩, some (33, 2))] [] ⟨⟨rfl, _, rfl, rfl, rfl, rfl, id, rowsCv_one (.cons (.free rfl) (.cons (.free rfl) .nil)), rowsZ_one rfl⟩, ⟨rfl, _, rfl, rfl, rfl, rfl, id, rowsCv_one (.cons (.free rfl) (.cons (.free rfl) .nil)), rowsZ_one rfl⟩, ⟨rfl, _, rfl, rfl, rfl, rfl, id, rowsCv_one (.cons (.free rfl) (.cons (.ref rfl) (.cons (.ref rfl) (.cons (.free rfl) .nil)))), rowsZ_one rfl⟩, ⟨rfl, _, rfl, rfl, rfl, rfl, id, rowsCv_eq rfl (allFree_map recV_free), rowsZ_map recV_len⟩, ⟨rfl, _, rfl, rfl, rfl, rfl, id, rowsCv_eq rfl (allFree_map recV_free), rowsZ_map recV_len⟩, ⟨rfl, _, rfl, rfl, rfl, rfl, id, rowsCv_one (.cons (.free rfl) (.cons (.ref rfl) (.cons (.ref rfl) (.cons (.free rfl) .nil)))), rowsZ_one rfl⟩, ⟨rfl, _, rfl, rfl, rfl, rfl, id, rowsCv_eq rfl (allFree_map recV_free), rowsZ_map recV_len⟩, ⟨rfl, _, rfl, rfl, rfl, rfl, id, rowsCv_eq rfl (allFree_map recV_free), rowsZ_map recV_len⟩, trivial⟩ trivial rfl (by repeat (first | exact itb_nil | refine itb_cons rfl ?_ | refine itb_fam rfl ?_)) ?_
              exact ⟨(.ptr rfl), (.ptr rfl), (.ptr rfl), (.ptr rfl), (.free rfl), trivial⟩
          · rintro ⟨j0_0, h⟩
            replace h : w_FnExactFactOf_j0 p0 p1 x11 x17 j0_0 = some r0 := h
            unfold w_FnExactFactOf_j0 at h
            show Tri _ _ _ (inv_w_FnExactFactOf_0 p0 p1 x11 x17 j0_0)
            refine tri_cond rfl (fun c33 => ?_) (fun c33 => ?_)
            · replace h := cond_t h c33
              refine tri_seq ?_
              refine tri_region ?_
              refine s_mv (.inr rfl) (v := .sc (.bool false)) rfl rfl rfl rfl ?_
              refine rt_nil ?_
              refine tri_ret ?_
              have e0 := (some1 h); subst e0
              exact endY [] [] (rvC (resTmp rfl) rvN) trivial trivial rfl rfl rfl rfl (.free rfl)
            · replace h := cond_f h c33
              refine tri_skip ?_
              refine tri_seq ?_
              refine tri_region ?_
              refine s_mv (.inr rfl) (v := .sc (.int .i64 1)) rfl rfl rfl rfl ?_
              refine rt_nil ?_
              refine tri_seq ?_
              refine tri_region ?_
              refine s_loadR rfl rfl rfl rfl ty79 rfl rfl rfl ?_
              refine s_mv (.inl rfl) (by conv => lhs; whnf) rfl rfl rfl ?_
              refine bnd3_elim h fun x34 x35 x36 q37 h => ?_
              refine grd_elim h fun g38 h => ?_
              refine grd_elim h fun g39 h => ?_
              refine s_callN (kb := []) (ns := [(33, 1), (33, 2)]) (v := .sc (.int .i64 x34)) rfl rfl cl61 (ww_markFact x17 1 x34 x35 x36 q37) rfl (.cons (relAggL (.cons (.free rfl) (.cons (.refOwn rfl) (.cons (.refOwn rfl) (.cons (.free rfl) .nil))))) (.cons (.free rfl) .nil)) ⟨⟨_, rfl, rfl⟩, ⟨⟨_, rfl, rfl⟩, trivial⟩⟩ (memCons (allFree_map recV_free) (memCons (allFree_map recV_free) memNil)) (by decide) memNil rfl trivial (memCons (allSc_map recV_sc) (memCons (allSc_map recV_sc) memNil)) rfl rfl rfl rfl rfl rfl ?_
              refine s_mv (.inr rfl) (by conv => lhs; whnf) rfl rfl rfl ?_
              refine rt_nil ?_
              refine tri_seq ?_
              refine tri_region ?_
              refine s_mv (.inr rfl) (v := .sc (.int .i64 1)) rfl rfl rfl rfl ?_
              refine rt_nil ?_
              refine tri_seq ?_
              refine tri_region ?_
              refine s_loadR rfl rfl rfl rfl ty79 rfl rfl rfl ?_
              refine s_mv (.inl rfl) (by conv => lhs; whnf) rfl rfl rfl ?_
              refine bnd1_elim h fun x40 q41 h => ?_
              refine s_callN (kb := [(33, 1), (33, 2)]) (ns := []) (v := .sc (.int .i64 x40)) rfl rfl cl62 (ww_heldFact (MFact.mk x17.code x35 x36 x17.fin) 1 x40 q41) rfl (.cons (relAggL (.cons (.free rfl) (.cons (lendL rfl (.head _) (by simp only [List.length_set, g38]) recV_free recV_len) (.cons (lendL rfl (.tail _ (.head _)) (by simp only [List.length_set, g39]) recV_free recV_len) (.cons (.free rfl) .nil))))) (.cons (.free rfl) .nil)) trivial memNil .nil (fun _ _ => List.not_mem_nil) rfl trivial memNil rfl rfl rfl rfl rfl rfl ?_
              refine s_mv (.inr rfl) (by conv => lhs; whnf) rfl rfl rfl ?_
              refine rt_nil ?_
              refine tri_seq ?_
              refine tri_seq ?_
              refine tri_region ?_
              refine s_mv (.inl rfl) (by conv => lhs; whnf) rfl rfl rfl ?_
              refine s_of (st_lss rfl rfl rfl) rfl rfl rfl rfl ?_
              refine rt_nil ?_
              refine tri_cond rfl (fun c42 => ?_) (fun c42 => ?_)
              · replace h := cond_t h c42
                refine tri_seq ?_
                refine tri_region ?_
                refine s_mv (.inr rfl) (v := .sc (.bool false)) rfl rfl rfl rfl ?_
                refine rt_nil ?_
                refine tri_ret ?_
                have e0 := (some1 h); subst e0
                exact endY [] [] (rvC (resTmp rfl) rvN) trivial trivial rfl rfl rfl rfl (.free rfl)
              · replace h := cond_f h c42
                refine tri_skip ?_
                refine tri_seq ?_
                refine tri_seq ?_
                refine tri_region ?_
                refine s_mv (.inl rfl) (by conv => lhs; whnf) rfl rfl rfl ?_
                refine s_mv (.inl rfl) (by conv => lhs; whnf) rfl rfl rfl ?_
                refine s_of (st_neI rfl rfl rfl) rfl rfl rfl rfl ?_
                refine rt_nil ?_
                refine tri_cond rfl (fun c43 => ?_) (fun c43 => ?_)
                · replace h := cond_t h c43
                  refine tri_seq ?_
                  refine tri_region ?_
                  refine s_mv (.inr rfl) (v := .sc (.bool false)) rfl rfl rfl rfl ?_
                  refine rt_nil ?_
                  refine tri_ret ?_
                  have e0 := (some1 h); subst e0
                  exact endY [] [] (rvC (resTmp rfl) rvN) trivial trivial rfl rfl rfl rfl (.free rfl)
                · replace h := cond_f h c43
                  refine tri_skip ?_
                  refine tri_seq ?_
                  refine tri_draw mixed ?_
                  refine s_loadR rfl rfl rfl rfl ty25 rfl rfl rfl ?_
                  refine bnd1_elim h fun x44 q45 h => ?_
                  refine s_callZ (kb := []) (ns := []) (v := .agg [.ref (66, 0) 0 x44.zones.length, .ref (66, 1) 0 x44.posts.length]) rfl rfl cl17 (ww_toForest p0 x44 q45) rfl (.cons (relAgg rfl) .nil) trivial memNil .nil memNil trivial rfl ⟨(allFree_map mZoneV_free), ⟨(allFree_map mPostV_free), trivial⟩⟩ memNil rfl (by first | (simp only [V.mat, V.mat1, V.mat0, matL, matT, List.length_map]; done) | (simp only [V.mat, V.mat1, V.mat0, matL, matT, List.length_map]; rfl)) rfl rfl rfl rfl ?_
                  refine s_loadR rfl rfl rfl rfl ty39 rfl rfl rfl ?_
                  refine bnd1_elim h fun x46 q47 h => ?_
                  refine s_callN (kb := []) (ns := []) (v := .agg (questV x46)) rfl rfl cl24 (ww_toQuest p1 x46 q47) rfl (.cons (relAgg rfl) .nil) trivial memNil .nil memNil rfl trivial memNil rfl rfl rfl rfl rfl rfl ?_
                  refine bnd1_elim h fun x48 q49 h => ?_
                  refine s_callN (kb := [(66, 0), (66, 1)]) (ns := []) (v := .agg [.sc (.int .i64 x48.code), .ref (69, 1) 0 x48.links.length, .ref (69, 2) 0 x48.l.length, .sc (.bool x48.fin)]) rfl rfl cl59 (wi_FactOf x44 x46 x48 q49) rfl (.cons (relAggL (.cons (lendL rfl (.head _) rfl mZoneV_free mZoneV_len) (.cons (lendL rfl (.tail _ (.head _)) rfl mPostV_free mPostV_len) .nil))) (.cons (relAgg rfl) .nil)) trivial memNil .nil (fun _ _ => List.not_mem_nil) rfl ⟨(allSc_map recV_sc), ⟨(allSc_map recV_sc), trivial⟩⟩ memNil rfl (by first | (simp only [V.mat, V.mat1, V.mat0, matL, matT, List.length_map]; done) | (simp only [V.mat, V.mat1, V.mat0, matL, matT, List.length_map]; rfl)) rfl rfl rfl rfl ?_
                  refine s_alloc rfl rfl rfl zc79 rfl rfl rfl rfl rfl ?_
                  refine s_storeB rfl rfl rfl ty79 rfl rfl rfl rfl rfl ?_
                  refine rt_nil ⟨by kernel_rfl, ?_⟩
                  refine tri_seq ?_
                  refine tri_seq ?_
                  refine tri_region ?_
                  refine s_loadR rfl rfl rfl rfl ty79 rfl rfl rfl ?_
                  refine s_loadR rfl rfl rfl rfl ty79 rfl rfl rfl ?_
                  refine bnd1_elim h fun x50 q51 h => ?_
                  refine s_callN (kb := [(69, 1), (69, 2), (27, 1), (27, 2)]) (ns := []) (v := .sc (.bool x50)) rfl rfl cl60 (ww_eqFact x48 x11 x50 q51) rfl (.cons (relAggL (.cons (.free rfl) (.cons (lendL rfl (.head _) rfl recV_free recV_len) (.cons (lendL rfl (.tail _ (.head _)) rfl recV_free recV_len) (.cons (.free rfl) .nil))))) (.cons (relAggL (.cons (.free rfl) (.cons (lendL rfl (.tail _ (.tail _ (.head _))) rfl recV_free recV_len) (.cons (lendL rfl (.tail _ (.tail _ (.tail _ (.head _)))) rfl recV_free recV_len) (.cons (.free rfl) .nil))))) .nil)) trivial memNil .nil (fun _ _ => List.not_mem_nil) rfl trivial memNil rfl rfl rfl rfl rfl rfl ?_
                  refine s_of (st_not rfl rfl) rfl rfl rfl rfl ?_
                  refine rt_nil ?_
                  refine tri_cond rfl (fun c52 => ?_) (fun c52 => ?_)
                  · replace h := cond_t h c52
                    refine tri_seq ?_
                    refine tri_region ?_
                    refine s_mv (.inr rfl) (v := .sc (.bool false)) rfl rfl rfl rfl ?_
                    refine rt_nil ?_
                    refine tri_ret ?_
                    have e0 := (some1 h); subst e0
                    exact endY [] [] (rvC (resTmp rfl) rvN) trivial trivial rfl rfl rfl rfl (.free rfl)
                  · replace h := cond_f h c52
                    refine tri_skip ?_
                    refine tri_seq ?_
                    refine tri_region ?_
                    refine s_mv (.inr rfl) (v := .sc (.int .i64 1)) rfl rfl rfl rfl ?_
                    refine rt_nil ?_
                    refine tri_seq ?_
                    refine tri_region ?_
                    refine s_loadR rfl rfl rfl rfl ty79 rfl rfl rfl ?_
                    refine s_mv (.inl rfl) (by conv => lhs; whnf) rfl rfl rfl ?_
                    refine bnd1_elim h fun x53 q54 h => ?_
                    refine s_callN (kb := [(33, 1), (33, 2)]) (ns := []) (v := .sc (.int .i64 x53)) rfl rfl cl62 (ww_heldFact (MFact.mk x17.code x35 x36 x17.fin) 1 x53 q54) rfl (.cons (relAggL (.cons (.free rfl) (.cons (lendL rfl (.head _) (by simp only [List.length_set, g38]) recV_free recV_len) (.cons (lendL rfl (.tail _ (.head _)) (by simp only [List.length_set, g39]) recV_free recV_len) (.cons (.free rfl) .nil))))) (.cons (.free rfl) .nil)) trivial memNil .nil (fun _ _ => List.not_mem_nil) rfl trivial memNil rfl rfl rfl rfl rfl rfl ?_
                    refine s_mv (.inr rfl) (by conv => lhs; whnf) rfl rfl rfl ?_
                    refine rt_nil ?_
                    refine tri_seq ?_
                    refine tri_seq ?_
                    refine tri_region ?_
                    refine s_mv (.inl rfl) (by conv => lhs; whnf) rfl rfl rfl ?_
                    refine s_of (st_lss rfl rfl rfl) rfl rfl rfl rfl ?_
                    refine rt_nil ?_
                    refine tri_cond rfl (fun c55 => ?_) (fun c55 => ?_)
                    · replace h := cond_t h c55
                      refine tri_seq ?_
                      refine tri_region ?_
                      refine s_mv (.inr rfl) (v := .sc (.bool false)) rfl rfl rfl rfl ?_
                      refine rt_nil ?_
                      refine tri_ret ?_
                      have e0 := (some1 h); subst e0
                      exact endY [] [] (rvC (resTmp rfl) rvN) trivial trivial rfl rfl rfl rfl (.free rfl)
                    · replace h := cond_f h c55
                      refine tri_skip ?_
                      refine tri_seq ?_
                      refine tri_seq ?_
                      refine tri_region ?_
                      refine s_mv (.inl rfl) (by conv => lhs; whnf) rfl rfl rfl ?_
                      refine s_mv (.inl rfl) (by conv => lhs; whnf) rfl rfl rfl ?_
                      refine s_of (st_neI rfl rfl rfl) rfl rfl rfl rfl ?_
                      refine rt_nil ?_
                      refine tri_cond rfl (fun c56 => ?_) (fun c56 => ?_)
                      · replace h := cond_t h c56
                        refine tri_seq ?_
                        refine tri_region ?_
                        refine s_mv (.inr rfl) (v := .sc (.bool false)) rfl rfl rfl rfl ?_
                        refine rt_nil ?_
                        refine tri_ret ?_
                        have e0 := (some1 h); subst e0
                        exact endY [] [] (rvC (resTmp rfl) rvN) trivial trivial rfl rfl rfl rfl (.free rfl)
                      · replace h := cond_f h c56
                        refine tri_skip ?_
                        refine tri_seq ?_
                        refine tri_region ?_
                        refine s_mv (.inr rfl) (v := .sc (.bool true)) rfl rfl rfl rfl ?_
                        refine rt_nil ?_
                        refine tri_ret ?_
                        have e0 := (some1 h); subst e0
                        exact endY [] [] (rvC (resTmp rfl) rvN) trivial trivial rfl rfl rfl rfl (.free rfl)

end Go.Abs.M
