/- Walks of the functions that the law of Keep reaches: what each of them computes, where its pure function does not fail. -/
import Derived.Test.YtcdpmfnjajjlkaaDoorWalkKeep0
set_option linter.unusedSimpArgs false
set_option linter.unusedVariables false
namespace Go.Abs.M
open Go Go.Abs Go.Proofs
theorem cl108 : callable Tryd.prog 108 = true := by kernel_rfl
theorem cl115 : callable Tryd.prog 115 = true := by kernel_rfl
theorem cl116 : callable Tryd.prog 116 = true := by kernel_rfl
theorem cl117 : callable Tryd.prog 117 = true := by kernel_rfl
theorem cl118 : callable Tryd.prog 118 = true := by kernel_rfl
theorem cl119 : callable Tryd.prog 119 = true := by kernel_rfl
theorem cl120 : callable Tryd.prog 120 = true := by kernel_rfl
theorem cl121 : callable Tryd.prog 121 = true := by kernel_rfl
theorem cl124 : callable Tryd.prog 124 = true := by kernel_rfl
theorem cl126 : callable Tryd.prog 126 = true := by kernel_rfl
theorem cl127 : callable Tryd.prog 127 = true := by kernel_rfl
theorem cl131 : callable Tryd.prog 131 = true := by kernel_rfl
theorem cl133 : callable Tryd.prog 133 = true := by kernel_rfl
theorem cl47 : callable Tryd.prog 47 = true := by kernel_rfl
theorem cl48 : callable Tryd.prog 48 = true := by kernel_rfl
theorem cl49 : callable Tryd.prog 49 = true := by kernel_rfl
theorem cl50 : callable Tryd.prog 50 = true := by kernel_rfl
theorem cl91 : callable Tryd.prog 91 = true := by kernel_rfl
theorem cl92 : callable Tryd.prog 92 = true := by kernel_rfl
theorem cl93 : callable Tryd.prog 93 = true := by kernel_rfl
theorem cl94 : callable Tryd.prog 94 = true := by kernel_rfl
theorem cl95 : callable Tryd.prog 95 = true := by kernel_rfl
theorem cl96 : callable Tryd.prog 96 = true := by kernel_rfl
theorem cl97 : callable Tryd.prog 97 = true := by kernel_rfl
theorem cl98 : callable Tryd.prog 98 = true := by kernel_rfl
/- stringslite.Index -/
def inv_internal_stringslite_Index_0 (p0 : ByteArray) (p1 : ByteArray) (j0_0 : Bool) : St := mkT 143 [(0, .sc (.string p0)), (1, .sc (.string p1)), (5, .sc (.int .i64 (p1.size : Int))), (16, .sc (.bool j0_0))] []
set_option maxRecDepth 4000 in
set_option maxHeartbeats 800000 in
theorem winternal_stringslite_Index (p0 : ByteArray) (p1 : ByteArray) (r0 : Int) (h : internal_stringslite_Index p0 p1 = some r0) : Runs Tryd.prog 131 [.sc (.string p0), .sc (.string p1)] [] (.sc (.int .i64 r0)) [] := by
 unfold internal_stringslite_Index at h
 refine runsR [.tmp 4] Tryd.func131 rfl rfl rfl rfl ?_
 rw [Tryd.ntmps131]
 refine tri_sr ?_
 refine s_mv (.inr rfl) (v := .sc (.int .i64 0)) rfl rfl rfl rfl ?_
 refine rt_nil ?_
 refine tri_sr ?_
 refine m1 ?_
 refine s_of (st_lenS rfl rfl iss9) rfl rfl rfl rfl ?_
 refine m2 ?_
 refine rt_nil ?_
 refine tri_seq ?_
 refine tri_block ?_
 refine tri_cutI (ι := { p : Bool // internal_stringslite_Index_j0 p0 p1 p = some r0 }) (fun p => inv_internal_stringslite_Index_0 p0 p1 p.1) ?_ ?_
 ·skip
  refine tri_region ?_
  refine m1 ?_
  refine s_of (st_eqI rfl rfl rfl) rfl rfl rfl rfl ?_
  refine m1 ?_
  refine s_split (t := 19) rfl (fun b1 => ?_) (fun b1 => ?_)
  ·replace h := cond_t h b1
   refine s_skip rfl rfl rfl ?_
   refine s_skip rfl rfl rfl ?_
   refine s_skip rfl rfl rfl ?_
   refine s_pickT rfl rfl (v := .sc (.bool true)) rfl rfl rfl rfl ?_
   refine m2 ?_
   refine rt_nil ?_
   refine Exists.intro ⟨true, h⟩ ?_
   refine entX [] [] trivial trivial rfl rfl ?_
   exact ⟨(.free rfl), (.free rfl), (.free rfl), (.free rfl), trivial⟩
  ·replace h := cond_f h b1
   refine m1 ?_
   refine m1 ?_
   refine s_of (st_eqS rfl rfl rfl) rfl rfl rfl rfl ?_
   refine s_pickF rfl rfl (by conv => lhs; whnf) rfl rfl rfl ?_
   refine m2 ?_
   refine rt_nil ?_
   refine Exists.intro ⟨decide (p1 = p0), h⟩ ?_
   refine entX [] [] trivial trivial rfl rfl ?_
   exact ⟨(.free rfl), (.free rfl), (.free rfl), (.free rfl), trivial⟩
 ·rintro ⟨j0_0, h⟩
  replace h : internal_stringslite_Index_j0 p0 p1 j0_0 = some r0 := h
  unfold internal_stringslite_Index_j0 at h
  show Tri _ _ _ (inv_internal_stringslite_Index_0 p0 p1 j0_0)
  refine tri_cond rfl (fun c1 => ?_) (fun c1 => ?_)
  ·replace h := cond_t h c1
   refine tri_sr ?_
   refine s_mv (.inr rfl) (v := .sc (.int .i64 0)) rfl rfl rfl rfl ?_
   refine rt_nil ?_
   refine tri_ret ?_
   have e0 := (some1 h); subst e0
   exact endY [] [] (rvC (resTmp rfl) rvN) trivial trivial rfl rfl rfl rfl (.free rfl)
  ·replace h := cond_f h c1
   refine tri_sr ?_
   refine m1 ?_
   refine s_of (st_eqI rfl rfl rfl) rfl rfl rfl rfl ?_
   refine m2 ?_
   refine rt_nil ?_
   refine tri_cond rfl (fun c2 => ?_) (fun c2 => ?_)
   ·replace h := cond_t h c2
    refine tri_sr ?_
    refine m1 ?_
    refine m1 ?_
    refine bnd1_elim h fun x3 q4 h => ?_
    refine s_idxS rfl rfl rfl iss9 q4 rfl rfl rfl ?_
    refine bnd1_elim h fun x5 q6 h => ?_
    refine s_callN (kb := []) (ns := []) (v := .sc (.int .i64 x5)) rfl rfl cl133 (winternal_stringslite_IndexByte p0 x3 x5 q6) rfl (.cons (.free rfl) (.cons (.free rfl) .nil)) trivial memNil .nil memNil rfl trivial memNil rfl rfl rfl rfl rfl rfl ?_
    refine m2 ?_
    refine rt_nil ?_
    refine tri_ret ?_
    have e0 := (some1 h); subst e0
    exact endY [] [] (rvC (resTmp rfl) rvN) trivial trivial rfl rfl rfl rfl (.free rfl)
   ·replace h := cond_f h c2
    refine tri_sr ?_
    refine m1 ?_
    refine m1 ?_
    refine s_of (st_lenS rfl rfl iss9) rfl rfl rfl rfl ?_
    refine s_of (st_geq rfl rfl rfl) rfl rfl rfl rfl ?_
    refine m2 ?_
    refine rt_nil ?_
    refine tri_cond rfl (fun c7 => ?_) (fun c7 => ?_)
    ·replace h := cond_t h c7
     refine tri_sr ?_
     refine s_mv (.inr rfl) (v := .sc (.int .i64 (-1))) rfl rfl rfl rfl ?_
     refine rt_nil ?_
     refine tri_ret ?_
     have e0 := (some1 h); subst e0
     exact endY [] [] (rvC (resTmp rfl) rvN) trivial trivial rfl rfl rfl rfl (.free rfl)
    ·replace h := cond_f h c7
     refine tri_sr ?_
     refine m1 ?_
     cases h

/- strings.Index -/

set_option maxRecDepth 4000 in
set_option maxHeartbeats 800000 in
theorem wstrings_Index (p0 : ByteArray) (p1 : ByteArray) (r0 : Int) (h : strings_Index p0 p1 = some r0) : Runs Tryd.prog 127 [.sc (.string p0), .sc (.string p1)] [] (.sc (.int .i64 r0)) [] := by
 unfold strings_Index at h
 refine runsR [.tmp 4] Tryd.func127 rfl rfl rfl rfl ?_
 rw [Tryd.ntmps127]
 refine tri_sr ?_
 refine s_mv (.inr rfl) (v := .sc (.int .i64 0)) rfl rfl rfl rfl ?_
 refine rt_nil ?_
 refine tri_sr ?_
 refine m1 ?_
 refine m1 ?_
 refine bnd1_elim h fun x1 q2 h => ?_
 refine s_callN (kb := []) (ns := []) (v := .sc (.int .i64 x1)) rfl rfl cl131 (winternal_stringslite_Index p0 p1 x1 q2) rfl (.cons (.free rfl) (.cons (.free rfl) .nil)) trivial memNil .nil memNil rfl trivial memNil rfl rfl rfl rfl rfl rfl ?_
 refine m2 ?_
 refine rt_nil ?_
 refine tri_ret ?_
 have e0 := (some1 h); subst e0
 exact endY [] [] (rvC (resTmp rfl) rvN) trivial trivial rfl rfl rfl rfl (.free rfl)

/- strings.Count -/
def inv_strings_Count_0 (p1 : ByteArray) (v0_0 : ByteArray) (v0_1 : Int) : St := mkT 34 [(0, .sc (.string v0_0)), (1, .sc (.string p1)), (5, .sc (.int .i64 v0_1))] []
set_option maxRecDepth 4000 in
set_option maxHeartbeats 800000 in
theorem wstrings_Count (p0 : ByteArray) (p1 : ByteArray) (r0 : Int) (h : strings_Count p0 p1 = some r0) : Runs Tryd.prog 126 [.sc (.string p0), .sc (.string p1)] [] (.sc (.int .i64 r0)) [] := by
 unfold strings_Count at h
 refine runsR [.tmp 4] Tryd.func126 rfl rfl rfl rfl ?_
 rw [Tryd.ntmps126]
 refine tri_sr ?_
 refine s_mv (.inr rfl) (v := .sc (.int .i64 0)) rfl rfl rfl rfl ?_
 refine rt_nil ?_
 refine tri_seq ?_
 refine tri_sr ?_
 refine m1 ?_
 refine s_of (st_lenS rfl rfl iss9) rfl rfl rfl rfl ?_
 refine s_of (st_eqI rfl rfl rfl) rfl rfl rfl rfl ?_
 refine rt_nil ?_
 refine tri_cond rfl (fun c1 => ?_) (fun c1 => ?_)
 ·replace h := cond_t h c1
  refine tri_sr ?_
  refine m1 ?_
  cases h
 ·replace h := cond_f h c1
  refine tri_skip ?_
  refine tri_seq ?_
  refine tri_sr ?_
  refine m1 ?_
  refine s_of (st_lenS rfl rfl iss9) rfl rfl rfl rfl ?_
  refine s_of (st_eqI rfl rfl rfl) rfl rfl rfl rfl ?_
  refine rt_nil ?_
  refine tri_cond rfl (fun c2 => ?_) (fun c2 => ?_)
  ·replace h := cond_t h c2
   refine tri_sr ?_
   refine m1 ?_
   refine m1 ?_
   refine bnd1_elim h fun x3 q4 h => ?_
   refine s_idxS rfl rfl rfl iss9 q4 rfl rfl rfl ?_
   refine s_countString rfl rfl rfl Tryd.func130 (by kernel_rfl) (by kernel_rfl) (by kernel_rfl) (by kernel_rfl) rfl rfl rfl ?_
   refine m2 ?_
   refine rt_nil ?_
   refine tri_ret ?_
   have e0 := (some1 h); subst e0
   exact endY [] [] (rvC (resTmp rfl) rvN) trivial trivial rfl rfl rfl rfl (.free rfl)
  ·replace h := cond_f h c2
   refine tri_skip ?_
   refine tri_sr ?_
   refine s_mv (.inr rfl) (v := .sc (.int .i64 0)) rfl rfl rfl rfl ?_
   refine rt_nil ?_
   refine tri_block ?_
   refine tri_loop (ι := { p : Nat × ByteArray × Int // strings_Count_l0 p1 p.1 p.2.1 p.2.2 = some r0 }) (fun p => inv_strings_Count_0 p1 p.1.2.1 p.1.2.2) (fun p => p.1.1) ⟨(fuel0, p0, 0), h⟩ ?_ ?_
   ·skip
    refine entX [] [] trivial trivial rfl rfl ?_
    exact ⟨(.free rfl), (.free rfl), (.free rfl), trivial⟩
   ·rintro ⟨⟨f0, v0_0, v0_1⟩, h⟩
    replace h : strings_Count_l0 p1 f0 v0_0 v0_1 = some r0 := h
    cases f0 with
    | zero => cases h
    | succ f0 =>
    rw [strings_Count_l0] at h
    show Tri _ _ _ (inv_strings_Count_0 p1 v0_0 v0_1)
    refine tri_block ?_
    refine tri_sr ?_
    refine m1 ?_
    refine m1 ?_
    refine bnd1_elim h fun x5 q6 h => ?_
    refine s_callN (kb := []) (ns := []) (v := .sc (.int .i64 x5)) rfl rfl cl127 (wstrings_Index v0_0 p1 x5 q6) rfl (.cons (.free rfl) (.cons (.free rfl) .nil)) trivial memNil .nil memNil rfl trivial memNil rfl rfl rfl rfl rfl rfl ?_
    refine m2 ?_
    refine rt_nil ?_
    refine tri_seq ?_
    refine tri_sr ?_
    refine m1 ?_
    refine s_of (st_eqI rfl rfl rfl) rfl rfl rfl rfl ?_
    refine rt_nil ?_
    refine tri_cond rfl (fun c7 => ?_) (fun c7 => ?_)
    ·replace h := cond_t h c7
     refine tri_sr ?_
     refine m1 ?_
     refine m2 ?_
     refine rt_nil ?_
     refine tri_ret ?_
     have e0 := (some1 h); subst e0
     exact endY [] [] (rvC (resTmp rfl) rvN) trivial trivial rfl rfl rfl rfl (.free rfl)
    ·replace h := cond_f h c7
     refine tri_skip ?_
     refine tri_sr ?_
     refine m1 ?_
     refine grd_elim h fun g8 h => ?_
     refine s_addI rfl rfl rfl rfl g8 rfl rfl rfl ?_
     refine m2 ?_
     refine rt_nil ?_
     refine tri_region ?_
     refine m1 ?_
     refine m1 ?_
     refine m1 ?_
     refine s_of (st_lenS rfl rfl iss9) rfl rfl rfl rfl ?_
     refine grd_elim h fun g9 h => ?_
     refine s_addI rfl rfl rfl rfl g9 rfl rfl rfl ?_
     refine grd_elim h fun g10 h => ?_
     refine s_sliceS (a := x5 + (p1.size : Int)) (b := (v0_0.size : Int)) rfl rfl iss9 ⟨_, rfl⟩ rfl g10 rfl rfl rfl ?_
     refine m2 ?_
     refine rt_nil ?_
     refine Exists.intro ⟨(f0, v0_0.extract (x5 + (p1.size : Int)).toNat (v0_0.size : Int).toNat, v0_1 + 1), h⟩ (And.intro (Nat.lt_succ_self _) ?_)
     refine entX [] [] trivial trivial rfl rfl ?_
     exact ⟨(.free rfl), (.free rfl), (.free rfl), trivial⟩

/- strings.genSplit -/
def inv_strings_genSplit_2 (p0 : ByteArray) (p1 : ByteArray) (p2 : Int) (j0_0 : Int) (v2_0 : ByteArray) (v2_1 : List ByteArray) (v2_2 : Int) : St := mkT 66 [(0, .sc (.string v2_0)), (1, .sc (.string p1)), (2, .sc (.int .i64 p2)), (3, .sc (.int .i64 ((if (p0.size : Int) + 1 < j0_0 then (p0.size : Int) + 1 else j0_0) - 1))), (9, .ref (31, 0) 0 v2_1.length), (10, .sc (.int .i64 v2_2))] [((31, 0), some ⟨9, 1, List.map strV v2_1, false, true⟩)]
def inv_strings_genSplit_1  (j1_0 : ByteArray) (j1_1 : List ByteArray) (j1_2 : Int) : St := mkT 66 [(0, .sc (.string j1_0)), (9, .ref (31, 0) 0 j1_1.length), (10, .sc (.int .i64 j1_2))] [((31, 0), some ⟨9, 1, List.map strV j1_1, false, true⟩)]
def inv_strings_genSplit_0 (p0 : ByteArray) (p1 : ByteArray) (p2 : Int) (j0_0 : Int) : St := mkT 66 [(0, .sc (.string p0)), (1, .sc (.string p1)), (2, .sc (.int .i64 p2)), (3, .sc (.int .i64 j0_0))] []
set_option maxRecDepth 4000 in
set_option maxHeartbeats 800000 in
theorem wstrings_genSplit (p0 : ByteArray) (p1 : ByteArray) (p2 : Int) (p3 : Int) (r0 : List ByteArray) (h : strings_genSplit p0 p1 p2 p3 = some r0) : Runs Tryd.prog 124 [.sc (.string p0), .sc (.string p1), .sc (.int .i64 p2), .sc (.int .i64 p3)] [] (.own 9 1 (List.map strV r0)) [] := by
 unfold strings_genSplit at h
 refine runsR [.tmp 8] Tryd.func124 rfl rfl rfl rfl ?_
 rw [Tryd.ntmps124]
 refine tri_sr ?_
 refine s_mv (.inr rfl) (v := .nils) rfl rfl rfl rfl ?_
 refine rt_nil ?_
 refine tri_seq ?_
 refine tri_sr ?_
 refine m1 ?_
 refine s_of (st_eqI rfl rfl rfl) rfl rfl rfl rfl ?_
 refine rt_nil ?_
 refine tri_cond rfl (fun c1 => ?_) (fun c1 => ?_)
 ·replace h := cond_t h c1
  refine tri_sr ?_
  refine s_mv (.inr rfl) (v := .nils) rfl rfl rfl rfl ?_
  refine rt_nil ?_
  refine tri_ret ?_
  have e0 := (some1 h); subst e0
  exact endY (v' := .ref (2000, 0) 0 (([] : List ByteArray).length)) [((2000, 0), ⟨9, 1, List.map strV ([] : List ByteArray), false, true⟩, none)] [] (rvC (resTmp rfl) rvN) ⟨rfl, trivial⟩ trivial rfl rfl (by kernel_rfl) (by simp only [V.mat, V.mat1, V.mat0, matL, matT, List.length_map] <;> rfl) (.nilRef rfl)
 ·replace h := cond_f h c1
  refine tri_skip ?_
  refine tri_seq ?_
  refine tri_sr ?_
  refine m1 ?_
  refine s_of (st_eqS rfl rfl rfl) rfl rfl rfl rfl ?_
  refine rt_nil ?_
  refine tri_cond rfl (fun c2 => ?_) (fun c2 => ?_)
  ·replace h := cond_t h c2
   refine tri_sr ?_
   refine m1 ?_
   refine m1 ?_
   cases h
  ·replace h := cond_f h c2
   refine tri_skip ?_
   refine tri_cutI (ι := { p : Int // strings_genSplit_j0 p0 p1 p2 p = some r0 }) (fun p => inv_strings_genSplit_0 p0 p1 p2 p.1) ?_ ?_
   ·skip
    refine tri_sr ?_
    refine m1 ?_
    refine s_of (st_lss rfl rfl rfl) rfl rfl rfl rfl ?_
    refine rt_nil ?_
    refine tri_cond rfl (fun c3 => ?_) (fun c3 => ?_)
    ·replace h := cond_t h c3
     refine tri_region ?_
     refine m1 ?_
     refine m1 ?_
     refine bnd1_elim h fun x4 q5 h => ?_
     refine s_callN (kb := []) (ns := []) (v := .sc (.int .i64 x4)) rfl rfl cl126 (wstrings_Count p0 p1 x4 q5) rfl (.cons (.free rfl) (.cons (.free rfl) .nil)) trivial memNil .nil memNil rfl trivial memNil rfl rfl rfl rfl rfl rfl ?_
     refine grd_elim h fun g6 h => ?_
     refine s_addI rfl rfl rfl rfl g6 rfl rfl rfl ?_
     refine m2 ?_
     refine rt_nil ?_
     refine Exists.intro ⟨x4 + 1, h⟩ ?_
     refine entX [] [] trivial trivial rfl rfl ?_
     exact ⟨(.free rfl), (.free rfl), (.free rfl), (.free rfl), trivial⟩
    ·replace h := cond_f h c3
     refine tri_skip ?_
     refine Exists.intro ⟨p3, h⟩ ?_
     refine entX [] [] trivial trivial rfl rfl ?_
     exact ⟨(.free rfl), (.free rfl), (.free rfl), (.free rfl), trivial⟩
   ·rintro ⟨j0_0, h⟩
    replace h : strings_genSplit_j0 p0 p1 p2 j0_0 = some r0 := h
    unfold strings_genSplit_j0 at h
    show Tri _ _ _ (inv_strings_genSplit_0 p0 p1 p2 j0_0)
    refine tri_sr ?_
    refine m1 ?_
    refine m1 ?_
    refine s_of (st_lenS rfl rfl iss9) rfl rfl rfl rfl ?_
    refine grd_elim h fun g3 h => ?_
    refine s_addI rfl rfl rfl rfl g3 rfl rfl rfl ?_
    refine s_of (st_minI rfl rfl rfl) rfl rfl rfl rfl ?_
    refine m2 ?_
    refine rt_nil ?_
    refine tri_sr ?_
    refine m1 ?_
    refine grd_elim h fun g4 h => ?_
    refine s_makeL (f := strV) (a := (⟨#[]⟩ : ByteArray)) rfl rfl rfl rfl rfl sl108 zc9 rfl rfl rfl rfl g4.1 g4.2 (rowZ_cv rfl rowZ_nil) rfl rfl ?_
    refine m2 ?_
    refine rt_nil ?_
    refine tri_sr ?_
    refine m1 ?_
    refine grd_elim h fun g5 h => ?_
    refine s_subI rfl rfl rfl rfl g5 rfl rfl rfl ?_
    refine m2 ?_
    refine rt_nil ?_
    refine tri_sr ?_
    refine s_mv (.inr rfl) (v := .sc (.int .i64 0)) rfl rfl rfl rfl ?_
    refine rt_nil ?_
    refine tri_cutI (ι := { p : ByteArray × (List ByteArray) × Int // strings_genSplit_j1 p.1 p.2.1 p.2.2 = some r0 }) (fun p => inv_strings_genSplit_1 p.1.1 p.1.2.1 p.1.2.2) ?_ ?_
    ·skip
     refine tri_block ?_
     refine tri_loop (ι := { p : Nat × ByteArray × (List ByteArray) × Int // strings_genSplit_l2 p0 p1 p2 j0_0 p.1 p.2.1 p.2.2.1 p.2.2.2 = some r0 }) (fun p => inv_strings_genSplit_2 p0 p1 p2 j0_0 p.1.2.1 p.1.2.2.1 p.1.2.2.2) (fun p => p.1.1) ⟨(fuel0, p0, List.replicate (if (p0.size : Int) + 1 < j0_0 then (p0.size : Int) + 1 else j0_0).toNat (⟨#[]⟩ : ByteArray), 0), h⟩ ?_ ?_
     ·skip
      refine entX [((31, 0), ⟨9, 1, List.map strV (List.replicate (if (p0.size : Int) + 1 < j0_0 then (p0.size : Int) + 1 else j0_0).toNat (⟨#[]⟩ : ByteArray)), false, true⟩, some (31, 0))] [] ⟨⟨rfl, _, rfl, rfl, rfl, rfl, id, rowsCv_eq rfl (allFree_map strV_free), rowsZ_map strV_len⟩, trivial⟩ trivial rfl rfl ?_
      exact ⟨(.free rfl), (.free rfl), (.free rfl), (.free rfl), (.ref rfl), (.free rfl), trivial⟩
     ·rintro ⟨⟨f2, v2_0, v2_1, v2_2⟩, h⟩
      replace h : strings_genSplit_l2 p0 p1 p2 j0_0 f2 v2_0 v2_1 v2_2 = some r0 := h
      cases f2 with
      | zero => cases h
      | succ f2 =>
      rw [strings_genSplit_l2] at h
      show Tri _ _ _ (inv_strings_genSplit_2 p0 p1 p2 j0_0 v2_0 v2_1 v2_2)
      refine tri_seq ?_
      refine tri_sr ?_
      refine m1 ?_
      refine m1 ?_
      refine s_of (st_lss rfl rfl rfl) rfl rfl rfl rfl ?_
      refine rt_nil ?_
      refine tri_cond rfl (fun c6 => ?_) (fun c6 => ?_)
      ·replace h := cond_t h c6
       refine tri_skip ?_
       refine tri_block ?_
       refine tri_sr ?_
       refine m1 ?_
       refine m1 ?_
       refine bnd1_elim h fun x7 q8 h => ?_
       refine s_callN (kb := []) (ns := []) (v := .sc (.int .i64 x7)) rfl rfl cl127 (wstrings_Index v2_0 p1 x7 q8) rfl (.cons (.free rfl) (.cons (.free rfl) .nil)) trivial memNil .nil memNil rfl trivial memNil rfl rfl rfl rfl rfl rfl ?_
       refine m2 ?_
       refine rt_nil ?_
       refine tri_seq ?_
       refine tri_sr ?_
       refine m1 ?_
       refine s_of (st_lss rfl rfl rfl) rfl rfl rfl rfl ?_
       refine rt_nil ?_
       refine tri_cond rfl (fun c9 => ?_) (fun c9 => ?_)
       ·replace h := cond_t h c9
        refine tri_exit ?_
        refine Exists.intro ⟨(v2_0, v2_1, v2_2), h⟩ ?_
        refine entX [((31, 0), ⟨9, 1, List.map strV v2_1, false, true⟩, some (31, 0))] [] ⟨⟨rfl, _, rfl, rfl, rfl, rfl, id, rowsCv_eq rfl (allFree_map strV_free), rowsZ_map strV_len⟩, trivial⟩ trivial rfl rfl ?_
        exact ⟨(.free rfl), (.ref rfl), (.free rfl), trivial⟩
       ·replace h := cond_f h c9
        refine tri_skip ?_
        refine tri_sr ?_
        refine m1 ?_
        refine m1 ?_
        refine m1 ?_
        refine m1 ?_
        refine m1 ?_
        refine grd_elim h fun g10 h => ?_
        refine s_addI rfl rfl rfl rfl g10 rfl rfl rfl ?_
        refine grd_elim h fun g11 h => ?_
        refine s_sliceS (a := ((0 : Nat) : Int)) (b := x7 + p2) rfl rfl iss9 rfl ⟨_, rfl⟩ g11 rfl rfl rfl ?_
        refine bnd1_elim h fun x12 q13 h => ?_
        have q13a := (idx_some q13).1; have q13b := (idx_some q13).2
        refine s_indexZ rfl rfl rfl rfl sl108 rfl q13a (get_lt q13b) rfl rfl rfl ?_
        refine s_storeL (x' := v2_0.extract ((0 : Nat) : Int).toNat (x7 + p2).toNat) rfl rfl rfl q13b ty9 rfl rfl rfl rfl rfl rfl ?_
        refine rt_nil ?_
        refine tri_sr ?_
        refine m1 ?_
        refine m1 ?_
        refine m1 ?_
        refine s_of (st_lenS rfl rfl iss9) rfl rfl rfl rfl ?_
        refine grd_elim h fun g14 h => ?_
        refine s_addI rfl rfl rfl rfl g14 rfl rfl rfl ?_
        refine grd_elim h fun g15 h => ?_
        refine s_sliceS (a := x7 + (p1.size : Int)) (b := (v2_0.size : Int)) rfl rfl iss9 ⟨_, rfl⟩ rfl g15 rfl rfl rfl ?_
        refine m2 ?_
        refine rt_nil ?_
        refine tri_region ?_
        refine m1 ?_
        refine grd_elim h fun g16 h => ?_
        refine s_addI rfl rfl rfl rfl g16 rfl rfl rfl ?_
        refine m2 ?_
        refine rt_nil ?_
        refine Exists.intro ⟨(f2, v2_0.extract (x7 + (p1.size : Int)).toNat (v2_0.size : Int).toNat, v2_1.set v2_2.toNat (v2_0.extract ((0 : Nat) : Int).toNat (x7 + p2).toNat), v2_2 + 1), h⟩ (And.intro (Nat.lt_succ_self _) ?_)
        refine entX [((31, 0), ⟨9, 1, List.map strV (v2_1.set v2_2.toNat (v2_0.extract ((0 : Nat) : Int).toNat (x7 + p2).toNat)), false, true⟩, some (31, 0))] [] ⟨⟨rfl, _, rfl, rfl, rfl, rfl, id, rowsCv_eq rfl (allFree_map strV_free), rowsZ_map strV_len⟩, trivial⟩ trivial rfl rfl ?_
        exact ⟨(.free rfl), (.free rfl), (.free rfl), (.free rfl), (cvRefLen rfl (by simp only [List.length_set])), (.free rfl), trivial⟩
      ·replace h := cond_f h c6
       refine tri_exit ?_
       refine Exists.intro ⟨(v2_0, v2_1, v2_2), h⟩ ?_
       refine entX [((31, 0), ⟨9, 1, List.map strV v2_1, false, true⟩, some (31, 0))] [] ⟨⟨rfl, _, rfl, rfl, rfl, rfl, id, rowsCv_eq rfl (allFree_map strV_free), rowsZ_map strV_len⟩, trivial⟩ trivial rfl rfl ?_
       exact ⟨(.free rfl), (.ref rfl), (.free rfl), trivial⟩
    ·rintro ⟨⟨j1_0, j1_1, j1_2⟩, h⟩
     replace h : strings_genSplit_j1 j1_0 j1_1 j1_2 = some r0 := h
     unfold strings_genSplit_j1 at h
     show Tri _ _ _ (inv_strings_genSplit_1 j1_0 j1_1 j1_2)
     refine tri_sr ?_
     refine m1 ?_
     refine m1 ?_
     refine m1 ?_
     refine bnd1_elim h fun x6 q7 h => ?_
     have q7a := (idx_some q7).1; have q7b := (idx_some q7).2
     refine s_indexZ rfl rfl rfl rfl sl108 rfl q7a (get_lt q7b) rfl rfl rfl ?_
     refine s_storeL (x' := j1_0) rfl rfl rfl q7b ty9 rfl rfl rfl rfl rfl rfl ?_
     refine rt_nil ?_
     refine tri_sr ?_
     refine m1 ?_
     refine m1 ?_
     refine grd_elim h fun g8 h => ?_
     refine s_addI rfl rfl rfl rfl g8 rfl rfl rfl ?_
     refine grd_elim h fun g9 h => ?_
     refine s_sliceZ (a := ((0 : Nat) : Int)) (b := j1_2 + 1) rfl rfl rfl sl108 rfl rfl ⟨_, rfl⟩ g9 rfl rfl rfl ?_
     refine m2 ?_
     refine rt_nil ?_
     refine tri_ret ?_
     have e0 := (some1 h); subst e0
     exact endY (v' := .ref (2000, 0) 0 ((((j1_1.set j1_2.toNat j1_0).drop (0 + ((0 : Nat) : Int).toNat)).take ((j1_2 + 1).toNat - ((0 : Nat) : Int).toNat)).length)) [((2000, 0), ⟨9, 1, List.map strV (((j1_1.set j1_2.toNat j1_0).drop (0 + ((0 : Nat) : Int).toNat)).take ((j1_2 + 1).toNat - ((0 : Nat) : Int).toNat)), false, true⟩, some (31, 0))] [] (rvC (resTmp rfl) rvN) ⟨⟨rfl, _, rfl, rfl, rfl, rfl, id, rowsCv_pre rfl strV_free, rowsZ_map strV_len⟩, trivial⟩ trivial rfl rfl (by kernel_rfl) (by simp only [V.mat, V.mat1, V.mat0, matL, matT, List.length_map] <;> rfl) (cvRefPre rfl rfl (by simp only [List.length_take, List.length_drop, List.length_set]; omega))

/- strings.Split -/

set_option maxRecDepth 4000 in
set_option maxHeartbeats 800000 in
theorem wstrings_Split (p0 : ByteArray) (p1 : ByteArray) (r0 : List ByteArray) (h : strings_Split p0 p1 = some r0) : Runs Tryd.prog 120 [.sc (.string p0), .sc (.string p1)] [] (.own 9 1 (List.map strV r0)) [] := by
 unfold strings_Split at h
 refine runsR [.tmp 4] Tryd.func120 rfl rfl rfl rfl ?_
 rw [Tryd.ntmps120]
 refine tri_sr ?_
 refine s_mv (.inr rfl) (v := .nils) rfl rfl rfl rfl ?_
 refine rt_nil ?_
 refine tri_sr ?_
 refine m1 ?_
 refine m1 ?_
 refine bnd1_elim h fun x1 q2 h => ?_
 refine s_callN (kb := []) (ns := []) (v := .ref (7, 0) 0 x1.length) rfl rfl cl124 (wstrings_genSplit p0 p1 0 (-1) x1 q2) rfl (.cons (.free rfl) (.cons (.free rfl) (.cons (.free rfl) (.cons (.free rfl) .nil)))) trivial memNil .nil memNil rfl ⟨(allSc_map strV_sc), trivial⟩ memNil rfl (by simp only [V.mat, V.mat1, V.mat0, matL, matT, List.length_map] <;> rfl) rfl rfl rfl rfl ?_
 refine m2 ?_
 refine rt_nil ?_
 refine tri_ret ?_
 have e0 := (some1 h); subst e0
 exact endY (v' := .ref (2000, 0) 0 x1.length) [((2000, 0), ⟨9, 1, List.map strV x1, false, true⟩, some (7, 0))] [] (rvC (resTmp rfl) rvN) ⟨⟨rfl, _, rfl, rfl, rfl, rfl, id, rowsCv_eq rfl (allFree_map strV_free), rowsZ_map strV_len⟩, trivial⟩ trivial rfl rfl (by kernel_rfl) (by simp only [V.mat, V.mat1, V.mat0, matL, matT, List.length_map] <;> rfl) (.ref rfl)

/- impl.Labels -/

set_option maxRecDepth 4000 in
set_option maxHeartbeats 800000 in
theorem wi_Labels (p0 : ByteArray) (r0 : List ByteArray) (h : i_Labels p0 = some r0) : Runs Tryd.prog 95 [.sc (.string p0)] [] (.own 9 1 (List.map strV r0)) [] := by
 unfold i_Labels at h
 refine runsR [.tmp 2] Tryd.func95 rfl rfl rfl rfl ?_
 rw [Tryd.ntmps95]
 refine tri_sr ?_
 refine s_mv (.inr rfl) (v := .nils) rfl rfl rfl rfl ?_
 refine rt_nil ?_
 refine tri_seq ?_
 refine tri_sr ?_
 refine m1 ?_
 refine s_of (st_eqS rfl rfl rfl) rfl rfl rfl rfl ?_
 refine rt_nil ?_
 refine tri_cond rfl (fun c1 => ?_) (fun c1 => ?_)
 ·replace h := cond_t h c1
  refine tri_sr ?_
  refine s_mv (.inr rfl) (v := .nils) rfl rfl rfl rfl ?_
  refine rt_nil ?_
  refine tri_ret ?_
  have e0 := (some1 h); subst e0
  exact endY (v' := .ref (2000, 0) 0 (([] : List ByteArray).length)) [((2000, 0), ⟨9, 1, List.map strV ([] : List ByteArray), false, true⟩, none)] [] (rvC (resTmp rfl) rvN) ⟨rfl, trivial⟩ trivial rfl rfl (by kernel_rfl) (by simp only [V.mat, V.mat1, V.mat0, matL, matT, List.length_map] <;> rfl) (.nilRef rfl)
 ·replace h := cond_f h c1
  refine tri_skip ?_
  refine tri_sr ?_
  refine m1 ?_
  refine bnd1_elim h fun x2 q3 h => ?_
  refine s_callN (kb := []) (ns := []) (v := .ref (6, 0) 0 x2.length) rfl rfl cl120 (wstrings_Split p0 (⟨#[46]⟩ : ByteArray) x2 q3) rfl (.cons (.free rfl) (.cons (.free rfl) .nil)) trivial memNil .nil memNil rfl ⟨(allSc_map strV_sc), trivial⟩ memNil rfl (by simp only [V.mat, V.mat1, V.mat0, matL, matT, List.length_map] <;> rfl) rfl rfl rfl rfl ?_
  refine m2 ?_
  refine rt_nil ?_
  refine tri_ret ?_
  have e0 := (some1 h); subst e0
  exact endY (v' := .ref (2000, 0) 0 x2.length) [((2000, 0), ⟨9, 1, List.map strV x2, false, true⟩, some (6, 0))] [] (rvC (resTmp rfl) rvN) ⟨⟨rfl, _, rfl, rfl, rfl, rfl, id, rowsCv_eq rfl (allFree_map strV_free), rowsZ_map strV_len⟩, trivial⟩ trivial rfl rfl (by kernel_rfl) (by simp only [V.mat, V.mat1, V.mat0, matL, matT, List.length_map] <;> rfl) (.ref rfl)

/- slices.IndexFunc[[]string,string] -/
def inv_slices_IndexFunc_string_0 (p0 : List ByteArray) (fi1 : FuncId) (cp1 : List V) (v0_0 : Nat) : St := mkT 19 [(0, .lst 1 (List.map strV p0)), (1, .fn fi1 cp1), (7, .sc (.int .i64 (p0.length : Int))), (8, .sc (.int .i64 (v0_0 : Int)))] []
set_option maxRecDepth 4000 in
set_option maxHeartbeats 800000 in
theorem wslices_IndexFunc_string (p0 : List ByteArray) (fi1 : FuncId) (cp1 : List V) (hf1 : cp1.all (·.free) = true) (hb1 : callable Tryd.prog fi1 = true) (p1 : ByteArray → Option Bool) (hg1 : ∀ (z0 : ByteArray) v, p1 z0 = some v → Runs Tryd.prog fi1 ([.sc (.string z0)] ++ cp1) [] (.sc (.bool v)) []) (r0 : Int) (h : slices_IndexFunc_string p0 p1 = some r0) : Runs Tryd.prog 121 [.lst 1 (List.map strV p0), .fn fi1 cp1] [] (.sc (.int .i64 r0)) [] := by
 unfold slices_IndexFunc_string at h
 refine runsR [.tmp 4] Tryd.func121 rfl rfl rfl rfl ?_
 rw [Tryd.ntmps121]
 refine tri_sr ?_
 refine s_mv (.inr rfl) (v := .sc (.int .i64 0)) rfl rfl rfl rfl ?_
 refine rt_nil ?_
 refine tri_seq ?_
 refine tri_sr ?_
 refine m1 ?_
 refine s_lenL rfl sl108 rfl rfl rfl rfl ?_
 refine s_mv (.inl rfl) (v := .sc (.int .i64 0)) rfl rfl rfl rfl ?_
 refine rt_nil ?_
 refine tri_block ?_
 refine tri_lstM 0 rfl (fun hl0 => ?_)
 refine tri_loop (ι := { p : (List ByteArray) × Nat // p0.drop p.2 = p.1 ∧ slices_IndexFunc_string_l0 p1 p.1 p.2 = some r0 }) (fun p => inv_slices_IndexFunc_string_0 p0 fi1 cp1 p.1.2) (fun p => p.1.1.length) ⟨(p0, 0), rfl, h⟩ ?_ ?_
 ·skip
  refine entX [] [] trivial trivial rfl rfl ?_
  exact ⟨(.free rfl), (cvFn hf1), (.free rfl), (.free rfl), trivial⟩
 ·rintro ⟨⟨lrs0, v0_0⟩, hd0, h⟩
  replace hd0 : p0.drop v0_0 = lrs0 := hd0
  replace h : slices_IndexFunc_string_l0 p1 lrs0 v0_0 = some r0 := h
  show Tri _ _ _ (inv_slices_IndexFunc_string_0 p0 fi1 cp1 v0_0)
  refine tri_sr ?_
  refine s_of (st_lss rfl rfl rfl) rfl rfl rfl rfl ?_
  refine rt_nil ?_
  refine tri_seq ?_
  refine tri_cond rfl (fun c1 => ?_) (fun c1 => ?_)
  ·refine drop_elim hd0 c1 fun e0 rs0 he hx0 hn0 => ?_
   subst he
   rw [slices_IndexFunc_string_l0] at h
   refine tri_skip ?_
   refine tri_seq ?_
   refine tri_block ?_
   refine tri_sr ?_
   refine m1 ?_
   refine m2 ?_
   refine rt_nil ?_
   refine tri_sr ?_
   refine m1 ?_
   refine m1 ?_
   refine m1 ?_
   refine s_indexF (i := v0_0) rfl rfl rfl sl108 (get_ltM hx0) rfl rfl rfl ?_
   refine s_loadF rfl rfl (rowG hx0) ty9 rfl (.inr rfl) (by conv => lhs; whnf) rfl rfl rfl ?_
   refine bnd1_elim h fun x2 q3 h => ?_
   refine s_callN (kb := []) (ns := []) (v := .sc (.bool x2)) rfl rfl hb1 (hg1 e0 x2 q3) rfl (.cons (.free rfl) (argsFree hf1)) trivial memNil .nil memNil rfl trivial memNil rfl rfl rfl rfl rfl rfl ?_
   refine rt_nil ?_
   refine tri_cond rfl (fun c4 => ?_) (fun c4 => ?_)
   ·replace h := cond_t h c4
    refine tri_sr ?_
    refine m1 ?_
    refine m2 ?_
    refine rt_nil ?_
    refine tri_ret ?_
    have e0 := (some1 h); subst e0
    exact endY [] [] (rvC (resTmp rfl) rvN) trivial trivial rfl rfl rfl rfl (.free rfl)
   ·replace h := cond_f h c4
    refine tri_skip ?_
    refine tri_region ?_
    refine s_inc (a := v0_0) (b := 1) rfl rfl rfl rfl (by have := get_lt hx0; have := hl0; omega) rfl rfl rfl ?_
    refine m1 ?_
    refine rt_nil ?_
    refine Exists.intro ⟨(rs0, (v0_0 + 1)), hn0, h⟩ (And.intro (Nat.lt_succ_self _) ?_)
    refine entX [] [] trivial trivial rfl rfl ?_
    exact ⟨(.free rfl), (cvFn hf1), (.free rfl), (.free rfl), trivial⟩
  ·have he := drop_f hd0 c1; subst he
   rw [slices_IndexFunc_string_l0] at h
   refine tri_exit ?_
   refine tri_sr ?_
   refine s_mv (.inr rfl) (v := .sc (.int .i64 (-1))) rfl rfl rfl rfl ?_
   refine rt_nil ?_
   refine tri_ret ?_
   have e0 := (some1 h); subst e0
   exact endY [] [] (rvC (resTmp rfl) rvN) trivial trivial rfl rfl rfl rfl (.free rfl)

/- slices.ContainsFunc[[]string,string] -/

set_option maxRecDepth 4000 in
set_option maxHeartbeats 800000 in
theorem wslices_ContainsFunc_string (p0 : List ByteArray) (fi1 : FuncId) (cp1 : List V) (hf1 : cp1.all (·.free) = true) (hb1 : callable Tryd.prog fi1 = true) (p1 : ByteArray → Option Bool) (hg1 : ∀ (z0 : ByteArray) v, p1 z0 = some v → Runs Tryd.prog fi1 ([.sc (.string z0)] ++ cp1) [] (.sc (.bool v)) []) (r0 : Bool) (h : slices_ContainsFunc_string p0 p1 = some r0) : Runs Tryd.prog 96 [.lst 1 (List.map strV p0), .fn fi1 cp1] [] (.sc (.bool r0)) [] := by
 unfold slices_ContainsFunc_string at h
 refine runsR [.tmp 4] Tryd.func96 rfl rfl rfl rfl ?_
 rw [Tryd.ntmps96]
 refine tri_sr ?_
 refine s_mv (.inr rfl) (v := .sc (.bool false)) rfl rfl rfl rfl ?_
 refine rt_nil ?_
 refine tri_sr ?_
 refine m1 ?_
 refine m1 ?_
 refine bnd1_elim h fun x1 q2 h => ?_
 refine s_callN (kb := []) (ns := []) (v := .sc (.int .i64 x1)) rfl rfl cl121 (wslices_IndexFunc_string p0 fi1 cp1 hf1 hb1 p1 hg1 x1 q2) rfl (.cons (.free rfl) (.cons (relFn hf1) .nil)) trivial memNil .nil memNil rfl trivial memNil rfl rfl rfl rfl rfl rfl ?_
 refine s_of (st_geq rfl rfl rfl) rfl rfl rfl rfl ?_
 refine m2 ?_
 refine rt_nil ?_
 refine tri_ret ?_
 have e0 := (some1 h); subst e0
 exact endY [] [] (rvC (resTmp rfl) rvN) trivial trivial rfl rfl rfl rfl (.free rfl)

/- impl.LabelOk -/
def inv_i_LabelOk_2 (p0 : ByteArray) (v1_0 : Int) (j2_0 : Bool) : St := mkT 44 [(0, .sc (.string p0)), (6, .sc (.int .i64 (p0.size : Int))), (7, .sc (.int .i64 v1_0)), (34, .sc (.bool j2_0))] []
def inv_i_LabelOk_1 (p0 : ByteArray) (v1_0 : Int) : St := mkT 44 [(0, .sc (.string p0)), (6, .sc (.int .i64 (p0.size : Int))), (7, .sc (.int .i64 v1_0))] []
def inv_i_LabelOk_0 (p0 : ByteArray) : St := mkT 44 [(0, .sc (.string p0))] []
set_option maxRecDepth 4000 in
set_option maxHeartbeats 800000 in
theorem wi_LabelOk (p0 : ByteArray) (r0 : Bool) (h : i_LabelOk p0 = some r0) : Runs Tryd.prog 98 [.sc (.string p0)] [] (.sc (.bool r0)) [] := by
 unfold i_LabelOk at h
 refine runsR [.tmp 2] Tryd.func98 rfl rfl rfl rfl ?_
 rw [Tryd.ntmps98]
 refine tri_sr ?_
 refine s_mv (.inr rfl) (v := .sc (.bool false)) rfl rfl rfl rfl ?_
 refine rt_nil ?_
 refine tri_cutI (ι := { p : Unit // i_LabelOk_j0 p0 = some r0 }) (fun p => inv_i_LabelOk_0 p0) ?_ ?_
 ·skip
  refine tri_sr ?_
  refine m1 ?_
  refine s_of (st_lenS rfl rfl iss9) rfl rfl rfl rfl ?_
  refine s_mv (.inl rfl) (v := .sc (.int .i64 0)) rfl rfl rfl rfl ?_
  refine rt_nil ?_
  refine tri_block ?_
  refine tri_loop (ι := { p : Nat × Int // i_LabelOk_l1 p0 p.1 p.2 = some r0 }) (fun p => inv_i_LabelOk_1 p0 p.1.2) (fun p => p.1.1) ⟨(fuel0, 0), h⟩ ?_ ?_
  ·skip
   refine entX [] [] trivial trivial rfl rfl ?_
   exact ⟨(.free rfl), (.free rfl), (.free rfl), trivial⟩
  ·rintro ⟨⟨f1, v1_0⟩, h⟩
   replace h : i_LabelOk_l1 p0 f1 v1_0 = some r0 := h
   cases f1 with
   | zero => cases h
   | succ f1 =>
   rw [i_LabelOk_l1] at h
   show Tri _ _ _ (inv_i_LabelOk_1 p0 v1_0)
   refine tri_sr ?_
   refine s_of (st_lss rfl rfl rfl) rfl rfl rfl rfl ?_
   refine rt_nil ?_
   refine tri_seq ?_
   refine tri_cond rfl (fun c1 => ?_) (fun c1 => ?_)
   ·replace h := cond_t h c1
    refine tri_skip ?_
    refine tri_seq ?_
    refine tri_block ?_
    refine tri_sr ?_
    refine m1 ?_
    refine m2 ?_
    refine rt_nil ?_
    refine tri_sr ?_
    refine m1 ?_
    refine m1 ?_
    refine bnd1_elim h fun x2 q3 h => ?_
    refine s_idxS rfl rfl rfl iss9 q3 rfl rfl rfl ?_
    refine m2 ?_
    refine rt_nil ?_
    refine tri_cutI (ι := { p : Bool // i_LabelOk_j2 v1_0 (i_LabelOk_l1 p0 f1) p = some r0 }) (fun p => inv_i_LabelOk_2 p0 v1_0 p.1) ?_ ?_
    ·skip
     refine tri_region ?_
     refine m1 ?_
     refine s_of (st_lss rfl rfl rfl) rfl rfl rfl rfl ?_
     refine m1 ?_
     refine s_split (t := 15) rfl (fun b4 => ?_) (fun b4 => ?_)
     ·replace h := cond_t h b4
      refine s_skip rfl rfl rfl ?_
      refine s_skip rfl rfl rfl ?_
      refine s_pickT rfl rfl (v := .sc (.bool true)) rfl rfl rfl rfl ?_
      refine m1 ?_
      refine m1 ?_
      refine s_of (st_lss rfl rfl rfl) rfl rfl rfl rfl ?_
      refine m1 ?_
      refine s_split (t := 22) rfl (fun b5 => ?_) (fun b5 => ?_)
      ·replace h := cond_t h b5
       refine s_skip rfl rfl rfl ?_
       refine s_skip rfl rfl rfl ?_
       refine s_pickT rfl rfl (v := .sc (.bool true)) rfl rfl rfl rfl ?_
       refine s_pickT rfl rfl (by conv => lhs; whnf) rfl rfl rfl ?_
       refine m1 ?_
       refine m1 ?_
       refine s_of (st_neI rfl rfl rfl) rfl rfl rfl rfl ?_
       refine s_pickT rfl rfl (by conv => lhs; whnf) rfl rfl rfl ?_
       refine m1 ?_
       refine s_split (t := 31) rfl (fun b6 => ?_) (fun b6 => ?_)
       ·replace h := cond_t h b6
        refine m1 ?_
        refine s_of (st_neI rfl rfl rfl) rfl rfl rfl rfl ?_
        refine s_pickT rfl rfl (by conv => lhs; whnf) rfl rfl rfl ?_
        refine rt_nil ?_
        refine Exists.intro ⟨!decide (x2 = 95), h⟩ ?_
        refine entX [] [] trivial trivial rfl rfl ?_
        exact ⟨(.free rfl), (.free rfl), (.free rfl), (.free rfl), trivial⟩
       ·replace h := cond_f h b6
        refine s_skip rfl rfl rfl ?_
        refine s_skip rfl rfl rfl ?_
        refine s_pickF rfl rfl (v := .sc (.bool false)) rfl rfl rfl rfl ?_
        refine rt_nil ?_
        refine Exists.intro ⟨false, h⟩ ?_
        refine entX [] [] trivial trivial rfl rfl ?_
        exact ⟨(.free rfl), (.free rfl), (.free rfl), (.free rfl), trivial⟩
      ·replace h := cond_f h b5
       refine m1 ?_
       refine s_of (st_gtr rfl rfl rfl) rfl rfl rfl rfl ?_
       refine s_pickF rfl rfl (by conv => lhs; whnf) rfl rfl rfl ?_
       refine s_pickT rfl rfl (by conv => lhs; whnf) rfl rfl rfl ?_
       refine m1 ?_
       refine s_split (t := 27) rfl (fun b7 => ?_) (fun b7 => ?_)
       ·replace h := cond_t h b7
        refine m1 ?_
        refine s_of (st_neI rfl rfl rfl) rfl rfl rfl rfl ?_
        refine s_pickT rfl rfl (by conv => lhs; whnf) rfl rfl rfl ?_
        refine m1 ?_
        refine s_split (t := 31) rfl (fun b8 => ?_) (fun b8 => ?_)
        ·replace h := cond_t h b8
         refine m1 ?_
         refine s_of (st_neI rfl rfl rfl) rfl rfl rfl rfl ?_
         refine s_pickT rfl rfl (by conv => lhs; whnf) rfl rfl rfl ?_
         refine rt_nil ?_
         refine Exists.intro ⟨!decide (x2 = 95), h⟩ ?_
         refine entX [] [] trivial trivial rfl rfl ?_
         exact ⟨(.free rfl), (.free rfl), (.free rfl), (.free rfl), trivial⟩
        ·replace h := cond_f h b8
         refine s_skip rfl rfl rfl ?_
         refine s_skip rfl rfl rfl ?_
         refine s_pickF rfl rfl (v := .sc (.bool false)) rfl rfl rfl rfl ?_
         refine rt_nil ?_
         refine Exists.intro ⟨false, h⟩ ?_
         refine entX [] [] trivial trivial rfl rfl ?_
         exact ⟨(.free rfl), (.free rfl), (.free rfl), (.free rfl), trivial⟩
       ·replace h := cond_f h b7
        refine s_skip rfl rfl rfl ?_
        refine s_skip rfl rfl rfl ?_
        refine s_pickF rfl rfl (v := .sc (.bool false)) rfl rfl rfl rfl ?_
        refine m1 ?_
        refine s_skip rfl rfl rfl ?_
        refine s_skip rfl rfl rfl ?_
        refine s_pickF rfl rfl (v := .sc (.bool false)) rfl rfl rfl rfl ?_
        refine rt_nil ?_
        refine Exists.intro ⟨false, h⟩ ?_
        refine entX [] [] trivial trivial rfl rfl ?_
        exact ⟨(.free rfl), (.free rfl), (.free rfl), (.free rfl), trivial⟩
     ·replace h := cond_f h b4
      refine m1 ?_
      refine s_of (st_gtr rfl rfl rfl) rfl rfl rfl rfl ?_
      refine s_pickF rfl rfl (by conv => lhs; whnf) rfl rfl rfl ?_
      refine m1 ?_
      refine s_split (t := 19) rfl (fun b9 => ?_) (fun b9 => ?_)
      ·replace h := cond_t h b9
       refine m1 ?_
       refine s_of (st_lss rfl rfl rfl) rfl rfl rfl rfl ?_
       refine m1 ?_
       refine s_split (t := 22) rfl (fun b10 => ?_) (fun b10 => ?_)
       ·replace h := cond_t h b10
        refine s_skip rfl rfl rfl ?_
        refine s_skip rfl rfl rfl ?_
        refine s_pickT rfl rfl (v := .sc (.bool true)) rfl rfl rfl rfl ?_
        refine s_pickT rfl rfl (by conv => lhs; whnf) rfl rfl rfl ?_
        refine m1 ?_
        refine m1 ?_
        refine s_of (st_neI rfl rfl rfl) rfl rfl rfl rfl ?_
        refine s_pickT rfl rfl (by conv => lhs; whnf) rfl rfl rfl ?_
        refine m1 ?_
        refine s_split (t := 31) rfl (fun b11 => ?_) (fun b11 => ?_)
        ·replace h := cond_t h b11
         refine m1 ?_
         refine s_of (st_neI rfl rfl rfl) rfl rfl rfl rfl ?_
         refine s_pickT rfl rfl (by conv => lhs; whnf) rfl rfl rfl ?_
         refine rt_nil ?_
         refine Exists.intro ⟨!decide (x2 = 95), h⟩ ?_
         refine entX [] [] trivial trivial rfl rfl ?_
         exact ⟨(.free rfl), (.free rfl), (.free rfl), (.free rfl), trivial⟩
        ·replace h := cond_f h b11
         refine s_skip rfl rfl rfl ?_
         refine s_skip rfl rfl rfl ?_
         refine s_pickF rfl rfl (v := .sc (.bool false)) rfl rfl rfl rfl ?_
         refine rt_nil ?_
         refine Exists.intro ⟨false, h⟩ ?_
         refine entX [] [] trivial trivial rfl rfl ?_
         exact ⟨(.free rfl), (.free rfl), (.free rfl), (.free rfl), trivial⟩
       ·replace h := cond_f h b10
        refine m1 ?_
        refine s_of (st_gtr rfl rfl rfl) rfl rfl rfl rfl ?_
        refine s_pickF rfl rfl (by conv => lhs; whnf) rfl rfl rfl ?_
        refine s_pickT rfl rfl (by conv => lhs; whnf) rfl rfl rfl ?_
        refine m1 ?_
        refine s_split (t := 27) rfl (fun b12 => ?_) (fun b12 => ?_)
        ·replace h := cond_t h b12
         refine m1 ?_
         refine s_of (st_neI rfl rfl rfl) rfl rfl rfl rfl ?_
         refine s_pickT rfl rfl (by conv => lhs; whnf) rfl rfl rfl ?_
         refine m1 ?_
         refine s_split (t := 31) rfl (fun b13 => ?_) (fun b13 => ?_)
         ·replace h := cond_t h b13
          refine m1 ?_
          refine s_of (st_neI rfl rfl rfl) rfl rfl rfl rfl ?_
          refine s_pickT rfl rfl (by conv => lhs; whnf) rfl rfl rfl ?_
          refine rt_nil ?_
          refine Exists.intro ⟨!decide (x2 = 95), h⟩ ?_
          refine entX [] [] trivial trivial rfl rfl ?_
          exact ⟨(.free rfl), (.free rfl), (.free rfl), (.free rfl), trivial⟩
         ·replace h := cond_f h b13
          refine s_skip rfl rfl rfl ?_
          refine s_skip rfl rfl rfl ?_
          refine s_pickF rfl rfl (v := .sc (.bool false)) rfl rfl rfl rfl ?_
          refine rt_nil ?_
          refine Exists.intro ⟨false, h⟩ ?_
          refine entX [] [] trivial trivial rfl rfl ?_
          exact ⟨(.free rfl), (.free rfl), (.free rfl), (.free rfl), trivial⟩
        ·replace h := cond_f h b12
         refine s_skip rfl rfl rfl ?_
         refine s_skip rfl rfl rfl ?_
         refine s_pickF rfl rfl (v := .sc (.bool false)) rfl rfl rfl rfl ?_
         refine m1 ?_
         refine s_skip rfl rfl rfl ?_
         refine s_skip rfl rfl rfl ?_
         refine s_pickF rfl rfl (v := .sc (.bool false)) rfl rfl rfl rfl ?_
         refine rt_nil ?_
         refine Exists.intro ⟨false, h⟩ ?_
         refine entX [] [] trivial trivial rfl rfl ?_
         exact ⟨(.free rfl), (.free rfl), (.free rfl), (.free rfl), trivial⟩
      ·replace h := cond_f h b9
       refine s_skip rfl rfl rfl ?_
       refine s_skip rfl rfl rfl ?_
       refine s_skip rfl rfl rfl ?_
       refine s_skip rfl rfl rfl ?_
       refine s_skip rfl rfl rfl ?_
       refine s_skip rfl rfl rfl ?_
       refine s_pickF rfl rfl (v := .sc (.bool false)) rfl rfl rfl rfl ?_
       refine m1 ?_
       refine s_skip rfl rfl rfl ?_
       refine s_skip rfl rfl rfl ?_
       refine s_pickF rfl rfl (v := .sc (.bool false)) rfl rfl rfl rfl ?_
       refine m1 ?_
       refine s_skip rfl rfl rfl ?_
       refine s_skip rfl rfl rfl ?_
       refine s_pickF rfl rfl (v := .sc (.bool false)) rfl rfl rfl rfl ?_
       refine rt_nil ?_
       refine Exists.intro ⟨false, h⟩ ?_
       refine entX [] [] trivial trivial rfl rfl ?_
       exact ⟨(.free rfl), (.free rfl), (.free rfl), (.free rfl), trivial⟩
    ·rintro ⟨j2_0, h⟩
     replace h : i_LabelOk_j2 v1_0 (i_LabelOk_l1 p0 f1) j2_0 = some r0 := h
     unfold i_LabelOk_j2 at h
     show Tri _ _ _ (inv_i_LabelOk_2 p0 v1_0 j2_0)
     refine tri_cond rfl (fun c4 => ?_) (fun c4 => ?_)
     ·replace h := cond_t h c4
      refine tri_sr ?_
      refine s_mv (.inr rfl) (v := .sc (.bool false)) rfl rfl rfl rfl ?_
      refine rt_nil ?_
      refine tri_ret ?_
      have e0 := (some1 h); subst e0
      exact endY [] [] (rvC (resTmp rfl) rvN) trivial trivial rfl rfl rfl rfl (.free rfl)
     ·replace h := cond_f h c4
      refine tri_skip ?_
      refine tri_region ?_
      refine grd_elim h fun g5 h => ?_
      refine s_addI rfl rfl rfl rfl g5 rfl rfl rfl ?_
      refine m1 ?_
      refine rt_nil ?_
      refine Exists.intro ⟨(f1, v1_0 + 1), h⟩ (And.intro (Nat.lt_succ_self _) ?_)
      refine entX [] [] trivial trivial rfl rfl ?_
      exact ⟨(.free rfl), (.free rfl), (.free rfl), trivial⟩
   ·replace h := cond_f h c1
    refine tri_exit ?_
    refine Exists.intro ⟨(), h⟩ ?_
    refine entX [] [] trivial trivial rfl rfl ?_
    exact ⟨(.free rfl), trivial⟩
 ·rintro ⟨u, h⟩
  replace h : i_LabelOk_j0 p0 = some r0 := h
  unfold i_LabelOk_j0 at h
  show Tri _ _ _ (inv_i_LabelOk_0 p0)
  refine tri_sr ?_
  refine m1 ?_
  refine s_of (st_lenS rfl rfl iss9) rfl rfl rfl rfl ?_
  refine s_of (st_geq rfl rfl rfl) rfl rfl rfl rfl ?_
  refine m1 ?_
  refine s_split (t := 39) rfl (fun b1 => ?_) (fun b1 => ?_)
  ·replace h := cond_t h b1
   refine m1 ?_
   refine s_of (st_lenS rfl rfl iss9) rfl rfl rfl rfl ?_
   refine s_of (st_leq rfl rfl rfl) rfl rfl rfl rfl ?_
   refine s_pickT rfl rfl (by conv => lhs; whnf) rfl rfl rfl ?_
   refine m2 ?_
   refine rt_nil ?_
   refine tri_ret ?_
   have e0 := (some1 h); subst e0
   exact endY [] [] (rvC (resTmp rfl) rvN) trivial trivial rfl rfl rfl rfl (.free rfl)
  ·replace h := cond_f h b1
   refine s_skip rfl rfl rfl ?_
   refine s_skip rfl rfl rfl ?_
   refine s_skip rfl rfl rfl ?_
   refine s_pickF rfl rfl (v := .sc (.bool false)) rfl rfl rfl rfl ?_
   refine m2 ?_
   refine rt_nil ?_
   refine tri_ret ?_
   have e0 := (some1 h); subst e0
   exact endY [] [] (rvC (resTmp rfl) rvN) trivial trivial rfl rfl rfl rfl (.free rfl)

/- impl.NameOk$1 -/

set_option maxRecDepth 4000 in
set_option maxHeartbeats 800000 in
theorem wi_NameOk_1 (p0 : ByteArray) (r0 : Bool) (h : i_NameOk_1 p0 = some r0) : Runs Tryd.prog 97 [.sc (.string p0)] [] (.sc (.bool r0)) [] := by
 unfold i_NameOk_1 at h
 refine runsR [.tmp 2] Tryd.func97 rfl rfl rfl rfl ?_
 rw [Tryd.ntmps97]
 refine tri_sr ?_
 refine s_mv (.inr rfl) (v := .sc (.bool false)) rfl rfl rfl rfl ?_
 refine rt_nil ?_
 refine tri_sr ?_
 refine m1 ?_
 refine bnd1_elim h fun x1 q2 h => ?_
 refine s_callN (kb := []) (ns := []) (v := .sc (.bool x1)) rfl rfl cl98 (wi_LabelOk p0 x1 q2) rfl (.cons (.free rfl) .nil) trivial memNil .nil memNil rfl trivial memNil rfl rfl rfl rfl rfl rfl ?_
 refine s_of (st_not rfl rfl) rfl rfl rfl rfl ?_
 refine m2 ?_
 refine rt_nil ?_
 refine tri_ret ?_
 have e0 := (some1 h); subst e0
 exact endY [] [] (rvC (resTmp rfl) rvN) trivial trivial rfl rfl rfl rfl (.free rfl)

/- impl.NameOk -/

set_option maxRecDepth 4000 in
set_option maxHeartbeats 800000 in
theorem wi_NameOk (p0 : ByteArray) (r0 : Bool) (h : i_NameOk p0 = some r0) : Runs Tryd.prog 50 [.sc (.string p0)] [] (.sc (.bool r0)) [] := by
 unfold i_NameOk at h
 refine runsR [.tmp 2] Tryd.func50 rfl rfl rfl rfl ?_
 rw [Tryd.ntmps50]
 refine tri_sr ?_
 refine s_mv (.inr rfl) (v := .sc (.bool false)) rfl rfl rfl rfl ?_
 refine rt_nil ?_
 refine tri_sr ?_
 refine m1 ?_
 refine bnd1_elim h fun x1 q2 h => ?_
 refine s_callN (kb := []) (ns := []) (v := .ref (5, 0) 0 x1.length) rfl rfl cl95 (wi_Labels p0 x1 q2) rfl (.cons (.free rfl) .nil) trivial memNil .nil memNil rfl ⟨(allSc_map strV_sc), trivial⟩ memNil rfl (by simp only [V.mat, V.mat1, V.mat0, matL, matT, List.length_map] <;> rfl) rfl rfl rfl rfl ?_
 refine m2 ?_
 refine rt_nil ?_
 refine tri_sr ?_
 refine m1 ?_
 refine s_of (st_lenS rfl rfl iss9) rfl rfl rfl rfl ?_
 refine s_of (st_leq rfl rfl rfl) rfl rfl rfl rfl ?_
 refine m1 ?_
 refine s_split (t := 9) rfl (fun b3 => ?_) (fun b3 => ?_)
 ·replace h := cond_t h b3
  refine m1 ?_
  refine s_len (m := x1.length) rfl sl108 rfl rfl rfl rfl ?_
  refine s_of (st_leq rfl rfl rfl) rfl rfl rfl rfl ?_
  refine s_pickT rfl rfl (by conv => lhs; whnf) rfl rfl rfl ?_
  refine m1 ?_
  refine s_split (t := 14) rfl (fun b4 => ?_) (fun b4 => ?_)
  ·replace h := cond_t h b4
   refine m1 ?_
   refine bnd1_elim h fun x5 q6 h => ?_
   refine s_callN (kb := [(5, 0)]) (ns := []) (v := .sc (.bool x5)) rfl rfl cl96 (wslices_ContainsFunc_string x1 97 [] rfl cl97 (fun a0 => i_NameOk_1 a0) (fun a0 v0 hv => wi_NameOk_1 a0 v0 hv) x5 q6) rfl (.cons (lendL rfl (.head _) rfl strV_free strV_len) (.cons relFn0 .nil)) trivial memNil .nil (fun _ _ => List.not_mem_nil) rfl trivial memNil rfl rfl rfl rfl rfl rfl ?_
   refine s_of (st_not rfl rfl) rfl rfl rfl rfl ?_
   refine s_pickT rfl rfl (by conv => lhs; whnf) rfl rfl rfl ?_
   refine m2 ?_
   refine rt_nil ?_
   refine tri_ret ?_
   have e0 := (some1 h); subst e0
   exact endY [] [] (rvC (resTmp rfl) rvN) trivial trivial rfl rfl rfl rfl (.free rfl)
  ·replace h := cond_f h b4
   refine s_skip rfl rfl rfl ?_
   refine s_skip rfl rfl rfl ?_
   refine s_skip rfl rfl rfl ?_
   refine s_pickF rfl rfl (v := .sc (.bool false)) rfl rfl rfl rfl ?_
   refine m2 ?_
   refine rt_nil ?_
   refine tri_ret ?_
   have e0 := (some1 h); subst e0
   exact endY [] [] (rvC (resTmp rfl) rvN) trivial trivial rfl rfl rfl rfl (.free rfl)
 ·replace h := cond_f h b3
  refine s_skip rfl rfl rfl ?_
  refine s_skip rfl rfl rfl ?_
  refine s_skip rfl rfl rfl ?_
  refine s_pickF rfl rfl (v := .sc (.bool false)) rfl rfl rfl rfl ?_
  refine m1 ?_
  refine s_skip rfl rfl rfl ?_
  refine s_skip rfl rfl rfl ?_
  refine s_skip rfl rfl rfl ?_
  refine s_pickF rfl rfl (v := .sc (.bool false)) rfl rfl rfl rfl ?_
  refine m2 ?_
  refine rt_nil ?_
  refine tri_ret ?_
  have e0 := (some1 h); subst e0
  exact endY [] [] (rvC (resTmp rfl) rvN) trivial trivial rfl rfl rfl rfl (.free rfl)

/- impl.TypeText -/

set_option maxRecDepth 4000 in
set_option maxHeartbeats 800000 in
theorem wi_TypeText (p0 : Int) (r0 : ByteArray) (h : i_TypeText p0 = some r0) : Runs Tryd.prog 115 [.sc (.int .i64 p0)] [] (.sc (.string r0)) [] := by
 unfold i_TypeText at h
 refine runsR [.tmp 2] Tryd.func115 rfl rfl rfl rfl ?_
 rw [Tryd.ntmps115]
 refine tri_sr ?_
 refine s_mv (.inr rfl) (v := .sc (.string (⟨#[]⟩ : ByteArray))) rfl rfl rfl rfl ?_
 refine rt_nil ?_
 refine tri_seq ?_
 refine tri_sr ?_
 refine m1 ?_
 refine rt_nil ?_
 refine tri_block ?_
 refine tri_sr ?_
 refine s_of (st_eqI rfl rfl rfl) rfl rfl rfl rfl ?_
 refine m2 ?_
 refine rt_nil ?_
 refine tri_cond rfl (fun c1 => ?_) (fun c1 => ?_)
 ·replace h := cond_t h c1
  refine tri_sr ?_
  refine s_mv (.inr rfl) (v := .sc (.string (⟨#[97, 100, 100, 114]⟩ : ByteArray))) rfl rfl rfl rfl ?_
  refine rt_nil ?_
  refine tri_ret ?_
  have e0 := (some1 h); subst e0
  exact endY [] [] (rvC (resTmp rfl) rvN) trivial trivial rfl rfl rfl rfl (.free rfl)
 ·replace h := cond_f h c1
  refine tri_sr ?_
  refine s_of (st_eqI rfl rfl rfl) rfl rfl rfl rfl ?_
  refine m2 ?_
  refine rt_nil ?_
  refine tri_cond rfl (fun c2 => ?_) (fun c2 => ?_)
  ·replace h := cond_t h c2
   refine tri_sr ?_
   refine s_mv (.inr rfl) (v := .sc (.string (⟨#[115, 101, 114, 118, 101, 114]⟩ : ByteArray))) rfl rfl rfl rfl ?_
   refine rt_nil ?_
   refine tri_ret ?_
   have e0 := (some1 h); subst e0
   exact endY [] [] (rvC (resTmp rfl) rvN) trivial trivial rfl rfl rfl rfl (.free rfl)
  ·replace h := cond_f h c2
   refine tri_sr ?_
   refine s_of (st_eqI rfl rfl rfl) rfl rfl rfl rfl ?_
   refine m2 ?_
   refine rt_nil ?_
   refine tri_cond rfl (fun c3 => ?_) (fun c3 => ?_)
   ·replace h := cond_t h c3
    refine tri_sr ?_
    refine s_mv (.inr rfl) (v := .sc (.string (⟨#[97, 108, 105, 97, 115]⟩ : ByteArray))) rfl rfl rfl rfl ?_
    refine rt_nil ?_
    refine tri_ret ?_
    have e0 := (some1 h); subst e0
    exact endY [] [] (rvC (resTmp rfl) rvN) trivial trivial rfl rfl rfl rfl (.free rfl)
   ·replace h := cond_f h c3
    refine tri_sr ?_
    refine s_of (st_eqI rfl rfl rfl) rfl rfl rfl rfl ?_
    refine m2 ?_
    refine rt_nil ?_
    refine tri_cond rfl (fun c4 => ?_) (fun c4 => ?_)
    ·replace h := cond_t h c4
     refine tri_sr ?_
     refine s_mv (.inr rfl) (v := .sc (.string (⟨#[115, 116, 97, 114, 116]⟩ : ByteArray))) rfl rfl rfl rfl ?_
     refine rt_nil ?_
     refine tri_ret ?_
     have e0 := (some1 h); subst e0
     exact endY [] [] (rvC (resTmp rfl) rvN) trivial trivial rfl rfl rfl rfl (.free rfl)
    ·replace h := cond_f h c4
     refine tri_sr ?_
     refine s_of (st_eqI rfl rfl rfl) rfl rfl rfl rfl ?_
     refine m2 ?_
     refine rt_nil ?_
     refine tri_cond rfl (fun c5 => ?_) (fun c5 => ?_)
     ·replace h := cond_t h c5
      refine tri_sr ?_
      refine s_mv (.inr rfl) (v := .sc (.string (⟨#[116, 101, 120, 116]⟩ : ByteArray))) rfl rfl rfl rfl ?_
      refine rt_nil ?_
      refine tri_ret ?_
      have e0 := (some1 h); subst e0
      exact endY [] [] (rvC (resTmp rfl) rvN) trivial trivial rfl rfl rfl rfl (.free rfl)
     ·replace h := cond_f h c5
      refine tri_skip ?_
      refine tri_sr ?_
      refine s_mv (.inr rfl) (v := .sc (.string (⟨#[]⟩ : ByteArray))) rfl rfl rfl rfl ?_
      refine rt_nil ?_
      refine tri_ret ?_
      have e0 := (some1 h); subst e0
      exact endY [] [] (rvC (resTmp rfl) rvN) trivial trivial rfl rfl rfl rfl (.free rfl)

/- impl.TypeOk -/

set_option maxRecDepth 4000 in
set_option maxHeartbeats 800000 in
theorem wi_TypeOk (p0 : Int) (r0 : Bool) (h : i_TypeOk p0 = some r0) : Runs Tryd.prog 91 [.sc (.int .i64 p0)] [] (.sc (.bool r0)) [] := by
 unfold i_TypeOk at h
 refine runsR [.tmp 2] Tryd.func91 rfl rfl rfl rfl ?_
 rw [Tryd.ntmps91]
 refine tri_sr ?_
 refine s_mv (.inr rfl) (v := .sc (.bool false)) rfl rfl rfl rfl ?_
 refine rt_nil ?_
 refine tri_sr ?_
 refine m1 ?_
 refine bnd1_elim h fun x1 q2 h => ?_
 refine s_callN (kb := []) (ns := []) (v := .sc (.string x1)) rfl rfl cl115 (wi_TypeText p0 x1 q2) rfl (.cons (.free rfl) .nil) trivial memNil .nil memNil rfl trivial memNil rfl rfl rfl rfl rfl rfl ?_
 refine s_of (st_neS rfl rfl rfl) rfl rfl rfl rfl ?_
 refine m2 ?_
 refine rt_nil ?_
 refine tri_ret ?_
 have e0 := (some1 h); subst e0
 exact endY [] [] (rvC (resTmp rfl) rvN) trivial trivial rfl rfl rfl rfl (.free rfl)

/- impl.QuestOk -/

set_option maxRecDepth 4000 in
set_option maxHeartbeats 800000 in
theorem wi_QuestOk (p0 : Quest) (r0 : Bool) (h : i_QuestOk p0 = some r0) : Runs Tryd.prog 47 [.agg (questV p0)] [] (.sc (.bool r0)) [] := by
 unfold i_QuestOk at h
 refine runsR [.tmp 2] Tryd.func47 rfl rfl rfl rfl ?_
 rw [Tryd.ntmps47]
 refine tri_sr ?_
 refine s_box rfl rfl rfl rfl rfl rfl rfl ?_
 refine s_mv (.inr rfl) (v := .sc (.bool false)) rfl rfl rfl rfl ?_
 refine rt_nil ?_
 refine tri_sr ?_
 refine s_fieldAddr rfl rfl fd29_0 rfl rfl rfl rfl ?_
 refine s_load rfl rfl rfl rfl ty9 rfl (.inr rfl) (by conv => lhs; whnf) rfl rfl rfl ?_
 refine bnd1_elim h fun x1 q2 h => ?_
 refine s_callN (kb := []) (ns := []) (v := .sc (.bool x1)) rfl rfl cl50 (wi_NameOk p0.name x1 q2) rfl (.cons (.free rfl) .nil) trivial memNil .nil memNil rfl trivial memNil rfl rfl rfl rfl rfl rfl ?_
 refine m1 ?_
 refine s_split (t := 6) rfl (fun b3 => ?_) (fun b3 => ?_)
 ·replace h := cond_t h b3
  refine s_fieldAddr rfl rfl fd29_1 rfl rfl rfl rfl ?_
  refine s_load rfl rfl rfl rfl ty3 rfl (.inr rfl) (by conv => lhs; whnf) rfl rfl rfl ?_
  refine bnd1_elim h fun x4 q5 h => ?_
  refine s_callN (kb := []) (ns := []) (v := .sc (.bool x4)) rfl rfl cl91 (wi_TypeOk p0.ty x4 q5) rfl (.cons (.free rfl) .nil) trivial memNil .nil memNil rfl trivial memNil rfl rfl rfl rfl rfl rfl ?_
  refine s_pickT rfl rfl (by conv => lhs; whnf) rfl rfl rfl ?_
  refine m2 ?_
  refine rt_nil ?_
  refine tri_ret ?_
  have e0 := (some1 h); subst e0
  exact endY [] [] (rvC (resTmp rfl) rvN) trivial trivial rfl rfl rfl rfl (.free rfl)
 ·replace h := cond_f h b3
  refine s_skip rfl rfl rfl ?_
  refine s_skip rfl rfl rfl ?_
  refine s_skip rfl rfl rfl ?_
  refine s_pickF rfl rfl (v := .sc (.bool false)) rfl rfl rfl rfl ?_
  refine m2 ?_
  refine rt_nil ?_
  refine tri_ret ?_
  have e0 := (some1 h); subst e0
  exact endY [] [] (rvC (resTmp rfl) rvN) trivial trivial rfl rfl rfl rfl (.free rfl)

/- impl.Record] -/
def inv_slices_IndexFunc_Record_0 (p0 : List Rec) (fi1 : FuncId) (cp1 : List V) (v0_0 : Nat) : St := mkT 19 [(0, .lst 6 (List.map recV p0)), (1, .fn fi1 cp1), (7, .sc (.int .i64 (p0.length : Int))), (8, .sc (.int .i64 (v0_0 : Int)))] []
set_option maxRecDepth 4000 in
set_option maxHeartbeats 800000 in
theorem wslices_IndexFunc_Record (p0 : List Rec) (fi1 : FuncId) (cp1 : List V) (hf1 : cp1.all (·.free) = true) (hb1 : callable Tryd.prog fi1 = true) (p1 : Rec → Option Bool) (hg1 : ∀ (z0 : Rec) v, p1 z0 = some v → Runs Tryd.prog fi1 ([.agg (recV z0)] ++ cp1) [] (.sc (.bool v)) []) (r0 : Int) (h : slices_IndexFunc_Record p0 p1 = some r0) : Runs Tryd.prog 116 [.lst 6 (List.map recV p0), .fn fi1 cp1] [] (.sc (.int .i64 r0)) [] := by
 unfold slices_IndexFunc_Record at h
 refine runsR [.tmp 4] Tryd.func116 rfl rfl rfl rfl ?_
 rw [Tryd.ntmps116]
 refine tri_sr ?_
 refine s_mv (.inr rfl) (v := .sc (.int .i64 0)) rfl rfl rfl rfl ?_
 refine rt_nil ?_
 refine tri_seq ?_
 refine tri_sr ?_
 refine m1 ?_
 refine s_lenL rfl sl30 rfl rfl rfl rfl ?_
 refine s_mv (.inl rfl) (v := .sc (.int .i64 0)) rfl rfl rfl rfl ?_
 refine rt_nil ?_
 refine tri_block ?_
 refine tri_lstM 0 rfl (fun hl0 => ?_)
 refine tri_loop (ι := { p : (List Rec) × Nat // p0.drop p.2 = p.1 ∧ slices_IndexFunc_Record_l0 p1 p.1 p.2 = some r0 }) (fun p => inv_slices_IndexFunc_Record_0 p0 fi1 cp1 p.1.2) (fun p => p.1.1.length) ⟨(p0, 0), rfl, h⟩ ?_ ?_
 ·skip
  refine entX [] [] trivial trivial rfl rfl ?_
  exact ⟨(.free rfl), (cvFn hf1), (.free rfl), (.free rfl), trivial⟩
 ·rintro ⟨⟨lrs0, v0_0⟩, hd0, h⟩
  replace hd0 : p0.drop v0_0 = lrs0 := hd0
  replace h : slices_IndexFunc_Record_l0 p1 lrs0 v0_0 = some r0 := h
  show Tri _ _ _ (inv_slices_IndexFunc_Record_0 p0 fi1 cp1 v0_0)
  refine tri_sr ?_
  refine s_of (st_lss rfl rfl rfl) rfl rfl rfl rfl ?_
  refine rt_nil ?_
  refine tri_seq ?_
  refine tri_cond rfl (fun c1 => ?_) (fun c1 => ?_)
  ·refine drop_elim hd0 c1 fun e0 rs0 he hx0 hn0 => ?_
   subst he
   rw [slices_IndexFunc_Record_l0] at h
   refine tri_skip ?_
   refine tri_seq ?_
   refine tri_block ?_
   refine tri_sr ?_
   refine m1 ?_
   refine m2 ?_
   refine rt_nil ?_
   refine tri_sr ?_
   refine m1 ?_
   refine m1 ?_
   refine m1 ?_
   refine s_indexF (i := v0_0) rfl rfl rfl sl30 (get_ltM hx0) rfl rfl rfl ?_
   refine s_loadFR rfl rfl (rowG hx0) ty60 rfl rfl rfl ?_
   refine bnd1_elim h fun x2 q3 h => ?_
   refine s_callN (kb := []) (ns := []) (v := .sc (.bool x2)) rfl rfl hb1 (hg1 e0 x2 q3) rfl (.cons (relAgg rfl) (argsFree hf1)) trivial memNil .nil memNil rfl trivial memNil rfl rfl rfl rfl rfl rfl ?_
   refine rt_nil ?_
   refine tri_cond rfl (fun c4 => ?_) (fun c4 => ?_)
   ·replace h := cond_t h c4
    refine tri_sr ?_
    refine m1 ?_
    refine m2 ?_
    refine rt_nil ?_
    refine tri_ret ?_
    have e0 := (some1 h); subst e0
    exact endY [] [] (rvC (resTmp rfl) rvN) trivial trivial rfl rfl rfl rfl (.free rfl)
   ·replace h := cond_f h c4
    refine tri_skip ?_
    refine tri_region ?_
    refine s_inc (a := v0_0) (b := 1) rfl rfl rfl rfl (by have := get_lt hx0; have := hl0; omega) rfl rfl rfl ?_
    refine m1 ?_
    refine rt_nil ?_
    refine Exists.intro ⟨(rs0, (v0_0 + 1)), hn0, h⟩ (And.intro (Nat.lt_succ_self _) ?_)
    refine entX [] [] trivial trivial rfl rfl ?_
    exact ⟨(.free rfl), (cvFn hf1), (.free rfl), (.free rfl), trivial⟩
  ·have he := drop_f hd0 c1; subst he
   rw [slices_IndexFunc_Record_l0] at h
   refine tri_exit ?_
   refine tri_sr ?_
   refine s_mv (.inr rfl) (v := .sc (.int .i64 (-1))) rfl rfl rfl rfl ?_
   refine rt_nil ?_
   refine tri_ret ?_
   have e0 := (some1 h); subst e0
   exact endY [] [] (rvC (resTmp rfl) rvN) trivial trivial rfl rfl rfl rfl (.free rfl)

/- impl.Record] -/

set_option maxRecDepth 4000 in
set_option maxHeartbeats 800000 in
theorem wslices_ContainsFunc_Record (p0 : List Rec) (fi1 : FuncId) (cp1 : List V) (hf1 : cp1.all (·.free) = true) (hb1 : callable Tryd.prog fi1 = true) (p1 : Rec → Option Bool) (hg1 : ∀ (z0 : Rec) v, p1 z0 = some v → Runs Tryd.prog fi1 ([.agg (recV z0)] ++ cp1) [] (.sc (.bool v)) []) (r0 : Bool) (h : slices_ContainsFunc_Record p0 p1 = some r0) : Runs Tryd.prog 92 [.lst 6 (List.map recV p0), .fn fi1 cp1] [] (.sc (.bool r0)) [] := by
 unfold slices_ContainsFunc_Record at h
 refine runsR [.tmp 4] Tryd.func92 rfl rfl rfl rfl ?_
 rw [Tryd.ntmps92]
 refine tri_sr ?_
 refine s_mv (.inr rfl) (v := .sc (.bool false)) rfl rfl rfl rfl ?_
 refine rt_nil ?_
 refine tri_sr ?_
 refine m1 ?_
 refine m1 ?_
 refine bnd1_elim h fun x1 q2 h => ?_
 refine s_callN (kb := []) (ns := []) (v := .sc (.int .i64 x1)) rfl rfl cl116 (wslices_IndexFunc_Record p0 fi1 cp1 hf1 hb1 p1 hg1 x1 q2) rfl (.cons (.free rfl) (.cons (relFn hf1) .nil)) trivial memNil .nil memNil rfl trivial memNil rfl rfl rfl rfl rfl rfl ?_
 refine s_of (st_geq rfl rfl rfl) rfl rfl rfl rfl ?_
 refine m2 ?_
 refine rt_nil ?_
 refine tri_ret ?_
 have e0 := (some1 h); subst e0
 exact endY [] [] (rvC (resTmp rfl) rvN) trivial trivial rfl rfl rfl rfl (.free rfl)

/- impl.isTtl -/

set_option maxRecDepth 4000 in
set_option maxHeartbeats 800000 in
theorem wi_isTtl (p0 : Int) (r0 : Bool) (h : i_isTtl p0 = some r0) : Runs Tryd.prog 117 [.sc (.int .i64 p0)] [] (.sc (.bool r0)) [] := by
 unfold i_isTtl at h
 refine runsR [.tmp 2] Tryd.func117 rfl rfl rfl rfl ?_
 rw [Tryd.ntmps117]
 refine tri_sr ?_
 refine s_mv (.inr rfl) (v := .sc (.bool false)) rfl rfl rfl rfl ?_
 refine rt_nil ?_
 refine tri_sr ?_
 refine m1 ?_
 refine s_of (st_geq rfl rfl rfl) rfl rfl rfl rfl ?_
 refine m1 ?_
 refine s_split (t := 5) rfl (fun b1 => ?_) (fun b1 => ?_)
 ·replace h := cond_t h b1
  refine m1 ?_
  refine s_of (st_leq rfl rfl rfl) rfl rfl rfl rfl ?_
  refine s_pickT rfl rfl (by conv => lhs; whnf) rfl rfl rfl ?_
  refine m2 ?_
  refine rt_nil ?_
  refine tri_ret ?_
  have e0 := (some1 h); subst e0
  exact endY [] [] (rvC (resTmp rfl) rvN) trivial trivial rfl rfl rfl rfl (.free rfl)
 ·replace h := cond_f h b1
  refine s_skip rfl rfl rfl ?_
  refine s_skip rfl rfl rfl ?_
  refine s_pickF rfl rfl (v := .sc (.bool false)) rfl rfl rfl rfl ?_
  refine m2 ?_
  refine rt_nil ?_
  refine tri_ret ?_
  have e0 := (some1 h); subst e0
  exact endY [] [] (rvC (resTmp rfl) rvN) trivial trivial rfl rfl rfl rfl (.free rfl)

/- impl.isFour -/

set_option maxRecDepth 4000 in
set_option maxHeartbeats 800000 in
theorem wi_isFour (p0 : Int) (r0 : Bool) (h : i_isFour p0 = some r0) : Runs Tryd.prog 118 [.sc (.int .i64 p0)] [] (.sc (.bool r0)) [] := by
 unfold i_isFour at h
 refine runsR [.tmp 2] Tryd.func118 rfl rfl rfl rfl ?_
 rw [Tryd.ntmps118]
 refine tri_sr ?_
 refine s_mv (.inr rfl) (v := .sc (.bool false)) rfl rfl rfl rfl ?_
 refine rt_nil ?_
 refine tri_sr ?_
 refine m1 ?_
 refine s_of (st_geq rfl rfl rfl) rfl rfl rfl rfl ?_
 refine m1 ?_
 refine s_split (t := 5) rfl (fun b1 => ?_) (fun b1 => ?_)
 ·replace h := cond_t h b1
  refine m1 ?_
  refine s_of (st_leq rfl rfl rfl) rfl rfl rfl rfl ?_
  refine s_pickT rfl rfl (by conv => lhs; whnf) rfl rfl rfl ?_
  refine m2 ?_
  refine rt_nil ?_
  refine tri_ret ?_
  have e0 := (some1 h); subst e0
  exact endY [] [] (rvC (resTmp rfl) rvN) trivial trivial rfl rfl rfl rfl (.free rfl)
 ·replace h := cond_f h b1
  refine s_skip rfl rfl rfl ?_
  refine s_skip rfl rfl rfl ?_
  refine s_pickF rfl rfl (v := .sc (.bool false)) rfl rfl rfl rfl ?_
  refine m2 ?_
  refine rt_nil ?_
  refine tri_ret ?_
  have e0 := (some1 h); subst e0
  exact endY [] [] (rvC (resTmp rfl) rvN) trivial trivial rfl rfl rfl rfl (.free rfl)

/- impl.isText -/
def inv_i_isText_2 (p0 : ByteArray) (v1_0 : Int) (j2_0 : Bool) : St := mkT 23 [(0, .sc (.string p0)), (5, .sc (.int .i64 (p0.size : Int))), (6, .sc (.int .i64 v1_0)), (18, .sc (.bool j2_0))] []
def inv_i_isText_1 (p0 : ByteArray) (v1_0 : Int) : St := mkT 23 [(0, .sc (.string p0)), (5, .sc (.int .i64 (p0.size : Int))), (6, .sc (.int .i64 v1_0))] []
def inv_i_isText_0 (p0 : ByteArray) : St := mkT 23 [(0, .sc (.string p0))] []
set_option maxRecDepth 4000 in
set_option maxHeartbeats 800000 in
theorem wi_isText (p0 : ByteArray) (r0 : Bool) (h : i_isText p0 = some r0) : Runs Tryd.prog 119 [.sc (.string p0)] [] (.sc (.bool r0)) [] := by
 unfold i_isText at h
 refine runsR [.tmp 2] Tryd.func119 rfl rfl rfl rfl ?_
 rw [Tryd.ntmps119]
 refine tri_sr ?_
 refine s_mv (.inr rfl) (v := .sc (.bool false)) rfl rfl rfl rfl ?_
 refine rt_nil ?_
 refine tri_cutI (ι := { p : Unit // i_isText_j0 p0 = some r0 }) (fun p => inv_i_isText_0 p0) ?_ ?_
 ·skip
  refine tri_sr ?_
  refine m1 ?_
  refine s_of (st_lenS rfl rfl iss9) rfl rfl rfl rfl ?_
  refine s_mv (.inl rfl) (v := .sc (.int .i64 0)) rfl rfl rfl rfl ?_
  refine rt_nil ?_
  refine tri_block ?_
  refine tri_loop (ι := { p : Nat × Int // i_isText_l1 p0 p.1 p.2 = some r0 }) (fun p => inv_i_isText_1 p0 p.1.2) (fun p => p.1.1) ⟨(fuel0, 0), h⟩ ?_ ?_
  ·skip
   refine entX [] [] trivial trivial rfl rfl ?_
   exact ⟨(.free rfl), (.free rfl), (.free rfl), trivial⟩
  ·rintro ⟨⟨f1, v1_0⟩, h⟩
   replace h : i_isText_l1 p0 f1 v1_0 = some r0 := h
   cases f1 with
   | zero => cases h
   | succ f1 =>
   rw [i_isText_l1] at h
   show Tri _ _ _ (inv_i_isText_1 p0 v1_0)
   refine tri_sr ?_
   refine s_of (st_lss rfl rfl rfl) rfl rfl rfl rfl ?_
   refine rt_nil ?_
   refine tri_seq ?_
   refine tri_cond rfl (fun c1 => ?_) (fun c1 => ?_)
   ·replace h := cond_t h c1
    refine tri_skip ?_
    refine tri_seq ?_
    refine tri_block ?_
    refine tri_sr ?_
    refine m1 ?_
    refine m2 ?_
    refine rt_nil ?_
    refine tri_cutI (ι := { p : Bool // i_isText_j2 v1_0 (i_isText_l1 p0 f1) p = some r0 }) (fun p => inv_i_isText_2 p0 v1_0 p.1) ?_ ?_
    ·skip
     refine tri_region ?_
     refine m1 ?_
     refine m1 ?_
     refine bnd1_elim h fun x2 q3 h => ?_
     refine s_idxS rfl rfl rfl iss9 q3 rfl rfl rfl ?_
     refine s_of (st_lss rfl rfl rfl) rfl rfl rfl rfl ?_
     refine m1 ?_
     refine s_split (t := 13) rfl (fun b4 => ?_) (fun b4 => ?_)
     ·replace h := cond_t h b4
      refine s_skip rfl rfl rfl ?_
      refine s_skip rfl rfl rfl ?_
      refine s_skip rfl rfl rfl ?_
      refine s_skip rfl rfl rfl ?_
      refine s_pickT rfl rfl (v := .sc (.bool true)) rfl rfl rfl rfl ?_
      refine rt_nil ?_
      refine Exists.intro ⟨true, h⟩ ?_
      refine entX [] [] trivial trivial rfl rfl ?_
      exact ⟨(.free rfl), (.free rfl), (.free rfl), (.free rfl), trivial⟩
     ·replace h := cond_f h b4
      refine m1 ?_
      refine m1 ?_
      refine bnd1_elim h fun x5 q6 h => ?_
      refine s_idxS rfl rfl rfl iss9 q6 rfl rfl rfl ?_
      refine s_of (st_gtr rfl rfl rfl) rfl rfl rfl rfl ?_
      refine s_pickF rfl rfl (by conv => lhs; whnf) rfl rfl rfl ?_
      refine rt_nil ?_
      refine Exists.intro ⟨decide (126 < x5), h⟩ ?_
      refine entX [] [] trivial trivial rfl rfl ?_
      exact ⟨(.free rfl), (.free rfl), (.free rfl), (.free rfl), trivial⟩
    ·rintro ⟨j2_0, h⟩
     replace h : i_isText_j2 v1_0 (i_isText_l1 p0 f1) j2_0 = some r0 := h
     unfold i_isText_j2 at h
     show Tri _ _ _ (inv_i_isText_2 p0 v1_0 j2_0)
     refine tri_cond rfl (fun c2 => ?_) (fun c2 => ?_)
     ·replace h := cond_t h c2
      refine tri_sr ?_
      refine s_mv (.inr rfl) (v := .sc (.bool false)) rfl rfl rfl rfl ?_
      refine rt_nil ?_
      refine tri_ret ?_
      have e0 := (some1 h); subst e0
      exact endY [] [] (rvC (resTmp rfl) rvN) trivial trivial rfl rfl rfl rfl (.free rfl)
     ·replace h := cond_f h c2
      refine tri_skip ?_
      refine tri_region ?_
      refine grd_elim h fun g3 h => ?_
      refine s_addI rfl rfl rfl rfl g3 rfl rfl rfl ?_
      refine m1 ?_
      refine rt_nil ?_
      refine Exists.intro ⟨(f1, v1_0 + 1), h⟩ (And.intro (Nat.lt_succ_self _) ?_)
      refine entX [] [] trivial trivial rfl rfl ?_
      exact ⟨(.free rfl), (.free rfl), (.free rfl), trivial⟩
   ·replace h := cond_f h c1
    refine tri_exit ?_
    refine Exists.intro ⟨(), h⟩ ?_
    refine entX [] [] trivial trivial rfl rfl ?_
    exact ⟨(.free rfl), trivial⟩
 ·rintro ⟨u, h⟩
  replace h : i_isText_j0 p0 = some r0 := h
  unfold i_isText_j0 at h
  show Tri _ _ _ (inv_i_isText_0 p0)
  refine tri_sr ?_
  refine m1 ?_
  refine s_of (st_lenS rfl rfl iss9) rfl rfl rfl rfl ?_
  refine s_of (st_leq rfl rfl rfl) rfl rfl rfl rfl ?_
  refine m2 ?_
  refine rt_nil ?_
  refine tri_ret ?_
  have e0 := (some1 h); subst e0
  exact endY [] [] (rvC (resTmp rfl) rvN) trivial trivial rfl rfl rfl rfl (.free rfl)

/- impl.RecordOk -/
def inv_i_RecordOk_1 (p0 : Rec) (j1_0 : Bool) : St := mkT 76 [(1, .ptr (1, 0) 0 0), (14, .sc (.int .i64 p0.ty)), (30, .sc (.bool j1_0))] [((1, 0), some ⟨60, 6, [[.sc (.string p0.name), .sc (.int .i64 p0.ty), .sc (.int .i64 p0.ttl), .sc (.int .i64 p0.n), .sc (.string p0.host), .sc (.string p0.text)]], false, true⟩)]
def inv_i_RecordOk_0 (p0 : Rec) (j0_0 : Bool) : St := mkT 76 [(1, .ptr (1, 0) 0 0), (12, .sc (.bool j0_0))] [((1, 0), some ⟨60, 6, [[.sc (.string p0.name), .sc (.int .i64 p0.ty), .sc (.int .i64 p0.ttl), .sc (.int .i64 p0.n), .sc (.string p0.host), .sc (.string p0.text)]], false, true⟩)]
set_option maxRecDepth 4000 in
set_option maxHeartbeats 800000 in
theorem wi_RecordOk (p0 : Rec) (r0 : Bool) (h : i_RecordOk p0 = some r0) : Runs Tryd.prog 94 [.agg (recV p0)] [] (.sc (.bool r0)) [] := by
 unfold i_RecordOk at h
 refine runsR [.tmp 2] Tryd.func94 rfl rfl rfl rfl ?_
 rw [Tryd.ntmps94]
 refine tri_sr ?_
 refine s_box rfl rfl rfl rfl rfl rfl rfl ?_
 refine s_mv (.inr rfl) (v := .sc (.bool false)) rfl rfl rfl rfl ?_
 refine rt_nil ?_
 refine tri_seq ?_
 refine tri_cutI (ι := { p : Bool // i_RecordOk_j0 p0 p = some r0 }) (fun p => inv_i_RecordOk_0 p0 p.1) ?_ ?_
 ·skip
  refine tri_region ?_
  refine s_fieldAddr rfl rfl fd60_0 rfl rfl rfl rfl ?_
  refine s_load rfl rfl rfl rfl ty9 rfl (.inr rfl) (by conv => lhs; whnf) rfl rfl rfl ?_
  refine bnd1_elim h fun x1 q2 h => ?_
  refine s_callN (kb := []) (ns := []) (v := .sc (.bool x1)) rfl rfl cl50 (wi_NameOk p0.name x1 q2) rfl (.cons (.free rfl) .nil) trivial memNil .nil memNil rfl trivial memNil rfl rfl rfl rfl rfl rfl ?_
  refine s_of (st_not rfl rfl) rfl rfl rfl rfl ?_
  refine m1 ?_
  refine s_split (t := 7) rfl (fun b3 => ?_) (fun b3 => ?_)
  ·replace h := cond_t h b3
   refine s_skip rfl rfl rfl ?_
   refine s_skip rfl rfl rfl ?_
   refine s_skip rfl rfl rfl ?_
   refine s_skip rfl rfl rfl ?_
   refine s_pickT rfl rfl (v := .sc (.bool true)) rfl rfl rfl rfl ?_
   refine rt_nil ?_
   refine Exists.intro ⟨true, h⟩ ?_
   refine entX [((1, 0), ⟨60, 6, [[.sc (.string p0.name), .sc (.int .i64 p0.ty), .sc (.int .i64 p0.ttl), .sc (.int .i64 p0.n), .sc (.string p0.host), .sc (.string p0.text)]], false, true⟩, some (1, 0))] [] ⟨⟨rfl, _, rfl, rfl, rfl, rfl, id, rowsCv_one (.cons (.free rfl) (.cons (.free rfl) (.cons (.free rfl) (.cons (.free rfl) (.cons (.free rfl) (.cons (.free rfl) .nil)))))), rowsZ_one rfl⟩, trivial⟩ trivial rfl rfl ?_
   exact ⟨(.ptr rfl), (.free rfl), trivial⟩
  ·replace h := cond_f h b3
   refine s_fieldAddr rfl rfl fd60_2 rfl rfl rfl rfl ?_
   refine s_load rfl rfl rfl rfl ty3 rfl (.inr rfl) (by conv => lhs; whnf) rfl rfl rfl ?_
   refine bnd1_elim h fun x4 q5 h => ?_
   refine s_callN (kb := []) (ns := []) (v := .sc (.bool x4)) rfl rfl cl117 (wi_isTtl p0.ttl x4 q5) rfl (.cons (.free rfl) .nil) trivial memNil .nil memNil rfl trivial memNil rfl rfl rfl rfl rfl rfl ?_
   refine s_of (st_not rfl rfl) rfl rfl rfl rfl ?_
   refine s_pickF rfl rfl (by conv => lhs; whnf) rfl rfl rfl ?_
   refine rt_nil ?_
   refine Exists.intro ⟨!x4, h⟩ ?_
   refine entX [((1, 0), ⟨60, 6, [[.sc (.string p0.name), .sc (.int .i64 p0.ty), .sc (.int .i64 p0.ttl), .sc (.int .i64 p0.n), .sc (.string p0.host), .sc (.string p0.text)]], false, true⟩, some (1, 0))] [] ⟨⟨rfl, _, rfl, rfl, rfl, rfl, id, rowsCv_one (.cons (.free rfl) (.cons (.free rfl) (.cons (.free rfl) (.cons (.free rfl) (.cons (.free rfl) (.cons (.free rfl) .nil)))))), rowsZ_one rfl⟩, trivial⟩ trivial rfl rfl ?_
   exact ⟨(.ptr rfl), (.free rfl), trivial⟩
 ·rintro ⟨j0_0, h⟩
  replace h : i_RecordOk_j0 p0 j0_0 = some r0 := h
  unfold i_RecordOk_j0 at h
  show Tri _ _ _ (inv_i_RecordOk_0 p0 j0_0)
  refine tri_cond rfl (fun c1 => ?_) (fun c1 => ?_)
  ·replace h := cond_t h c1
   refine tri_sr ?_
   refine s_mv (.inr rfl) (v := .sc (.bool false)) rfl rfl rfl rfl ?_
   refine rt_nil ?_
   refine tri_ret ?_
   have e0 := (some1 h); subst e0
   exact endY [] [] (rvC (resTmp rfl) rvN) trivial trivial rfl rfl rfl rfl (.free rfl)
  ·replace h := cond_f h c1
   refine tri_skip ?_
   refine tri_seq ?_
   refine tri_sr ?_
   refine s_fieldAddr rfl rfl fd60_1 rfl rfl rfl rfl ?_
   refine s_load rfl rfl rfl rfl ty3 rfl (.inr rfl) (by conv => lhs; whnf) rfl rfl rfl ?_
   refine rt_nil ?_
   refine tri_block ?_
   refine tri_sr ?_
   refine s_of (st_eqI rfl rfl rfl) rfl rfl rfl rfl ?_
   refine m2 ?_
   refine rt_nil ?_
   refine tri_cond rfl (fun c2 => ?_) (fun c2 => ?_)
   ·replace h := cond_t h c2
    refine tri_sr ?_
    refine s_fieldAddr rfl rfl fd60_3 rfl rfl rfl rfl ?_
    refine s_load rfl rfl rfl rfl ty3 rfl (.inr rfl) (by conv => lhs; whnf) rfl rfl rfl ?_
    refine bnd1_elim h fun x3 q4 h => ?_
    refine s_callN (kb := []) (ns := []) (v := .sc (.bool x3)) rfl rfl cl118 (wi_isFour p0.n x3 q4) rfl (.cons (.free rfl) .nil) trivial memNil .nil memNil rfl trivial memNil rfl rfl rfl rfl rfl rfl ?_
    refine m1 ?_
    refine s_split (t := 20) rfl (fun b5 => ?_) (fun b5 => ?_)
    ·replace h := cond_t h b5
     refine s_fieldAddr rfl rfl fd60_4 rfl rfl rfl rfl ?_
     refine s_load rfl rfl rfl rfl ty9 rfl (.inr rfl) (by conv => lhs; whnf) rfl rfl rfl ?_
     refine s_of (st_eqS rfl rfl rfl) rfl rfl rfl rfl ?_
     refine s_pickT rfl rfl (by conv => lhs; whnf) rfl rfl rfl ?_
     refine m1 ?_
     refine s_split (t := 25) rfl (fun b6 => ?_) (fun b6 => ?_)
     ·replace h := cond_t h b6
      refine s_fieldAddr rfl rfl fd60_5 rfl rfl rfl rfl ?_
      refine s_load rfl rfl rfl rfl ty9 rfl (.inr rfl) (by conv => lhs; whnf) rfl rfl rfl ?_
      refine s_of (st_eqS rfl rfl rfl) rfl rfl rfl rfl ?_
      refine s_pickT rfl rfl (by conv => lhs; whnf) rfl rfl rfl ?_
      refine m2 ?_
      refine rt_nil ?_
      refine tri_ret ?_
      have e0 := (some1 h); subst e0
      exact endY [] [] (rvC (resTmp rfl) rvN) trivial trivial rfl rfl rfl rfl (.free rfl)
     ·replace h := cond_f h b6
      refine s_skip rfl rfl rfl ?_
      refine s_skip rfl rfl rfl ?_
      refine s_skip rfl rfl rfl ?_
      refine s_pickF rfl rfl (v := .sc (.bool false)) rfl rfl rfl rfl ?_
      refine m2 ?_
      refine rt_nil ?_
      refine tri_ret ?_
      have e0 := (some1 h); subst e0
      exact endY [] [] (rvC (resTmp rfl) rvN) trivial trivial rfl rfl rfl rfl (.free rfl)
    ·replace h := cond_f h b5
     refine s_skip rfl rfl rfl ?_
     refine s_skip rfl rfl rfl ?_
     refine s_skip rfl rfl rfl ?_
     refine s_pickF rfl rfl (v := .sc (.bool false)) rfl rfl rfl rfl ?_
     refine m1 ?_
     refine s_skip rfl rfl rfl ?_
     refine s_skip rfl rfl rfl ?_
     refine s_skip rfl rfl rfl ?_
     refine s_pickF rfl rfl (v := .sc (.bool false)) rfl rfl rfl rfl ?_
     refine m2 ?_
     refine rt_nil ?_
     refine tri_ret ?_
     have e0 := (some1 h); subst e0
     exact endY [] [] (rvC (resTmp rfl) rvN) trivial trivial rfl rfl rfl rfl (.free rfl)
   ·replace h := cond_f h c2
    refine tri_cutI (ι := { p : Bool // i_RecordOk_j1 p0 p = some r0 }) (fun p => inv_i_RecordOk_1 p0 p.1) ?_ ?_
    ·skip
     refine tri_sr ?_
     refine s_of (st_eqI rfl rfl rfl) rfl rfl rfl rfl ?_
     refine m2 ?_
     refine rt_nil ?_
     refine tri_cond rfl (fun c7 => ?_) (fun c7 => ?_)
     ·replace h := cond_t h c7
      refine tri_skip ?_
      refine Exists.intro ⟨decide (p0.ty = 2), h⟩ ?_
      refine entX [((1, 0), ⟨60, 6, [[.sc (.string p0.name), .sc (.int .i64 p0.ty), .sc (.int .i64 p0.ttl), .sc (.int .i64 p0.n), .sc (.string p0.host), .sc (.string p0.text)]], false, true⟩, some (1, 0))] [] ⟨⟨rfl, _, rfl, rfl, rfl, rfl, id, rowsCv_one (.cons (.free rfl) (.cons (.free rfl) (.cons (.free rfl) (.cons (.free rfl) (.cons (.free rfl) (.cons (.free rfl) .nil)))))), rowsZ_one rfl⟩, trivial⟩ trivial rfl rfl ?_
      exact ⟨(.ptr rfl), (.free rfl), (.free rfl), trivial⟩
     ·replace h := cond_f h c7
      refine tri_region ?_
      refine s_of (st_eqI rfl rfl rfl) rfl rfl rfl rfl ?_
      refine m2 ?_
      refine rt_nil ?_
      refine Exists.intro ⟨decide (p0.ty = 5), h⟩ ?_
      refine entX [((1, 0), ⟨60, 6, [[.sc (.string p0.name), .sc (.int .i64 p0.ty), .sc (.int .i64 p0.ttl), .sc (.int .i64 p0.n), .sc (.string p0.host), .sc (.string p0.text)]], false, true⟩, some (1, 0))] [] ⟨⟨rfl, _, rfl, rfl, rfl, rfl, id, rowsCv_one (.cons (.free rfl) (.cons (.free rfl) (.cons (.free rfl) (.cons (.free rfl) (.cons (.free rfl) (.cons (.free rfl) .nil)))))), rowsZ_one rfl⟩, trivial⟩ trivial rfl rfl ?_
      exact ⟨(.ptr rfl), (.free rfl), (.free rfl), trivial⟩
    ·rintro ⟨j1_0, h⟩
     replace h : i_RecordOk_j1 p0 j1_0 = some r0 := h
     unfold i_RecordOk_j1 at h
     show Tri _ _ _ (inv_i_RecordOk_1 p0 j1_0)
     refine tri_cond rfl (fun c7 => ?_) (fun c7 => ?_)
     ·replace h := cond_t h c7
      refine tri_sr ?_
      refine s_fieldAddr rfl rfl fd60_3 rfl rfl rfl rfl ?_
      refine s_load rfl rfl rfl rfl ty3 rfl (.inr rfl) (by conv => lhs; whnf) rfl rfl rfl ?_
      refine s_of (st_eqI rfl rfl rfl) rfl rfl rfl rfl ?_
      refine m1 ?_
      refine s_split (t := 36) rfl (fun b8 => ?_) (fun b8 => ?_)
      ·replace h := cond_t h b8
       refine s_fieldAddr rfl rfl fd60_4 rfl rfl rfl rfl ?_
       refine s_load rfl rfl rfl rfl ty9 rfl (.inr rfl) (by conv => lhs; whnf) rfl rfl rfl ?_
       refine bnd1_elim h fun x9 q10 h => ?_
       refine s_callN (kb := []) (ns := []) (v := .sc (.bool x9)) rfl rfl cl50 (wi_NameOk p0.host x9 q10) rfl (.cons (.free rfl) .nil) trivial memNil .nil memNil rfl trivial memNil rfl rfl rfl rfl rfl rfl ?_
       refine s_pickT rfl rfl (by conv => lhs; whnf) rfl rfl rfl ?_
       refine m1 ?_
       refine s_split (t := 41) rfl (fun b11 => ?_) (fun b11 => ?_)
       ·replace h := cond_t h b11
        refine s_fieldAddr rfl rfl fd60_5 rfl rfl rfl rfl ?_
        refine s_load rfl rfl rfl rfl ty9 rfl (.inr rfl) (by conv => lhs; whnf) rfl rfl rfl ?_
        refine s_of (st_eqS rfl rfl rfl) rfl rfl rfl rfl ?_
        refine s_pickT rfl rfl (by conv => lhs; whnf) rfl rfl rfl ?_
        refine m2 ?_
        refine rt_nil ?_
        refine tri_ret ?_
        have e0 := (some1 h); subst e0
        exact endY [] [] (rvC (resTmp rfl) rvN) trivial trivial rfl rfl rfl rfl (.free rfl)
       ·replace h := cond_f h b11
        refine s_skip rfl rfl rfl ?_
        refine s_skip rfl rfl rfl ?_
        refine s_skip rfl rfl rfl ?_
        refine s_pickF rfl rfl (v := .sc (.bool false)) rfl rfl rfl rfl ?_
        refine m2 ?_
        refine rt_nil ?_
        refine tri_ret ?_
        have e0 := (some1 h); subst e0
        exact endY [] [] (rvC (resTmp rfl) rvN) trivial trivial rfl rfl rfl rfl (.free rfl)
      ·replace h := cond_f h b8
       refine s_skip rfl rfl rfl ?_
       refine s_skip rfl rfl rfl ?_
       refine s_skip rfl rfl rfl ?_
       refine s_pickF rfl rfl (v := .sc (.bool false)) rfl rfl rfl rfl ?_
       refine m1 ?_
       refine s_skip rfl rfl rfl ?_
       refine s_skip rfl rfl rfl ?_
       refine s_skip rfl rfl rfl ?_
       refine s_pickF rfl rfl (v := .sc (.bool false)) rfl rfl rfl rfl ?_
       refine m2 ?_
       refine rt_nil ?_
       refine tri_ret ?_
       have e0 := (some1 h); subst e0
       exact endY [] [] (rvC (resTmp rfl) rvN) trivial trivial rfl rfl rfl rfl (.free rfl)
     ·replace h := cond_f h c7
      refine tri_sr ?_
      refine s_of (st_eqI rfl rfl rfl) rfl rfl rfl rfl ?_
      refine m2 ?_
      refine rt_nil ?_
      refine tri_cond rfl (fun c12 => ?_) (fun c12 => ?_)
      ·replace h := cond_t h c12
       refine tri_sr ?_
       refine s_fieldAddr rfl rfl fd60_3 rfl rfl rfl rfl ?_
       refine s_load rfl rfl rfl rfl ty3 rfl (.inr rfl) (by conv => lhs; whnf) rfl rfl rfl ?_
       refine bnd1_elim h fun x13 q14 h => ?_
       refine s_callN (kb := []) (ns := []) (v := .sc (.bool x13)) rfl rfl cl117 (wi_isTtl p0.n x13 q14) rfl (.cons (.free rfl) .nil) trivial memNil .nil memNil rfl trivial memNil rfl rfl rfl rfl rfl rfl ?_
       refine m1 ?_
       refine s_split (t := 51) rfl (fun b15 => ?_) (fun b15 => ?_)
       ·replace h := cond_t h b15
        refine s_fieldAddr rfl rfl fd60_4 rfl rfl rfl rfl ?_
        refine s_load rfl rfl rfl rfl ty9 rfl (.inr rfl) (by conv => lhs; whnf) rfl rfl rfl ?_
        refine bnd1_elim h fun x16 q17 h => ?_
        refine s_callN (kb := []) (ns := []) (v := .sc (.bool x16)) rfl rfl cl50 (wi_NameOk p0.host x16 q17) rfl (.cons (.free rfl) .nil) trivial memNil .nil memNil rfl trivial memNil rfl rfl rfl rfl rfl rfl ?_
        refine s_pickT rfl rfl (by conv => lhs; whnf) rfl rfl rfl ?_
        refine m1 ?_
        refine s_split (t := 56) rfl (fun b18 => ?_) (fun b18 => ?_)
        ·replace h := cond_t h b18
         refine s_fieldAddr rfl rfl fd60_5 rfl rfl rfl rfl ?_
         refine s_load rfl rfl rfl rfl ty9 rfl (.inr rfl) (by conv => lhs; whnf) rfl rfl rfl ?_
         refine s_of (st_eqS rfl rfl rfl) rfl rfl rfl rfl ?_
         refine s_pickT rfl rfl (by conv => lhs; whnf) rfl rfl rfl ?_
         refine m2 ?_
         refine rt_nil ?_
         refine tri_ret ?_
         have e0 := (some1 h); subst e0
         exact endY [] [] (rvC (resTmp rfl) rvN) trivial trivial rfl rfl rfl rfl (.free rfl)
        ·replace h := cond_f h b18
         refine s_skip rfl rfl rfl ?_
         refine s_skip rfl rfl rfl ?_
         refine s_skip rfl rfl rfl ?_
         refine s_pickF rfl rfl (v := .sc (.bool false)) rfl rfl rfl rfl ?_
         refine m2 ?_
         refine rt_nil ?_
         refine tri_ret ?_
         have e0 := (some1 h); subst e0
         exact endY [] [] (rvC (resTmp rfl) rvN) trivial trivial rfl rfl rfl rfl (.free rfl)
       ·replace h := cond_f h b15
        refine s_skip rfl rfl rfl ?_
        refine s_skip rfl rfl rfl ?_
        refine s_skip rfl rfl rfl ?_
        refine s_pickF rfl rfl (v := .sc (.bool false)) rfl rfl rfl rfl ?_
        refine m1 ?_
        refine s_skip rfl rfl rfl ?_
        refine s_skip rfl rfl rfl ?_
        refine s_skip rfl rfl rfl ?_
        refine s_pickF rfl rfl (v := .sc (.bool false)) rfl rfl rfl rfl ?_
        refine m2 ?_
        refine rt_nil ?_
        refine tri_ret ?_
        have e0 := (some1 h); subst e0
        exact endY [] [] (rvC (resTmp rfl) rvN) trivial trivial rfl rfl rfl rfl (.free rfl)
      ·replace h := cond_f h c12
       refine tri_sr ?_
       refine s_of (st_eqI rfl rfl rfl) rfl rfl rfl rfl ?_
       refine m2 ?_
       refine rt_nil ?_
       refine tri_cond rfl (fun c19 => ?_) (fun c19 => ?_)
       ·replace h := cond_t h c19
        refine tri_sr ?_
        refine s_fieldAddr rfl rfl fd60_3 rfl rfl rfl rfl ?_
        refine s_load rfl rfl rfl rfl ty3 rfl (.inr rfl) (by conv => lhs; whnf) rfl rfl rfl ?_
        refine s_of (st_eqI rfl rfl rfl) rfl rfl rfl rfl ?_
        refine m1 ?_
        refine s_split (t := 66) rfl (fun b20 => ?_) (fun b20 => ?_)
        ·replace h := cond_t h b20
         refine s_fieldAddr rfl rfl fd60_4 rfl rfl rfl rfl ?_
         refine s_load rfl rfl rfl rfl ty9 rfl (.inr rfl) (by conv => lhs; whnf) rfl rfl rfl ?_
         refine s_of (st_eqS rfl rfl rfl) rfl rfl rfl rfl ?_
         refine s_pickT rfl rfl (by conv => lhs; whnf) rfl rfl rfl ?_
         refine m1 ?_
         refine s_split (t := 71) rfl (fun b21 => ?_) (fun b21 => ?_)
         ·replace h := cond_t h b21
          refine s_fieldAddr rfl rfl fd60_5 rfl rfl rfl rfl ?_
          refine s_load rfl rfl rfl rfl ty9 rfl (.inr rfl) (by conv => lhs; whnf) rfl rfl rfl ?_
          refine bnd1_elim h fun x22 q23 h => ?_
          refine s_callN (kb := []) (ns := []) (v := .sc (.bool x22)) rfl rfl cl119 (wi_isText p0.text x22 q23) rfl (.cons (.free rfl) .nil) trivial memNil .nil memNil rfl trivial memNil rfl rfl rfl rfl rfl rfl ?_
          refine s_pickT rfl rfl (by conv => lhs; whnf) rfl rfl rfl ?_
          refine m2 ?_
          refine rt_nil ?_
          refine tri_ret ?_
          have e0 := (some1 h); subst e0
          exact endY [] [] (rvC (resTmp rfl) rvN) trivial trivial rfl rfl rfl rfl (.free rfl)
         ·replace h := cond_f h b21
          refine s_skip rfl rfl rfl ?_
          refine s_skip rfl rfl rfl ?_
          refine s_skip rfl rfl rfl ?_
          refine s_pickF rfl rfl (v := .sc (.bool false)) rfl rfl rfl rfl ?_
          refine m2 ?_
          refine rt_nil ?_
          refine tri_ret ?_
          have e0 := (some1 h); subst e0
          exact endY [] [] (rvC (resTmp rfl) rvN) trivial trivial rfl rfl rfl rfl (.free rfl)
        ·replace h := cond_f h b20
         refine s_skip rfl rfl rfl ?_
         refine s_skip rfl rfl rfl ?_
         refine s_skip rfl rfl rfl ?_
         refine s_pickF rfl rfl (v := .sc (.bool false)) rfl rfl rfl rfl ?_
         refine m1 ?_
         refine s_skip rfl rfl rfl ?_
         refine s_skip rfl rfl rfl ?_
         refine s_skip rfl rfl rfl ?_
         refine s_pickF rfl rfl (v := .sc (.bool false)) rfl rfl rfl rfl ?_
         refine m2 ?_
         refine rt_nil ?_
         refine tri_ret ?_
         have e0 := (some1 h); subst e0
         exact endY [] [] (rvC (resTmp rfl) rvN) trivial trivial rfl rfl rfl rfl (.free rfl)
       ·replace h := cond_f h c19
        refine tri_skip ?_
        refine tri_sr ?_
        refine s_mv (.inr rfl) (v := .sc (.bool false)) rfl rfl rfl rfl ?_
        refine rt_nil ?_
        refine tri_ret ?_
        have e0 := (some1 h); subst e0
        exact endY [] [] (rvC (resTmp rfl) rvN) trivial trivial rfl rfl rfl rfl (.free rfl)

/- impl.allOk$1 -/

set_option maxRecDepth 4000 in
set_option maxHeartbeats 800000 in
theorem wi_allOk_1 (p0 : Rec) (r0 : Bool) (h : i_allOk_1 p0 = some r0) : Runs Tryd.prog 93 [.agg (recV p0)] [] (.sc (.bool r0)) [] := by
 unfold i_allOk_1 at h
 refine runsR [.tmp 2] Tryd.func93 rfl rfl rfl rfl ?_
 rw [Tryd.ntmps93]
 refine tri_sr ?_
 refine s_box rfl rfl rfl rfl rfl rfl rfl ?_
 refine s_mv (.inr rfl) (v := .sc (.bool false)) rfl rfl rfl rfl ?_
 refine rt_nil ?_
 refine tri_sr ?_
 refine s_loadR rfl rfl rfl rfl ty60 rfl rfl rfl ?_
 refine bnd1_elim h fun x1 q2 h => ?_
 refine s_callN (kb := []) (ns := []) (v := .sc (.bool x1)) rfl rfl cl94 (wi_RecordOk p0 x1 q2) rfl (.cons (relAgg rfl) .nil) trivial memNil .nil memNil rfl trivial memNil rfl rfl rfl rfl rfl rfl ?_
 refine s_of (st_not rfl rfl) rfl rfl rfl rfl ?_
 refine m2 ?_
 refine rt_nil ?_
 refine tri_ret ?_
 have e0 := (some1 h); subst e0
 exact endY [] [] (rvC (resTmp rfl) rvN) trivial trivial rfl rfl rfl rfl (.free rfl)

/- impl.allOk -/

set_option maxRecDepth 4000 in
set_option maxHeartbeats 800000 in
theorem wi_allOk (p0 : List Rec) (p1 : Int) (r0 : Bool) (h : i_allOk p0 p1 = some r0) : Runs Tryd.prog 48 [.lst 6 (List.map recV p0), .sc (.int .i64 p1)] [] (.sc (.bool r0)) [] := by
 unfold i_allOk at h
 refine runsR [.tmp 4] Tryd.func48 rfl rfl rfl rfl ?_
 rw [Tryd.ntmps48]
 refine tri_sr ?_
 refine s_mv (.inr rfl) (v := .sc (.bool false)) rfl rfl rfl rfl ?_
 refine rt_nil ?_
 refine tri_sr ?_
 refine m1 ?_
 refine s_lenL rfl sl30 rfl rfl rfl rfl ?_
 refine m1 ?_
 refine s_of (st_leq rfl rfl rfl) rfl rfl rfl rfl ?_
 refine m1 ?_
 refine s_split (t := 9) rfl (fun b1 => ?_) (fun b1 => ?_)
 ·replace h := cond_t h b1
  refine m1 ?_
  refine bnd1_elim h fun x2 q3 h => ?_
  refine s_callN (kb := []) (ns := []) (v := .sc (.bool x2)) rfl rfl cl92 (wslices_ContainsFunc_Record p0 93 [] rfl cl93 (fun a0 => i_allOk_1 a0) (fun a0 v0 hv => wi_allOk_1 a0 v0 hv) x2 q3) rfl (.cons (.free rfl) (.cons relFn0 .nil)) trivial memNil .nil memNil rfl trivial memNil rfl rfl rfl rfl rfl rfl ?_
  refine s_of (st_not rfl rfl) rfl rfl rfl rfl ?_
  refine s_pickT rfl rfl (by conv => lhs; whnf) rfl rfl rfl ?_
  refine m2 ?_
  refine rt_nil ?_
  refine tri_ret ?_
  have e0 := (some1 h); subst e0
  exact endY [] [] (rvC (resTmp rfl) rvN) trivial trivial rfl rfl rfl rfl (.free rfl)
 ·replace h := cond_f h b1
  refine s_skip rfl rfl rfl ?_
  refine s_skip rfl rfl rfl ?_
  refine s_skip rfl rfl rfl ?_
  refine s_pickF rfl rfl (v := .sc (.bool false)) rfl rfl rfl rfl ?_
  refine m2 ?_
  refine rt_nil ?_
  refine tri_ret ?_
  have e0 := (some1 h); subst e0
  exact endY [] [] (rvC (resTmp rfl) rvN) trivial trivial rfl rfl rfl rfl (.free rfl)

/- impl.SetOf -/
def inv_i_SetOf_1 (p0 : List Rec) (p1 : ByteArray) (p2 : Int) (v0_0 : List Rec) (v0_1 : Nat) (e0 : Rec) (j1_0 : Bool) : St := mkT 33 [(1, .sc (.string p1)), (2, .sc (.int .i64 p2)), (7, .ref (2007, 0) 0 v0_0.length), (9, .ptr (9, 0) 0 0), (11, .lst 6 (List.map recV p0)), (12, .sc (.int .i64 (p0.length : Int))), (13, .sc (.int .i64 (v0_1 : Int))), (26, .sc (.bool j1_0))] [((2007, 0), some ⟨60, 6, List.map recV v0_0, false, true⟩), ((9, 0), some ⟨60, 6, [[.sc (.string e0.name), .sc (.int .i64 e0.ty), .sc (.int .i64 e0.ttl), .sc (.int .i64 e0.n), .sc (.string e0.host), .sc (.string e0.text)]], false, true⟩)]
def inv_i_SetOf_0 (p0 : List Rec) (p1 : ByteArray) (p2 : Int) (v0_0 : List Rec) (v0_1 : Nat) : St := mkT 33 [(1, .sc (.string p1)), (2, .sc (.int .i64 p2)), (7, .ref (2007, 0) 0 v0_0.length), (11, .lst 6 (List.map recV p0)), (12, .sc (.int .i64 (p0.length : Int))), (13, .sc (.int .i64 (v0_1 : Int)))] [((2007, 0), some ⟨60, 6, List.map recV v0_0, false, true⟩)]
set_option maxRecDepth 4000 in
set_option maxHeartbeats 800000 in
theorem wi_SetOf (p0 : List Rec) (p1 : ByteArray) (p2 : Int) (r0 : List Rec) (h : i_SetOf p0 p1 p2 = some r0) : Runs Tryd.prog 49 [.lst 6 (List.map recV p0), .sc (.string p1), .sc (.int .i64 p2)] [] (.own 60 6 (List.map recV r0)) [] := by
 unfold i_SetOf at h
 refine runsR [.tmp 6] Tryd.func49 rfl rfl rfl rfl ?_
 rw [Tryd.ntmps49]
 refine tri_sr ?_
 refine s_mv (.inr rfl) (v := .nils) rfl rfl rfl rfl ?_
 refine rt_nil ?_
 refine tri_sr ?_
 refine s_buildSlice (rows' := List.map recV ([] : List Rec)) rfl rfl rfl sl30 zc60 rfl rfl rfl rfl rfl rfl rfl rfl rfl ?_
 refine m2 ?_
 refine rt_nil ?_
 refine tri_seq ?_
 refine tri_sr ?_
 refine m1 ?_
 refine s_lenL rfl sl30 rfl rfl rfl rfl ?_
 refine s_mv (.inl rfl) (v := .sc (.int .i64 0)) rfl rfl rfl rfl ?_
 refine rt_nil ?_
 refine tri_block ?_
 refine tri_lstM 0 rfl (fun hl0 => ?_)
 refine tri_loop (ι := { p : (List Rec) × (List Rec) × Nat // p0.drop p.2.2 = p.1 ∧ i_SetOf_l0 p1 p2 p.1 p.2.1 p.2.2 = some r0 }) (fun p => inv_i_SetOf_0 p0 p1 p2 p.1.2.1 p.1.2.2) (fun p => p.1.1.length) ⟨(p0, ([] : List Rec), 0), rfl, h⟩ ?_ ?_
 ·skip
  refine entX [((2007, 0), ⟨60, 6, List.map recV ([] : List Rec), false, true⟩, some (10, 0))] [] ⟨⟨rfl, _, rfl, rfl, rfl, rfl, id, rowsCv_eq rfl (allFree_map recV_free), rowsZ_map recV_len⟩, trivial⟩ trivial rfl rfl ?_
  exact ⟨(.free rfl), (.free rfl), (.ref rfl), (.free rfl), (.free rfl), (.free rfl), trivial⟩
 ·rintro ⟨⟨lrs0, v0_0, v0_1⟩, hd0, h⟩
  replace hd0 : p0.drop v0_1 = lrs0 := hd0
  replace h : i_SetOf_l0 p1 p2 lrs0 v0_0 v0_1 = some r0 := h
  show Tri _ _ _ (inv_i_SetOf_0 p0 p1 p2 v0_0 v0_1)
  refine tri_sr ?_
  refine s_of (st_lss rfl rfl rfl) rfl rfl rfl rfl ?_
  refine rt_nil ?_
  refine tri_seq ?_
  refine tri_cond rfl (fun c1 => ?_) (fun c1 => ?_)
  ·refine drop_elim hd0 c1 fun e0 rs0 he hx0 hn0 => ?_
   subst he
   rw [i_SetOf_l0] at h
   refine tri_skip ?_
   refine tri_seq ?_
   refine tri_block ?_
   refine tri_sr ?_
   refine s_indexF (i := v0_1) rfl rfl rfl sl30 (get_ltM hx0) rfl rfl rfl ?_
   refine s_loadFR rfl rfl (rowG hx0) ty60 rfl rfl rfl ?_
   refine s_alloc rfl rfl rfl zc60 rfl rfl rfl rfl rfl ?_
   refine s_storeB rfl rfl rfl ty60 rfl rfl rfl rfl rfl ?_
   refine rt_nil ?_
   refine tri_cutI (ι := { p : Bool // i_SetOf_j1 v0_0 v0_1 e0 (i_SetOf_l0 p1 p2 rs0) p = some r0 }) (fun p => inv_i_SetOf_1 p0 p1 p2 v0_0 v0_1 e0 p.1) ?_ ?_
   ·skip
    refine tri_region ?_
    refine s_fieldAddr rfl rfl fd60_0 rfl rfl rfl rfl ?_
    refine s_load rfl rfl rfl rfl ty9 rfl (.inr rfl) (by conv => lhs; whnf) rfl rfl rfl ?_
    refine m1 ?_
    refine s_of (st_eqS rfl rfl rfl) rfl rfl rfl rfl ?_
    refine m1 ?_
    refine s_split (t := 21) rfl (fun b2 => ?_) (fun b2 => ?_)
    ·replace h := cond_t h b2
     refine s_fieldAddr rfl rfl fd60_1 rfl rfl rfl rfl ?_
     refine s_load rfl rfl rfl rfl ty3 rfl (.inr rfl) (by conv => lhs; whnf) rfl rfl rfl ?_
     refine m1 ?_
     refine s_of (st_eqI rfl rfl rfl) rfl rfl rfl rfl ?_
     refine s_pickT rfl rfl (by conv => lhs; whnf) rfl rfl rfl ?_
     refine rt_nil ?_
     refine Exists.intro ⟨decide (e0.ty = p2), h⟩ ?_
     refine entX [((2007, 0), ⟨60, 6, List.map recV v0_0, false, true⟩, some (2007, 0)), ((9, 0), ⟨60, 6, [[.sc (.string e0.name), .sc (.int .i64 e0.ty), .sc (.int .i64 e0.ttl), .sc (.int .i64 e0.n), .sc (.string e0.host), .sc (.string e0.text)]], false, true⟩, some (9, 0))] [] ⟨⟨rfl, _, rfl, rfl, rfl, rfl, id, rowsCv_eq rfl (allFree_map recV_free), rowsZ_map recV_len⟩, ⟨rfl, _, rfl, rfl, rfl, rfl, id, rowsCv_one (.cons (.free rfl) (.cons (.free rfl) (.cons (.free rfl) (.cons (.free rfl) (.cons (.free rfl) (.cons (.free rfl) .nil)))))), rowsZ_one rfl⟩, trivial⟩ trivial rfl rfl ?_
     exact ⟨(.free rfl), (.free rfl), (.ref rfl), (.ptr rfl), (.free rfl), (.free rfl), (.free rfl), (.free rfl), trivial⟩
    ·replace h := cond_f h b2
     refine s_skip rfl rfl rfl ?_
     refine s_skip rfl rfl rfl ?_
     refine s_skip rfl rfl rfl ?_
     refine s_skip rfl rfl rfl ?_
     refine s_pickF rfl rfl (v := .sc (.bool false)) rfl rfl rfl rfl ?_
     refine rt_nil ?_
     refine Exists.intro ⟨false, h⟩ ?_
     refine entX [((2007, 0), ⟨60, 6, List.map recV v0_0, false, true⟩, some (2007, 0)), ((9, 0), ⟨60, 6, [[.sc (.string e0.name), .sc (.int .i64 e0.ty), .sc (.int .i64 e0.ttl), .sc (.int .i64 e0.n), .sc (.string e0.host), .sc (.string e0.text)]], false, true⟩, some (9, 0))] [] ⟨⟨rfl, _, rfl, rfl, rfl, rfl, id, rowsCv_eq rfl (allFree_map recV_free), rowsZ_map recV_len⟩, ⟨rfl, _, rfl, rfl, rfl, rfl, id, rowsCv_one (.cons (.free rfl) (.cons (.free rfl) (.cons (.free rfl) (.cons (.free rfl) (.cons (.free rfl) (.cons (.free rfl) .nil)))))), rowsZ_one rfl⟩, trivial⟩ trivial rfl rfl ?_
     exact ⟨(.free rfl), (.free rfl), (.ref rfl), (.ptr rfl), (.free rfl), (.free rfl), (.free rfl), (.free rfl), trivial⟩
   ·rintro ⟨j1_0, h⟩
    replace h : i_SetOf_j1 v0_0 v0_1 e0 (i_SetOf_l0 p1 p2 rs0) j1_0 = some r0 := h
    unfold i_SetOf_j1 at h
    show Tri _ _ _ (inv_i_SetOf_1 p0 p1 p2 v0_0 v0_1 e0 j1_0)
    refine tri_cond rfl (fun c2 => ?_) (fun c2 => ?_)
    ·replace h := cond_t h c2
     refine tri_region ?_
     refine m1 ?_
     refine s_loadR rfl rfl rfl rfl ty60 rfl rfl rfl ?_
     refine s_buildSlice (rows' := List.map recV [e0]) rfl rfl rfl sl30 zc60 rfl rfl rfl rfl rfl rfl rfl rfl rfl ?_
     refine grd_elim h fun g3 h => ?_
     refine s_appL rfl rfl rfl sl30 zc60 rfl rfl rfl rfl rfl rfl (src_refL rfl rfl) g3 rfl rfl ?_
     refine m2 ?_
     refine rt_nil ?_
     refine tri_region ?_
     refine s_inc (a := v0_1) (b := 1) rfl rfl rfl rfl (by have := get_lt hx0; have := hl0; omega) rfl rfl rfl ?_
     refine m1 ?_
     refine rt_nil ?_
     refine Exists.intro ⟨(rs0, v0_0 ++ [e0], (v0_1 + 1)), hn0, h⟩ (And.intro (Nat.lt_succ_self _) ?_)
     refine entX [((2007, 0), ⟨60, 6, List.map recV (v0_0 ++ [e0]), false, true⟩, some (30, 0))] [] ⟨⟨rfl, _, rfl, rfl, rfl, rfl, id, rowsCv_eq rfl (allFree_map recV_free), rowsZ_map recV_len⟩, trivial⟩ trivial rfl rfl ?_
     exact ⟨(.free rfl), (.free rfl), (.ref rfl), (.free rfl), (.free rfl), (.free rfl), trivial⟩
    ·replace h := cond_f h c2
     refine tri_skip ?_
     refine tri_region ?_
     refine s_inc (a := v0_1) (b := 1) rfl rfl rfl rfl (by have := get_lt hx0; have := hl0; omega) rfl rfl rfl ?_
     refine m1 ?_
     refine rt_nil ?_
     refine Exists.intro ⟨(rs0, v0_0, (v0_1 + 1)), hn0, h⟩ (And.intro (Nat.lt_succ_self _) ?_)
     refine entX [((2007, 0), ⟨60, 6, List.map recV v0_0, false, true⟩, some (2007, 0))] [] ⟨⟨rfl, _, rfl, rfl, rfl, rfl, id, rowsCv_eq rfl (allFree_map recV_free), rowsZ_map recV_len⟩, trivial⟩ trivial rfl rfl ?_
     exact ⟨(.free rfl), (.free rfl), (.ref rfl), (.free rfl), (.free rfl), (.free rfl), trivial⟩
  ·have he := drop_f hd0 c1; subst he
   rw [i_SetOf_l0] at h
   refine tri_exit ?_
   refine tri_sr ?_
   refine m1 ?_
   refine m2 ?_
   refine rt_nil ?_
   refine tri_ret ?_
   have e0 := (some1 h); subst e0
   exact endY (v' := .ref (2000, 0) 0 v0_0.length) [((2000, 0), ⟨60, 6, List.map recV v0_0, false, true⟩, some (2007, 0))] [] (rvC (resTmp rfl) rvN) ⟨⟨rfl, _, rfl, rfl, rfl, rfl, id, rowsCv_eq rfl (allFree_map recV_free), rowsZ_map recV_len⟩, trivial⟩ trivial rfl rfl (by kernel_rfl) (by simp only [V.mat, V.mat1, V.mat0, matL, matT, List.length_map] <;> rfl) (.ref rfl)

/- impl.EntryOk -/
def inv_i_EntryOk_0 (p0 : MEntry) (j0_0 : Bool) : St := mkT 79 [(1, .ptr (1, 0) 0 0), (15, .sc (.bool j0_0))] [((1, 0), some ⟨32, 6, [[.sc (.string p0.q.name), .sc (.int .i64 p0.q.ty), .sc (.int .i64 p0.kind), .lst 6 (List.map recV p0.l), .sc (.int .i64 p0.rank), .sc (.int .i64 p0.til)]], false, true⟩)]
set_option maxRecDepth 4000 in
set_option maxHeartbeats 800000 in
theorem wi_EntryOk (p0 : MEntry) (r0 : Bool) (h : i_EntryOk p0 = some r0) : Runs Tryd.prog 12 [.agg (mEntryV p0)] [] (.sc (.bool r0)) [] := by
 unfold i_EntryOk at h
 refine runsR [.tmp 2] Tryd.func12 rfl rfl rfl rfl ?_
 rw [Tryd.ntmps12]
 refine tri_sr ?_
 refine s_box rfl rfl rfl rfl rfl rfl rfl ?_
 refine s_mv (.inr rfl) (v := .sc (.bool false)) rfl rfl rfl rfl ?_
 refine rt_nil ?_
 refine tri_seq ?_
 refine tri_cutI (ι := { p : Bool // i_EntryOk_j0 p0 p = some r0 }) (fun p => inv_i_EntryOk_0 p0 p.1) ?_ ?_
 ·skip
  refine tri_region ?_
  refine s_fieldAddr rfl rfl fd32_3 rfl rfl rfl rfl ?_
  refine s_load rfl rfl rfl rfl ty3 rfl (.inr rfl) (by conv => lhs; whnf) rfl rfl rfl ?_
  refine s_of (st_lss rfl rfl rfl) rfl rfl rfl rfl ?_
  refine m1 ?_
  refine s_split (t := 6) rfl (fun b1 => ?_) (fun b1 => ?_)
  ·replace h := cond_t h b1
   refine s_skip rfl rfl rfl ?_
   refine s_skip rfl rfl rfl ?_
   refine s_skip rfl rfl rfl ?_
   refine s_pickT rfl rfl (v := .sc (.bool true)) rfl rfl rfl rfl ?_
   refine m1 ?_
   refine s_skip rfl rfl rfl ?_
   refine s_skip rfl rfl rfl ?_
   refine s_skip rfl rfl rfl ?_
   refine s_pickT rfl rfl (v := .sc (.bool true)) rfl rfl rfl rfl ?_
   refine rt_nil ?_
   refine Exists.intro ⟨true, h⟩ ?_
   refine entX [((1, 0), ⟨32, 6, [[.sc (.string p0.q.name), .sc (.int .i64 p0.q.ty), .sc (.int .i64 p0.kind), .lst 6 (List.map recV p0.l), .sc (.int .i64 p0.rank), .sc (.int .i64 p0.til)]], false, true⟩, some (1, 0))] [] ⟨⟨rfl, _, rfl, rfl, rfl, rfl, id, rowsCv_one (.cons (.free rfl) (.cons (.free rfl) (.cons (.free rfl) (.cons (.free rfl) (.cons (.free rfl) (.cons (.free rfl) .nil)))))), rowsZ_one rfl⟩, trivial⟩ trivial rfl rfl ?_
   exact ⟨(.ptr rfl), (.free rfl), trivial⟩
  ·replace h := cond_f h b1
   refine s_fieldAddr rfl rfl fd32_3 rfl rfl rfl rfl ?_
   refine s_load rfl rfl rfl rfl ty3 rfl (.inr rfl) (by conv => lhs; whnf) rfl rfl rfl ?_
   refine s_of (st_gtr rfl rfl rfl) rfl rfl rfl rfl ?_
   refine s_pickF rfl rfl (by conv => lhs; whnf) rfl rfl rfl ?_
   refine m1 ?_
   refine s_split (t := 11) rfl (fun b2 => ?_) (fun b2 => ?_)
   ·replace h := cond_t h b2
    refine s_skip rfl rfl rfl ?_
    refine s_skip rfl rfl rfl ?_
    refine s_skip rfl rfl rfl ?_
    refine s_pickT rfl rfl (v := .sc (.bool true)) rfl rfl rfl rfl ?_
    refine rt_nil ?_
    refine Exists.intro ⟨true, h⟩ ?_
    refine entX [((1, 0), ⟨32, 6, [[.sc (.string p0.q.name), .sc (.int .i64 p0.q.ty), .sc (.int .i64 p0.kind), .lst 6 (List.map recV p0.l), .sc (.int .i64 p0.rank), .sc (.int .i64 p0.til)]], false, true⟩, some (1, 0))] [] ⟨⟨rfl, _, rfl, rfl, rfl, rfl, id, rowsCv_one (.cons (.free rfl) (.cons (.free rfl) (.cons (.free rfl) (.cons (.free rfl) (.cons (.free rfl) (.cons (.free rfl) .nil)))))), rowsZ_one rfl⟩, trivial⟩ trivial rfl rfl ?_
    exact ⟨(.ptr rfl), (.free rfl), trivial⟩
   ·replace h := cond_f h b2
    refine s_fieldAddr rfl rfl fd32_4 rfl rfl rfl rfl ?_
    refine s_load rfl rfl rfl rfl ty3 rfl (.inr rfl) (by conv => lhs; whnf) rfl rfl rfl ?_
    refine s_of (st_lss rfl rfl rfl) rfl rfl rfl rfl ?_
    refine s_pickF rfl rfl (by conv => lhs; whnf) rfl rfl rfl ?_
    refine rt_nil ?_
    refine Exists.intro ⟨decide (p0.til < 0), h⟩ ?_
    refine entX [((1, 0), ⟨32, 6, [[.sc (.string p0.q.name), .sc (.int .i64 p0.q.ty), .sc (.int .i64 p0.kind), .lst 6 (List.map recV p0.l), .sc (.int .i64 p0.rank), .sc (.int .i64 p0.til)]], false, true⟩, some (1, 0))] [] ⟨⟨rfl, _, rfl, rfl, rfl, rfl, id, rowsCv_one (.cons (.free rfl) (.cons (.free rfl) (.cons (.free rfl) (.cons (.free rfl) (.cons (.free rfl) (.cons (.free rfl) .nil)))))), rowsZ_one rfl⟩, trivial⟩ trivial rfl rfl ?_
    exact ⟨(.ptr rfl), (.free rfl), trivial⟩
 ·rintro ⟨j0_0, h⟩
  replace h : i_EntryOk_j0 p0 j0_0 = some r0 := h
  unfold i_EntryOk_j0 at h
  show Tri _ _ _ (inv_i_EntryOk_0 p0 j0_0)
  refine tri_cond rfl (fun c1 => ?_) (fun c1 => ?_)
  ·replace h := cond_t h c1
   refine tri_sr ?_
   refine s_mv (.inr rfl) (v := .sc (.bool false)) rfl rfl rfl rfl ?_
   refine rt_nil ?_
   refine tri_ret ?_
   have e0 := (some1 h); subst e0
   exact endY [] [] (rvC (resTmp rfl) rvN) trivial trivial rfl rfl rfl rfl (.free rfl)
  ·replace h := cond_f h c1
   refine tri_skip ?_
   refine tri_seq ?_
   refine tri_sr ?_
   refine s_fieldAddr rfl rfl fd32_1 rfl rfl rfl rfl ?_
   refine s_load rfl rfl rfl rfl ty3 rfl (.inr rfl) (by conv => lhs; whnf) rfl rfl rfl ?_
   refine rt_nil ?_
   refine tri_block ?_
   refine tri_sr ?_
   refine s_of (st_eqI rfl rfl rfl) rfl rfl rfl rfl ?_
   refine m2 ?_
   refine rt_nil ?_
   refine tri_cond rfl (fun c2 => ?_) (fun c2 => ?_)
   ·replace h := cond_t h c2
    refine tri_seq ?_
    refine tri_draw mixed ?_
    refine s_fieldAddr rfl rfl fd32_0 rfl rfl rfl rfl ?_
    refine s_load (v := .agg (questV p0.q)) rfl rfl rfl rfl ty29 rfl (.inl rfl) rfl rfl rfl rfl ?_
    refine bnd1_elim h fun x3 q4 h => ?_
    refine s_callN (kb := []) (ns := []) (v := .sc (.bool x3)) rfl rfl cl47 (wi_QuestOk p0.q x3 q4) rfl (.cons (relAgg rfl) .nil) trivial memNil .nil memNil rfl trivial memNil rfl rfl rfl rfl rfl rfl ?_
    refine m1 ?_
    refine s_split (t := 23) rfl (fun b5 => ?_) (fun b5 => ?_)
    ·replace h := cond_t h b5
     refine s_fieldAddr rfl rfl fd32_2 rfl rfl rfl rfl ?_
     refine s_load rfl rfl rfl rfl ty30 rfl (.inr rfl) (by conv => lhs; whnf) rfl rfl rfl ?_
     refine s_lenL rfl sl30 rfl rfl rfl rfl ?_
     refine s_of (st_gtr rfl rfl rfl) rfl rfl rfl rfl ?_
     refine s_pickT rfl rfl (by conv => lhs; whnf) rfl rfl rfl ?_
     refine m1 ?_
     refine s_split (t := 29) rfl (fun b6 => ?_) (fun b6 => ?_)
     ·replace h := cond_t h b6
      refine s_fieldAddr rfl rfl fd32_2 rfl rfl rfl rfl ?_
      refine s_load rfl rfl rfl rfl ty30 rfl (.inr rfl) (by conv => lhs; whnf) rfl rfl rfl ?_
      refine bnd1_elim h fun x7 q8 h => ?_
      refine s_callN (kb := []) (ns := []) (v := .sc (.bool x7)) rfl rfl cl48 (wi_allOk p0.l 8 x7 q8) rfl (.cons (.free rfl) (.cons (.free rfl) .nil)) trivial memNil .nil memNil rfl trivial memNil rfl rfl rfl rfl rfl rfl ?_
      refine s_pickT rfl rfl (by conv => lhs; whnf) rfl rfl rfl ?_
      refine m1 ?_
      refine s_split (t := 34) rfl (fun b9 => ?_) (fun b9 => ?_)
      ·replace h := cond_t h b9
       refine s_fieldAddr rfl rfl fd32_2 rfl rfl rfl rfl ?_
       refine s_load rfl rfl rfl rfl ty30 rfl (.inr rfl) (by conv => lhs; whnf) rfl rfl rfl ?_
       refine s_fieldAddr rfl rfl fd32_0 rfl rfl rfl rfl ?_
       refine s_fieldAddr rfl rfl fd29_0 rfl rfl rfl rfl ?_
       refine s_load rfl rfl rfl rfl ty9 rfl (.inr rfl) (by conv => lhs; whnf) rfl rfl rfl ?_
       refine s_fieldAddr rfl rfl fd32_0 rfl rfl rfl rfl ?_
       refine s_fieldAddr rfl rfl fd29_1 rfl rfl rfl rfl ?_
       refine s_load rfl rfl rfl rfl ty3 rfl (.inr rfl) (by conv => lhs; whnf) rfl rfl rfl ?_
       refine bnd1_elim h fun x10 q11 h => ?_
       refine s_callN (kb := []) (ns := []) (v := .ref (43, 0) 0 x10.length) rfl rfl cl49 (wi_SetOf p0.l p0.q.name p0.q.ty x10 q11) rfl (.cons (.free rfl) (.cons (.free rfl) (.cons (.free rfl) .nil))) trivial memNil .nil memNil rfl ⟨(allSc_map recV_sc), trivial⟩ memNil rfl (by simp only [V.mat, V.mat1, V.mat0, matL, matT, List.length_map] <;> rfl) rfl rfl rfl rfl ?_
       refine s_len (m := x10.length) rfl sl30 rfl rfl rfl rfl ?_
       refine s_fieldAddr rfl rfl fd32_2 rfl rfl rfl rfl ?_
       refine s_load rfl rfl rfl rfl ty30 rfl (.inr rfl) (by conv => lhs; whnf) rfl rfl rfl ?_
       refine s_lenL rfl sl30 rfl rfl rfl rfl ?_
       refine s_of (st_eqI rfl rfl rfl) rfl rfl rfl rfl ?_
       refine s_pickT rfl rfl (by conv => lhs; whnf) rfl rfl rfl ?_
       refine m2 ?_
       refine rt_nil ⟨drawFast (by kernel_rfl), ?_⟩
       refine tri_ret ?_
       have e0 := (some1 h); subst e0
       exact endY [] [] (rvC (resTmp rfl) rvN) trivial trivial rfl rfl rfl rfl (.free rfl)
      ·replace h := cond_f h b9
       refine s_skip rfl rfl rfl ?_
       refine s_skip rfl rfl rfl ?_
       refine s_skip rfl rfl rfl ?_
       refine s_skip rfl rfl rfl ?_
       refine s_skip rfl rfl rfl ?_
       refine s_skip rfl rfl rfl ?_
       refine s_skip rfl rfl rfl ?_
       refine s_skip rfl rfl rfl ?_
       refine s_skip rfl rfl rfl ?_
       refine s_skip rfl rfl rfl ?_
       refine s_skip rfl rfl rfl ?_
       refine s_skip rfl rfl rfl ?_
       refine s_skip rfl rfl rfl ?_
       refine s_skip rfl rfl rfl ?_
       refine s_pickF rfl rfl (v := .sc (.bool false)) rfl rfl rfl rfl ?_
       refine m2 ?_
       refine rt_nil ⟨drawFast (by kernel_rfl), ?_⟩
       refine tri_ret ?_
       have e0 := (some1 h); subst e0
       exact endY [] [] (rvC (resTmp rfl) rvN) trivial trivial rfl rfl rfl rfl (.free rfl)
     ·replace h := cond_f h b6
      refine s_skip rfl rfl rfl ?_
      refine s_skip rfl rfl rfl ?_
      refine s_skip rfl rfl rfl ?_
      refine s_pickF rfl rfl (v := .sc (.bool false)) rfl rfl rfl rfl ?_
      refine m1 ?_
      refine s_skip rfl rfl rfl ?_
      refine s_skip rfl rfl rfl ?_
      refine s_skip rfl rfl rfl ?_
      refine s_skip rfl rfl rfl ?_
      refine s_skip rfl rfl rfl ?_
      refine s_skip rfl rfl rfl ?_
      refine s_skip rfl rfl rfl ?_
      refine s_skip rfl rfl rfl ?_
      refine s_skip rfl rfl rfl ?_
      refine s_skip rfl rfl rfl ?_
      refine s_skip rfl rfl rfl ?_
      refine s_skip rfl rfl rfl ?_
      refine s_skip rfl rfl rfl ?_
      refine s_skip rfl rfl rfl ?_
      refine s_pickF rfl rfl (v := .sc (.bool false)) rfl rfl rfl rfl ?_
      refine m2 ?_
      refine rt_nil ⟨drawFast (by kernel_rfl), ?_⟩
      refine tri_ret ?_
      have e0 := (some1 h); subst e0
      exact endY [] [] (rvC (resTmp rfl) rvN) trivial trivial rfl rfl rfl rfl (.free rfl)
    ·replace h := cond_f h b5
     refine s_skip rfl rfl rfl ?_
     refine s_skip rfl rfl rfl ?_
     refine s_skip rfl rfl rfl ?_
     refine s_skip rfl rfl rfl ?_
     refine s_pickF rfl rfl (v := .sc (.bool false)) rfl rfl rfl rfl ?_
     refine m1 ?_
     refine s_skip rfl rfl rfl ?_
     refine s_skip rfl rfl rfl ?_
     refine s_skip rfl rfl rfl ?_
     refine s_pickF rfl rfl (v := .sc (.bool false)) rfl rfl rfl rfl ?_
     refine m1 ?_
     refine s_skip rfl rfl rfl ?_
     refine s_skip rfl rfl rfl ?_
     refine s_skip rfl rfl rfl ?_
     refine s_skip rfl rfl rfl ?_
     refine s_skip rfl rfl rfl ?_
     refine s_skip rfl rfl rfl ?_
     refine s_skip rfl rfl rfl ?_
     refine s_skip rfl rfl rfl ?_
     refine s_skip rfl rfl rfl ?_
     refine s_skip rfl rfl rfl ?_
     refine s_skip rfl rfl rfl ?_
     refine s_skip rfl rfl rfl ?_
     refine s_skip rfl rfl rfl ?_
     refine s_skip rfl rfl rfl ?_
     refine s_pickF rfl rfl (v := .sc (.bool false)) rfl rfl rfl rfl ?_
     refine m2 ?_
     refine rt_nil ⟨drawFast (by kernel_rfl), ?_⟩
     refine tri_ret ?_
     have e0 := (some1 h); subst e0
     exact endY [] [] (rvC (resTmp rfl) rvN) trivial trivial rfl rfl rfl rfl (.free rfl)
   ·replace h := cond_f h c2
    refine tri_sr ?_
    refine s_of (st_eqI rfl rfl rfl) rfl rfl rfl rfl ?_
    refine m2 ?_
    refine rt_nil ?_
    refine tri_cond rfl (fun c12 => ?_) (fun c12 => ?_)
    ·replace h := cond_t h c12
     refine tri_sr ?_
     refine s_fieldAddr rfl rfl fd32_0 rfl rfl rfl rfl ?_
     refine s_load (v := .agg (questV p0.q)) rfl rfl rfl rfl ty29 rfl (.inl rfl) rfl rfl rfl rfl ?_
     refine bnd1_elim h fun x13 q14 h => ?_
     refine s_callN (kb := []) (ns := []) (v := .sc (.bool x13)) rfl rfl cl47 (wi_QuestOk p0.q x13 q14) rfl (.cons (relAgg rfl) .nil) trivial memNil .nil memNil rfl trivial memNil rfl rfl rfl rfl rfl rfl ?_
     refine m1 ?_
     refine s_split (t := 55) rfl (fun b15 => ?_) (fun b15 => ?_)
     ·replace h := cond_t h b15
      refine s_fieldAddr rfl rfl fd32_2 rfl rfl rfl rfl ?_
      refine s_load rfl rfl rfl rfl ty30 rfl (.inr rfl) (by conv => lhs; whnf) rfl rfl rfl ?_
      refine s_lenL rfl sl30 rfl rfl rfl rfl ?_
      refine s_of (st_eqI rfl rfl rfl) rfl rfl rfl rfl ?_
      refine s_pickT rfl rfl (by conv => lhs; whnf) rfl rfl rfl ?_
      refine m2 ?_
      refine rt_nil ?_
      refine tri_ret ?_
      have e0 := (some1 h); subst e0
      exact endY [] [] (rvC (resTmp rfl) rvN) trivial trivial rfl rfl rfl rfl (.free rfl)
     ·replace h := cond_f h b15
      refine s_skip rfl rfl rfl ?_
      refine s_skip rfl rfl rfl ?_
      refine s_skip rfl rfl rfl ?_
      refine s_skip rfl rfl rfl ?_
      refine s_pickF rfl rfl (v := .sc (.bool false)) rfl rfl rfl rfl ?_
      refine m2 ?_
      refine rt_nil ?_
      refine tri_ret ?_
      have e0 := (some1 h); subst e0
      exact endY [] [] (rvC (resTmp rfl) rvN) trivial trivial rfl rfl rfl rfl (.free rfl)
    ·replace h := cond_f h c12
     refine tri_sr ?_
     refine s_of (st_eqI rfl rfl rfl) rfl rfl rfl rfl ?_
     refine m2 ?_
     refine rt_nil ?_
     refine tri_cond rfl (fun c16 => ?_) (fun c16 => ?_)
     ·replace h := cond_t h c16
      refine tri_sr ?_
      refine s_fieldAddr rfl rfl fd32_0 rfl rfl rfl rfl ?_
      refine s_fieldAddr rfl rfl fd29_0 rfl rfl rfl rfl ?_
      refine s_load rfl rfl rfl rfl ty9 rfl (.inr rfl) (by conv => lhs; whnf) rfl rfl rfl ?_
      refine bnd1_elim h fun x17 q18 h => ?_
      refine s_callN (kb := []) (ns := []) (v := .sc (.bool x17)) rfl rfl cl50 (wi_NameOk p0.q.name x17 q18) rfl (.cons (.free rfl) .nil) trivial memNil .nil memNil rfl trivial memNil rfl rfl rfl rfl rfl rfl ?_
      refine m1 ?_
      refine s_split (t := 67) rfl (fun b19 => ?_) (fun b19 => ?_)
      ·replace h := cond_t h b19
       refine s_fieldAddr rfl rfl fd32_0 rfl rfl rfl rfl ?_
       refine s_fieldAddr rfl rfl fd29_1 rfl rfl rfl rfl ?_
       refine s_load rfl rfl rfl rfl ty3 rfl (.inr rfl) (by conv => lhs; whnf) rfl rfl rfl ?_
       refine s_of (st_eqI rfl rfl rfl) rfl rfl rfl rfl ?_
       refine s_pickT rfl rfl (by conv => lhs; whnf) rfl rfl rfl ?_
       refine m1 ?_
       refine s_split (t := 73) rfl (fun b20 => ?_) (fun b20 => ?_)
       ·replace h := cond_t h b20
        refine s_fieldAddr rfl rfl fd32_2 rfl rfl rfl rfl ?_
        refine s_load rfl rfl rfl rfl ty30 rfl (.inr rfl) (by conv => lhs; whnf) rfl rfl rfl ?_
        refine s_lenL rfl sl30 rfl rfl rfl rfl ?_
        refine s_of (st_eqI rfl rfl rfl) rfl rfl rfl rfl ?_
        refine s_pickT rfl rfl (by conv => lhs; whnf) rfl rfl rfl ?_
        refine m2 ?_
        refine rt_nil ?_
        refine tri_ret ?_
        have e0 := (some1 h); subst e0
        exact endY [] [] (rvC (resTmp rfl) rvN) trivial trivial rfl rfl rfl rfl (.free rfl)
       ·replace h := cond_f h b20
        refine s_skip rfl rfl rfl ?_
        refine s_skip rfl rfl rfl ?_
        refine s_skip rfl rfl rfl ?_
        refine s_skip rfl rfl rfl ?_
        refine s_pickF rfl rfl (v := .sc (.bool false)) rfl rfl rfl rfl ?_
        refine m2 ?_
        refine rt_nil ?_
        refine tri_ret ?_
        have e0 := (some1 h); subst e0
        exact endY [] [] (rvC (resTmp rfl) rvN) trivial trivial rfl rfl rfl rfl (.free rfl)
      ·replace h := cond_f h b19
       refine s_skip rfl rfl rfl ?_
       refine s_skip rfl rfl rfl ?_
       refine s_skip rfl rfl rfl ?_
       refine s_skip rfl rfl rfl ?_
       refine s_pickF rfl rfl (v := .sc (.bool false)) rfl rfl rfl rfl ?_
       refine m1 ?_
       refine s_skip rfl rfl rfl ?_
       refine s_skip rfl rfl rfl ?_
       refine s_skip rfl rfl rfl ?_
       refine s_skip rfl rfl rfl ?_
       refine s_pickF rfl rfl (v := .sc (.bool false)) rfl rfl rfl rfl ?_
       refine m2 ?_
       refine rt_nil ?_
       refine tri_ret ?_
       have e0 := (some1 h); subst e0
       exact endY [] [] (rvC (resTmp rfl) rvN) trivial trivial rfl rfl rfl rfl (.free rfl)
     ·replace h := cond_f h c16
      refine tri_skip ?_
      refine tri_sr ?_
      refine s_mv (.inr rfl) (v := .sc (.bool false)) rfl rfl rfl rfl ?_
      refine rt_nil ?_
      refine tri_ret ?_
      have e0 := (some1 h); subst e0
      exact endY [] [] (rvC (resTmp rfl) rvN) trivial trivial rfl rfl rfl rfl (.free rfl)

/- impl.Entry] -/
def inv_slices_IndexFunc_Entry_0 (p0 : List MEntry) (fi1 : FuncId) (cp1 : List V) (v0_0 : Nat) : St := mkT 19 [(0, .lst 6 (List.map mEntryV p0)), (1, .fn fi1 cp1), (7, .sc (.int .i64 (p0.length : Int))), (8, .sc (.int .i64 (v0_0 : Int)))] []
set_option maxRecDepth 4000 in
set_option maxHeartbeats 800000 in
theorem wslices_IndexFunc_Entry (p0 : List MEntry) (fi1 : FuncId) (cp1 : List V) (hf1 : cp1.all (·.free) = true) (hb1 : callable Tryd.prog fi1 = true) (p1 : MEntry → Option Bool) (hg1 : ∀ (z0 : MEntry) v, p1 z0 = some v → Runs Tryd.prog fi1 ([.agg (mEntryV z0)] ++ cp1) [] (.sc (.bool v)) []) (r0 : Int) (h : slices_IndexFunc_Entry p0 p1 = some r0) : Runs Tryd.prog 75 [.lst 6 (List.map mEntryV p0), .fn fi1 cp1] [] (.sc (.int .i64 r0)) [] := by
 unfold slices_IndexFunc_Entry at h
 refine runsR [.tmp 4] Tryd.func75 rfl rfl rfl rfl ?_
 rw [Tryd.ntmps75]
 refine tri_sr ?_
 refine s_mv (.inr rfl) (v := .sc (.int .i64 0)) rfl rfl rfl rfl ?_
 refine rt_nil ?_
 refine tri_seq ?_
 refine tri_sr ?_
 refine m1 ?_
 refine s_lenL rfl sl41 rfl rfl rfl rfl ?_
 refine s_mv (.inl rfl) (v := .sc (.int .i64 0)) rfl rfl rfl rfl ?_
 refine rt_nil ?_
 refine tri_block ?_
 refine tri_lstM 0 rfl (fun hl0 => ?_)
 refine tri_loop (ι := { p : (List MEntry) × Nat // p0.drop p.2 = p.1 ∧ slices_IndexFunc_Entry_l0 p1 p.1 p.2 = some r0 }) (fun p => inv_slices_IndexFunc_Entry_0 p0 fi1 cp1 p.1.2) (fun p => p.1.1.length) ⟨(p0, 0), rfl, h⟩ ?_ ?_
 ·skip
  refine entX [] [] trivial trivial rfl rfl ?_
  exact ⟨(.free rfl), (cvFn hf1), (.free rfl), (.free rfl), trivial⟩
 ·rintro ⟨⟨lrs0, v0_0⟩, hd0, h⟩
  replace hd0 : p0.drop v0_0 = lrs0 := hd0
  replace h : slices_IndexFunc_Entry_l0 p1 lrs0 v0_0 = some r0 := h
  show Tri _ _ _ (inv_slices_IndexFunc_Entry_0 p0 fi1 cp1 v0_0)
  refine tri_sr ?_
  refine s_of (st_lss rfl rfl rfl) rfl rfl rfl rfl ?_
  refine rt_nil ?_
  refine tri_seq ?_
  refine tri_cond rfl (fun c1 => ?_) (fun c1 => ?_)
  ·refine drop_elim hd0 c1 fun e0 rs0 he hx0 hn0 => ?_
   subst he
   rw [slices_IndexFunc_Entry_l0] at h
   refine tri_skip ?_
   refine tri_seq ?_
   refine tri_block ?_
   refine tri_sr ?_
   refine m1 ?_
   refine m2 ?_
   refine rt_nil ?_
   refine tri_sr ?_
   refine m1 ?_
   refine m1 ?_
   refine m1 ?_
   refine s_indexF (i := v0_0) rfl rfl rfl sl41 (get_ltM hx0) rfl rfl rfl ?_
   refine s_loadFR rfl rfl (rowG hx0) ty32 rfl rfl rfl ?_
   refine bnd1_elim h fun x2 q3 h => ?_
   refine s_callN (kb := []) (ns := []) (v := .sc (.bool x2)) rfl rfl hb1 (hg1 e0 x2 q3) rfl (.cons (relAgg rfl) (argsFree hf1)) trivial memNil .nil memNil rfl trivial memNil rfl rfl rfl rfl rfl rfl ?_
   refine rt_nil ?_
   refine tri_cond rfl (fun c4 => ?_) (fun c4 => ?_)
   ·replace h := cond_t h c4
    refine tri_sr ?_
    refine m1 ?_
    refine m2 ?_
    refine rt_nil ?_
    refine tri_ret ?_
    have e0 := (some1 h); subst e0
    exact endY [] [] (rvC (resTmp rfl) rvN) trivial trivial rfl rfl rfl rfl (.free rfl)
   ·replace h := cond_f h c4
    refine tri_skip ?_
    refine tri_region ?_
    refine s_inc (a := v0_0) (b := 1) rfl rfl rfl rfl (by have := get_lt hx0; have := hl0; omega) rfl rfl rfl ?_
    refine m1 ?_
    refine rt_nil ?_
    refine Exists.intro ⟨(rs0, (v0_0 + 1)), hn0, h⟩ (And.intro (Nat.lt_succ_self _) ?_)
    refine entX [] [] trivial trivial rfl rfl ?_
    exact ⟨(.free rfl), (cvFn hf1), (.free rfl), (.free rfl), trivial⟩
  ·have he := drop_f hd0 c1; subst he
   rw [slices_IndexFunc_Entry_l0] at h
   refine tri_exit ?_
   refine tri_sr ?_
   refine s_mv (.inr rfl) (v := .sc (.int .i64 (-1))) rfl rfl rfl rfl ?_
   refine rt_nil ?_
   refine tri_ret ?_
   have e0 := (some1 h); subst e0
   exact endY [] [] (rvC (resTmp rfl) rvN) trivial trivial rfl rfl rfl rfl (.free rfl)
def slices_IndexFunc_Entry_I_l0 {n : Nat} (p1 : Fin n → Option Bool) : List (Fin n) → Nat → Option Int
  | [], v0_0 => some (-1)
  | e0 :: rs0, v0_0 => bnd1 (p1 e0) (fun x2 => bif x2 then (some (v0_0 : Int)) else (slices_IndexFunc_Entry_I_l0 p1 rs0 (v0_0 + 1)))
def slices_IndexFunc_Entry_I {n : Nat} (p0 : List (Fin n)) (p1 : Fin n → Option Bool) : Option Int :=
  slices_IndexFunc_Entry_I_l0 p1 p0 0
theorem idxI_map {n : Nat} {φ : Fin n → MEntry} {v : List (Fin n)} {i : Int} : idx (v.map φ) i = (idx v i).map φ := by
  unfold idx
  split
  · rw [List.getElem?_map]
  · rfl
theorem grdI_map {α β : Type} {p : Prop} [Decidable p] {x : Option α} {g : α → β} : (grd p x).map g = grd p (x.map g) := by
  unfold grd
  split <;> rfl
theorem slices_IndexFunc_Entry_I_eq {n : Nat} {φ : Fin n → MEntry} {p1 : MEntry → Option Bool} {q1 : Fin n → Option Bool} (hq : ∀ i, q1 i = p1 (φ i)) : ∀ (is : List (Fin n)) (v : Nat), slices_IndexFunc_Entry_I_l0 q1 is v = slices_IndexFunc_Entry_l0 p1 (is.map φ) v
  | [], _ => rfl
  | i :: is, v => by
    rw [slices_IndexFunc_Entry_I_l0, List.map_cons, slices_IndexFunc_Entry_l0, hq]
    congr 1; funext x
    cases x
    · exact slices_IndexFunc_Entry_I_eq hq is (v + 1)
    · rfl
theorem slices_IndexFunc_Entry_I_of {n : Nat} {φ : Fin n → MEntry} {p1 : MEntry → Option Bool} {q1 : Fin n → Option Bool} (hq : ∀ i, q1 i = p1 (φ i)) {is : List (Fin n)} {x : Int} (h : slices_IndexFunc_Entry_I is q1 = some x) : slices_IndexFunc_Entry (is.map φ) p1 = some x := by
  unfold slices_IndexFunc_Entry_I at h
  unfold slices_IndexFunc_Entry
  rw [← slices_IndexFunc_Entry_I_eq hq]; exact h
theorem finMap_get {l : List MEntry} : (List.finRange l.length).map l.get = l := by
  refine List.ext_getElem (by simp) fun i h1 h2 => ?_
  simp

/- impl.Keep$1 -/

set_option maxRecDepth 4000 in
set_option maxHeartbeats 800000 in
theorem wi_Keep_1 (p0 : MEntry) (p1 : MEntry) (r0 : Bool) (h : i_Keep_1 p0 p1 = some r0) : Runs Tryd.prog 76 [.agg (mEntryV p0), .lptr 6 [[.sc (.string p1.q.name), .sc (.int .i64 p1.q.ty), .sc (.int .i64 p1.kind), .lst 6 (List.map recV p1.l), .sc (.int .i64 p1.rank), .sc (.int .i64 p1.til)]] 0 0] [] (.sc (.bool r0)) [] := by
 unfold i_Keep_1 at h
 refine runsR [.tmp 3] Tryd.func76 rfl rfl rfl rfl ?_
 rw [Tryd.ntmps76]
 refine tri_sr ?_
 refine s_box rfl rfl rfl rfl rfl rfl rfl ?_
 refine s_mv (.inr rfl) (v := .sc (.bool false)) rfl rfl rfl rfl ?_
 refine rt_nil ?_
 refine tri_sr ?_
 refine s_fieldAddr rfl rfl fd32_0 rfl rfl rfl rfl ?_
 refine s_load (v := .agg (questV p0.q)) rfl rfl rfl rfl ty29 rfl (.inl rfl) rfl rfl rfl rfl ?_
 refine s_fieldAddrF rfl rfl fd32_0 rfl rfl rfl rfl ?_
 refine s_loadF (v := .agg (questV p1.q)) rfl rfl rfl ty29 rfl (.inl rfl) rfl rfl rfl rfl ?_
 refine s_eqStruct (r' := (decide (p0.q.name = p1.q.name) && (decide (p0.q.ty = p1.q.ty) && true))) rfl rfl rfl fk29 rfl rfl rfl rfl rfl ?_
 refine m2 ?_
 refine rt_nil ?_
 refine tri_ret ?_
 have e0 := (some1 h); subst e0
 exact endY [] [] (rvC (resTmp rfl) rvN) trivial trivial rfl rfl rfl rfl (.free rfl)

/- impl.Entry] -/

set_option maxRecDepth 4000 in
set_option maxHeartbeats 800000 in
theorem wslices_Delete_Entry (p0 : List MEntry) (p1 : Int) (p2 : Int) (r0 : List MEntry) (r1 : List MEntry) (h : slices_Delete_Entry p0 p1 p2 = some (r0, r1)) : RunsG Tryd.prog 108 [.ref (1000, 0) 0 p0.length, .sc (.int .i64 p1), .sc (.int .i64 p2)] [⟨32, 6, List.map mEntryV p0, false, false⟩] (.ref (1000, 0) 0 r1.length) [] [⟨32, 6, List.map mEntryV r1, false, false⟩] := by
 unfold slices_Delete_Entry at h
 refine runsG [.tmp 6] Tryd.func108 rfl rfl rfl rfl ?_
 rw [Tryd.ntmps108]
 refine tri_sr ?_
 refine s_mv (.inr rfl) (v := .nils) rfl rfl rfl rfl ?_
 refine rt_nil ?_
 refine tri_sr ?_
 refine m1 ?_
 refine m1 ?_
 refine m1 ?_
 refine m1 ?_
 refine s_len (m := p0.length) rfl sl41 rfl rfl rfl rfl ?_
 refine grd_elim h fun g1 h => ?_
 refine s_slice3 rfl rfl rfl sl41 rfl rfl rfl g1 rfl rfl rfl ?_
 refine rt_nil ?_
 refine tri_seq ?_
 refine tri_sr ?_
 refine m1 ?_
 refine m1 ?_
 refine s_of (st_eqI rfl rfl rfl) rfl rfl rfl rfl ?_
 refine rt_nil ?_
 refine tri_cond rfl (fun c2 => ?_) (fun c2 => ?_)
 ·replace h := cond_t h c2
  refine tri_sr ?_
  refine m1 ?_
  refine m2 ?_
  refine rt_nil ?_
  refine tri_ret ?_
  have e0 := (some2 h).1; have e1 := (some2 h).2; subst e0; subst e1
  exact endG0 [((1000, 0), ⟨32, 6, List.map mEntryV p0, false, false⟩, some (1000, 0))] [] (rvC (resTmp rfl) rvN) ⟨⟨rfl, _, rfl, rfl, rfl, rfl, id, rowsCv_eq rfl (allFree_map mEntryV_free), rowsZ_map mEntryV_len⟩, trivial⟩ trivial rfl rfl (by kernel_rfl) (.ref rfl)
 ·replace h := cond_f h c2
  refine tri_skip ?_
  refine tri_sr ?_
  refine m1 ?_
  refine s_len (m := p0.length) rfl sl41 rfl rfl rfl rfl ?_
  refine m2 ?_
  refine rt_nil ?_
  refine tri_seq ?_
  refine tri_draw mixed ?_
  refine m1 ?_
  refine m1 ?_
  refine grd_elim h fun g3 h => ?_
  refine s_sliceZ (a := ((0 : Nat) : Int)) (b := p1) rfl rfl rfl sl41 rfl rfl ⟨_, rfl⟩ g3 rfl rfl rfl ?_
  refine m1 ?_
  refine m1 ?_
  refine grd_elim h fun g4 h => ?_
  refine s_sliceZ (a := p2) (b := (p0.length : Int)) rfl rfl rfl sl41 rfl ⟨_, rfl⟩ rfl g4 rfl rfl rfl ?_
  refine grd_elim h fun g5 h => ?_
  refine s_appIn (l := p0) (m := ((p0.drop (0 + p2.toNat)).take ((p0.length : Int).toNat - p2.toNat))) rfl rfl sl41 rfl rfl rfl (src_refV rfl (by first | omega | (simp only [List.length_set]; omega))) g5 rfl rfl ?_
  refine m2 ?_
  refine rt_nil ⟨by kernel_rfl, ?_⟩
  refine tri_sr ?_
  refine m1 ?_
  refine m1 ?_
  refine s_len (m := ((p1.toNat - ((0 : Nat) : Int).toNat) + ((p0.drop (0 + p2.toNat)).take ((p0.length : Int).toNat - p2.toNat)).length : Nat)) rfl sl41 rfl rfl rfl rfl ?_
  refine m1 ?_
  refine grd_elim h fun g6 h => ?_
  refine s_sliceCapZ (a := (((p1.toNat - ((0 : Nat) : Int).toNat) + ((p0.drop (0 + p2.toNat)).take ((p0.length : Int).toNat - p2.toNat)).length : Nat) : Int)) (b := (p0.length : Int)) rfl rfl rfl sl41 rfl rfl g6 rfl rfl rfl ?_
  refine s_clear rfl rfl rfl sl41 zc32 rfl rfl (by first | omega | (simp only [List.length_set]; omega) | (simp only [List.length_set, List.length_append, List.length_take, List.length_drop] at *; omega)) rfl rfl rfl ?_
  refine rt_nil ?_
  refine tri_sr ?_
  refine m1 ?_
  refine m2 ?_
  refine rt_nil ?_
  refine tri_ret ?_
  have e0 := (some2 h).1; have e1 := (some2 h).2; subst e0; subst e1
  exact endG0 [((1000, 0), ⟨32, 6, List.map mEntryV ((p0.take (p1.toNat - ((0 : Nat) : Int).toNat) ++ ((p0.drop (0 + p2.toNat)).take ((p0.length : Int).toNat - p2.toNat)) ++ p0.drop ((p1.toNat - ((0 : Nat) : Int).toNat) + ((p0.drop (0 + p2.toNat)).take ((p0.length : Int).toNat - p2.toNat)).length)).take (0 + (((p1.toNat - ((0 : Nat) : Int).toNat) + ((p0.drop (0 + p2.toNat)).take ((p0.length : Int).toNat - p2.toNat)).length : Nat) : Int).toNat)), false, false⟩, some (1000, 0))] [] (rvC (resTmp rfl) rvN) ⟨⟨rfl, _, rfl, rfl, rfl, rfl, id, rowsCv_eq rfl (allFree_map mEntryV_free), rowsZ_map mEntryV_len⟩, trivial⟩ trivial rfl rfl (by kernel_rfl) (cvRefPre rfl rfl (by simp only [List.length_take, List.length_drop, List.length_set, List.length_append] at *; omega))
def slices_Delete_Entry_I {n : Nat} (p0 : List (Fin n)) (p1 : Int) (p2 : Int) : Option ((List (Fin n)) × (List (Fin n))) :=
  grd (0 ≤ p1 ∧ p1 ≤ p2 ∧ p2 ≤ (p0.length : Int) ∧ (p0.length : Int) ≤ (p0.length : Int)) (bif decide (p1 = p2) then (some (p0, p0)) else (grd ((0 : Int) ≤ ((0 : Nat) : Int) ∧ ((0 : Nat) : Int) ≤ p1 ∧ p1 ≤ (p0.length : Int)) (grd ((0 : Int) ≤ p2 ∧ p2 ≤ (p0.length : Int) ∧ (p0.length : Int) ≤ (p0.length : Int)) (grd ((p1.toNat - ((0 : Nat) : Int).toNat) + ((p0.drop (0 + p2.toNat)).take ((p0.length : Int).toNat - p2.toNat)).length ≤ p0.length) (grd (0 ≤ (((p1.toNat - ((0 : Nat) : Int).toNat) + ((p0.drop (0 + p2.toNat)).take ((p0.length : Int).toNat - p2.toNat)).length : Nat) : Int) ∧ (((p1.toNat - ((0 : Nat) : Int).toNat) + ((p0.drop (0 + p2.toNat)).take ((p0.length : Int).toNat - p2.toNat)).length : Nat) : Int) ≤ (p0.length : Int) ∧ ((0 : Nat) : Int) + (p0.length : Int) ≤ ((p0.take (p1.toNat - ((0 : Nat) : Int).toNat) ++ ((p0.drop (0 + p2.toNat)).take ((p0.length : Int).toNat - p2.toNat)) ++ p0.drop ((p1.toNat - ((0 : Nat) : Int).toNat) + ((p0.drop (0 + p2.toNat)).take ((p0.length : Int).toNat - p2.toNat)).length)).length : Int)) (some (((p0.take (p1.toNat - ((0 : Nat) : Int).toNat) ++ ((p0.drop (0 + p2.toNat)).take ((p0.length : Int).toNat - p2.toNat)) ++ p0.drop ((p1.toNat - ((0 : Nat) : Int).toNat) + ((p0.drop (0 + p2.toNat)).take ((p0.length : Int).toNat - p2.toNat)).length)).take (0 + (((p1.toNat - ((0 : Nat) : Int).toNat) + ((p0.drop (0 + p2.toNat)).take ((p0.length : Int).toNat - p2.toNat)).length : Nat) : Int).toNat)), (p0.take (p1.toNat - ((0 : Nat) : Int).toNat) ++ ((p0.drop (0 + p2.toNat)).take ((p0.length : Int).toNat - p2.toNat)) ++ p0.drop ((p1.toNat - ((0 : Nat) : Int).toNat) + ((p0.drop (0 + p2.toNat)).take ((p0.length : Int).toNat - p2.toNat)).length)).take (0 + (((p1.toNat - ((0 : Nat) : Int).toNat) + ((p0.drop (0 + p2.toNat)).take ((p0.length : Int).toNat - p2.toNat)).length : Nat) : Int).toNat))))))))
theorem slices_Delete_Entry_I_nat {n : Nat} {φ : Fin n → MEntry} {v : List (Fin n)} {a b : Int} : slices_Delete_Entry (v.map φ) a b = (slices_Delete_Entry_I v a b).map fun r => (r.1.map φ, r.2.map φ) := by
  unfold slices_Delete_Entry slices_Delete_Entry_I
  rw [grdI_map]
  cases decide (a = b)
  · simp only [cond_false, grdI_map, List.length_map, ← List.map_drop, ← List.map_take, ← List.map_append, Option.map_some]
  · simp only [cond_true, List.length_map, Option.map_some]
theorem slices_Delete_Entry_I_sub {n : Nat} {v : List (Fin n)} {a b : Int} {r0 r1 : List (Fin n)} (h : slices_Delete_Entry_I v a b = some (r0, r1)) : r1.Sublist v := by
  unfold slices_Delete_Entry_I at h
  obtain ⟨⟨g1, g2, g3, -⟩, h⟩ := grd_some h
  cases hd : decide (a = b)
  · rw [hd, cond_false] at h
    have h := (grd_some (grd_some (grd_some (grd_some h).2).2).2).2
    rw [← (some2 h).2]
    have e1 : (v.drop (0 + b.toNat)).take ((v.length : Int).toNat - b.toNat) = v.drop b.toNat := by
      rw [Nat.zero_add, List.take_of_length_le]
      rw [List.length_drop, Int.toNat_natCast]; exact Nat.le_refl _
    have e2 : a.toNat - ((0 : Nat) : Int).toNat = a.toNat := by simp
    have e3 : (v.take a.toNat ++ v.drop b.toNat).length = a.toNat + (v.drop b.toNat).length := by
      rw [List.length_append, List.length_take]; omega
    rw [e1, e2, Int.toNat_natCast, Nat.zero_add, List.take_append_of_le_length (by rw [e3]; exact Nat.le_refl _), List.take_of_length_le (by rw [e3]; exact Nat.le_refl _)]
    have es : v.take a.toNat ++ v.drop a.toNat = v := List.take_append_drop _ _
    have hs : (v.drop b.toNat).Sublist (v.drop a.toNat) := by
      have : v.drop b.toNat = (v.drop a.toNat).drop (b.toNat - a.toNat) := by rw [List.drop_drop]; congr 1; omega
      rw [this]; exact List.drop_sublist _ _
    have := (List.Sublist.refl (v.take a.toNat)).append hs
    rwa [es] at this
  · rw [hd, cond_true] at h
    rw [← (some2 h).2]; exact .refl _
set_option maxRecDepth 4000 in
set_option maxHeartbeats 800000 in
theorem wIslices_Delete_Entry (pl : List MEntry) (p0 : List (Fin pl.length)) (p1 : Int) (p2 : Int) (r0 : List (Fin pl.length)) (r1 : List (Fin pl.length)) (h : slices_Delete_Entry_I p0 p1 p2 = some (r0, r1)) : RunsG Tryd.prog 108 [.ref (1000, 0) 0 p0.length, .sc (.int .i64 p1), .sc (.int .i64 p2)] ([⟨32, 6, List.map (fI mEntryN 1000 1 pl) p0, false, false⟩] ++ List.map mEntryP pl) (.ref (1000, 0) 0 r1.length) [] ([⟨32, 6, List.map (fI mEntryN 1000 1 pl) r1, false, false⟩] ++ List.map mEntryP pl) := by
 unfold slices_Delete_Entry_I at h
 refine runsG [.tmp 6] Tryd.func108 rfl rfl rfl rfl ?_
 rw [Tryd.ntmps108, outsL_one]
 refine tri_sr ?_
 refine s_mv (.inr rfl) (v := .nils) rfl rfl rfl rfl ?_
 refine rt_nil ?_
 refine tri_sr ?_
 refine m1 ?_
 refine m1 ?_
 refine m1 ?_
 refine m1 ?_
 refine s_len (m := p0.length) rfl sl41 rfl rfl rfl rfl ?_
 refine grd_elim h fun g1 h => ?_
 refine s_slice3 rfl rfl rfl sl41 rfl rfl rfl g1 rfl rfl rfl ?_
 refine rt_nil ?_
 refine tri_seq ?_
 refine tri_sr ?_
 refine m1 ?_
 refine m1 ?_
 refine s_of (st_eqI rfl rfl rfl) rfl rfl rfl rfl ?_
 refine rt_nil ?_
 refine tri_cond rfl (fun c2 => ?_) (fun c2 => ?_)
 ·replace h := cond_t h c2
  refine tri_sr ?_
  refine m1 ?_
  refine m2 ?_
  refine rt_nil ?_
  refine tri_ret ?_
  have e0 := (some2 h).1; have e1 := (some2 h).2; subst e0; subst e1
  exact nest_endW (b := 1) (l := pl) (g := mEntryP) [((1000, 0), ⟨32, 6, List.map (fI mEntryN 1000 1 pl) p0, false, false⟩, some (1000, 0))] [⟨32, 6, List.map (fI mEntryN 1000 1 pl) p0, false, false⟩] (rvC (resTmp rfl) rvN) ⟨⟨rfl, _, rfl, rfl, rfl, rfl, id, rowsCv_I rfl (fun x h => mEntryN_cv x h), rowsZ_I mEntryN_z⟩, trivial⟩ rfl rfl (fun _ => rfl) rfl (fun j y hy => (by repeat (first | exact fam_lk (by rw [List.getElem?_map, hy]; rfl) | refine lkTo rfl ?_))) mEntryP_f mEntryP_z (by repeat (first | exact only_famL | refine only_lit (by decide) ?_ | refine only_oth rfl ?_)) (fun j hj => by cases (Nat.lt_one_iff.1 hj : j = 0); rfl) rfl rfl (.ref rfl)
 ·replace h := cond_f h c2
  refine tri_skip ?_
  refine tri_sr ?_
  refine m1 ?_
  refine s_len (m := p0.length) rfl sl41 rfl rfl rfl rfl ?_
  refine m2 ?_
  refine rt_nil ?_
  refine tri_seq ?_
  refine tri_draw mixed ?_
  refine m1 ?_
  refine m1 ?_
  refine grd_elim h fun g3 h => ?_
  refine s_sliceZ (a := ((0 : Nat) : Int)) (b := p1) rfl rfl rfl sl41 rfl rfl ⟨_, rfl⟩ g3 rfl rfl rfl ?_
  refine m1 ?_
  refine m1 ?_
  refine grd_elim h fun g4 h => ?_
  refine s_sliceZ (a := p2) (b := (p0.length : Int)) rfl rfl rfl sl41 rfl ⟨_, rfl⟩ rfl g4 rfl rfl rfl ?_
  refine grd_elim h fun g5 h => ?_
  refine s_appIn (l := p0) (m := ((p0.drop (0 + p2.toNat)).take ((p0.length : Int).toNat - p2.toNat))) rfl rfl sl41 rfl rfl rfl (src_refV rfl (by first | omega | (simp only [List.length_set]; omega))) g5 rfl rfl ?_
  refine m2 ?_
  refine rt_nil ⟨by kernel_rfl, ?_⟩
  refine tri_sr ?_
  refine m1 ?_
  refine m1 ?_
  refine s_len (m := ((p1.toNat - ((0 : Nat) : Int).toNat) + ((p0.drop (0 + p2.toNat)).take ((p0.length : Int).toNat - p2.toNat)).length : Nat)) rfl sl41 rfl rfl rfl rfl ?_
  refine m1 ?_
  refine grd_elim h fun g6 h => ?_
  refine s_sliceCapZ (a := (((p1.toNat - ((0 : Nat) : Int).toNat) + ((p0.drop (0 + p2.toNat)).take ((p0.length : Int).toNat - p2.toNat)).length : Nat) : Int)) (b := (p0.length : Int)) rfl rfl rfl sl41 rfl rfl g6 rfl rfl rfl ?_
  refine s_clear rfl rfl rfl sl41 zc32 rfl rfl (by first | omega | (simp only [List.length_set]; omega) | (simp only [List.length_set, List.length_append, List.length_take, List.length_drop] at *; omega)) rfl rfl rfl ?_
  refine rt_nil ?_
  refine tri_sr ?_
  refine m1 ?_
  refine m2 ?_
  refine rt_nil ?_
  refine tri_ret ?_
  have e0 := (some2 h).1; have e1 := (some2 h).2; subst e0; subst e1
  exact nest_endW (b := 1) (l := pl) (g := mEntryP) [((1000, 0), ⟨32, 6, List.map (fI mEntryN 1000 1 pl) ((p0.take (p1.toNat - ((0 : Nat) : Int).toNat) ++ ((p0.drop (0 + p2.toNat)).take ((p0.length : Int).toNat - p2.toNat)) ++ p0.drop ((p1.toNat - ((0 : Nat) : Int).toNat) + ((p0.drop (0 + p2.toNat)).take ((p0.length : Int).toNat - p2.toNat)).length)).take (0 + (((p1.toNat - ((0 : Nat) : Int).toNat) + ((p0.drop (0 + p2.toNat)).take ((p0.length : Int).toNat - p2.toNat)).length : Nat) : Int).toNat)), false, false⟩, some (1000, 0))] [⟨32, 6, List.map (fI mEntryN 1000 1 pl) ((p0.take (p1.toNat - ((0 : Nat) : Int).toNat) ++ ((p0.drop (0 + p2.toNat)).take ((p0.length : Int).toNat - p2.toNat)) ++ p0.drop ((p1.toNat - ((0 : Nat) : Int).toNat) + ((p0.drop (0 + p2.toNat)).take ((p0.length : Int).toNat - p2.toNat)).length)).take (0 + (((p1.toNat - ((0 : Nat) : Int).toNat) + ((p0.drop (0 + p2.toNat)).take ((p0.length : Int).toNat - p2.toNat)).length : Nat) : Int).toNat)), false, false⟩] (rvC (resTmp rfl) rvN) ⟨⟨rfl, _, rfl, rfl, rfl, rfl, id, rowsCv_I rfl (fun x h => mEntryN_cv x h), rowsZ_I mEntryN_z⟩, trivial⟩ rfl rfl (fun _ => rfl) rfl (fun j y hy => (by repeat (first | exact fam_lk (by rw [List.getElem?_map, hy]; rfl) | refine lkTo rfl ?_))) mEntryP_f mEntryP_z (by repeat (first | exact only_famL | refine only_lit (by decide) ?_ | refine only_oth rfl ?_)) (fun j hj => by cases (Nat.lt_one_iff.1 hj : j = 0); rfl) rfl rfl (cvRefPre rfl rfl (by simp only [List.length_take, List.length_drop, List.length_set, List.length_append] at *; omega))

/- impl.Entry] -/
def inv_i_dropFirst_Entry_1 (p0 : List MEntry) (fi1 : FuncId) (cp1 : List V) (v1_0 : Int) (v1_1 : Nat) : St := mkT 36 [(0, .ref (1000, 0) 0 p0.length), (1, .fn fi1 cp1), (5, .sc (.int .i64 v1_0)), (8, .ref (1000, 0) 0 p0.length), (9, .sc (.int .i64 (p0.length : Int))), (10, .sc (.int .i64 (v1_1 : Int)))] [((1000, 0), some ⟨32, 6, List.map mEntryV p0, false, false⟩)]
def inv_i_dropFirst_Entry_0 (p0 : List MEntry) (j0_0 : Int) : St := mkT 36 [(0, .ref (1000, 0) 0 p0.length), (5, .sc (.int .i64 j0_0))] [((1000, 0), some ⟨32, 6, List.map mEntryV p0, false, false⟩)]
set_option maxRecDepth 4000 in
set_option maxHeartbeats 800000 in
theorem wi_dropFirst_Entry (p0 : List MEntry) (fi1 : FuncId) (cp1 : List V) (hf1 : cp1.all (·.free) = true) (hb1 : callable Tryd.prog fi1 = true) (p1 : MEntry → Option Int) (hg1 : ∀ (z0 : MEntry) v, p1 z0 = some v → Runs Tryd.prog fi1 ([.agg (mEntryV z0)] ++ cp1) [] (.sc (.int .i64 v)) []) (r0 : List MEntry) (r1 : List MEntry) (h : i_dropFirst_Entry p0 p1 = some (r0, r1)) : RunsG Tryd.prog 77 [.ref (1000, 0) 0 p0.length, .fn fi1 cp1] [⟨32, 6, List.map mEntryV p0, false, false⟩] (.ref (1000, 0) 0 r1.length) [] [⟨32, 6, List.map mEntryV r1, false, false⟩] := by
 unfold i_dropFirst_Entry at h
 refine runsG [.tmp 4] Tryd.func77 rfl rfl rfl rfl ?_
 rw [Tryd.ntmps77]
 refine tri_sr ?_
 refine s_mv (.inr rfl) (v := .nils) rfl rfl rfl rfl ?_
 refine rt_nil ?_
 refine tri_sr ?_
 refine s_mv (.inr rfl) (v := .sc (.int .i64 0)) rfl rfl rfl rfl ?_
 refine rt_nil ?_
 refine tri_cutI (ι := { p : Int // i_dropFirst_Entry_j0 p0 p = some (r0, r1) }) (fun p => inv_i_dropFirst_Entry_0 p0 p.1) ?_ ?_
 ·skip
  refine tri_sr ?_
  refine m1 ?_
  refine s_len (m := p0.length) rfl sl41 rfl rfl rfl rfl ?_
  refine s_mv (.inl rfl) (v := .sc (.int .i64 0)) rfl rfl rfl rfl ?_
  refine rt_nil ?_
  refine tri_block ?_
  refine tri_ownM (1000, 0) rfl (fun hl1 => ?_)
  refine tri_loop (ι := { p : (List MEntry) × Int × Nat // p0.drop p.2.2 = p.1 ∧ i_dropFirst_Entry_l1 p0 p1 p.1 p.2.1 p.2.2 = some (r0, r1) }) (fun p => inv_i_dropFirst_Entry_1 p0 fi1 cp1 p.1.2.1 p.1.2.2) (fun p => p.1.1.length) ⟨(p0, 0, 0), rfl, h⟩ ?_ ?_
  ·skip
   refine entX [((1000, 0), ⟨32, 6, List.map mEntryV p0, false, false⟩, some (1000, 0))] [] ⟨⟨rfl, _, rfl, rfl, rfl, rfl, id, rowsCv_eq rfl (allFree_map mEntryV_free), rowsZ_map mEntryV_len⟩, trivial⟩ trivial rfl rfl ?_
   exact ⟨(.ref rfl), (cvFn hf1), (.free rfl), (.ref rfl), (.free rfl), (.free rfl), trivial⟩
  ·rintro ⟨⟨lrs1, v1_0, v1_1⟩, hd1, h⟩
   replace hd1 : p0.drop v1_1 = lrs1 := hd1
   replace h : i_dropFirst_Entry_l1 p0 p1 lrs1 v1_0 v1_1 = some (r0, r1) := h
   show Tri _ _ _ (inv_i_dropFirst_Entry_1 p0 fi1 cp1 v1_0 v1_1)
   refine tri_sr ?_
   refine s_of (st_lss rfl rfl rfl) rfl rfl rfl rfl ?_
   refine rt_nil ?_
   refine tri_seq ?_
   refine tri_cond rfl (fun c1 => ?_) (fun c1 => ?_)
   ·refine drop_elim hd1 c1 fun e1 rs1 he hx1 hn1 => ?_
    subst he
    rw [i_dropFirst_Entry_l1] at h
    refine tri_skip ?_
    refine tri_seq ?_
    refine tri_block ?_
    refine tri_sr ?_
    refine m1 ?_
    refine s_index0 (i := v1_1) rfl rfl rfl rfl sl41 rfl (get_lt hx1) rfl rfl rfl ?_
    refine s_loadR rfl rfl rfl (rowG hx1) ty32 rfl rfl rfl ?_
    refine s_alloc rfl rfl rfl zc32 rfl rfl rfl rfl rfl ?_
    refine m2 ?_
    refine s_storeB rfl rfl rfl ty32 rfl rfl rfl rfl rfl ?_
    refine rt_nil ?_
    refine tri_seq ?_
    refine tri_draw mixed ?_
    refine m1 ?_
    refine s_loadR rfl rfl rfl rfl ty32 rfl rfl rfl ?_
    refine bnd1_elim h fun x2 q3 h => ?_
    refine s_callN (kb := []) (ns := []) (v := .sc (.int .i64 x2)) rfl rfl hb1 (hg1 e1 x2 q3) rfl (.cons (relAgg rfl) (argsFree hf1)) trivial memNil .nil memNil rfl trivial memNil rfl rfl rfl rfl rfl rfl ?_
    refine m1 ?_
    refine m1 ?_
    refine m1 ?_
    refine bnd1_elim h fun x4 q5 h => ?_
    have q5a := (idx_some q5).1; have q5b := (idx_some q5).2
    refine s_indexZ rfl rfl rfl rfl sl41 rfl q5a (get_lt q5b) rfl rfl rfl ?_
    refine s_loadR rfl rfl rfl (rowG q5b) ty32 rfl rfl rfl ?_
    refine bnd1_elim h fun x6 q7 h => ?_
    refine s_callN (kb := []) (ns := []) (v := .sc (.int .i64 x6)) rfl rfl hb1 (hg1 x4 x6 q7) rfl (.cons (relAgg rfl) (argsFree hf1)) trivial memNil .nil memNil rfl trivial memNil rfl rfl rfl rfl rfl rfl ?_
    refine s_of (st_lss rfl rfl rfl) rfl rfl rfl rfl ?_
    refine rt_nil ⟨by kernel_rfl, ?_⟩
    refine tri_cond rfl (fun c8 => ?_) (fun c8 => ?_)
    ·replace h := cond_t h c8
     refine tri_region ?_
     refine m1 ?_
     refine m2 ?_
     refine rt_nil ?_
     refine tri_region ?_
     refine s_inc (a := v1_1) (b := 1) rfl rfl rfl rfl (by have := get_lt hx1; have := hl1; omega) rfl rfl rfl ?_
     refine m1 ?_
     refine rt_nil ?_
     refine Exists.intro ⟨(rs1, (v1_1 : Int), (v1_1 + 1)), hn1, h⟩ (And.intro (Nat.lt_succ_self _) ?_)
     refine entX [((1000, 0), ⟨32, 6, List.map mEntryV p0, false, false⟩, some (1000, 0))] [] ⟨⟨rfl, _, rfl, rfl, rfl, rfl, id, rowsCv_eq rfl (allFree_map mEntryV_free), rowsZ_map mEntryV_len⟩, trivial⟩ trivial rfl rfl ?_
     exact ⟨(.ref rfl), (cvFn hf1), (.free rfl), (.ref rfl), (.free rfl), (.free rfl), trivial⟩
    ·replace h := cond_f h c8
     refine tri_skip ?_
     refine tri_region ?_
     refine s_inc (a := v1_1) (b := 1) rfl rfl rfl rfl (by have := get_lt hx1; have := hl1; omega) rfl rfl rfl ?_
     refine m1 ?_
     refine rt_nil ?_
     refine Exists.intro ⟨(rs1, v1_0, (v1_1 + 1)), hn1, h⟩ (And.intro (Nat.lt_succ_self _) ?_)
     refine entX [((1000, 0), ⟨32, 6, List.map mEntryV p0, false, false⟩, some (1000, 0))] [] ⟨⟨rfl, _, rfl, rfl, rfl, rfl, id, rowsCv_eq rfl (allFree_map mEntryV_free), rowsZ_map mEntryV_len⟩, trivial⟩ trivial rfl rfl ?_
     exact ⟨(.ref rfl), (cvFn hf1), (.free rfl), (.ref rfl), (.free rfl), (.free rfl), trivial⟩
   ·have he := drop_f hd1 c1; subst he
    rw [i_dropFirst_Entry_l1] at h
    refine tri_exit ?_
    refine Exists.intro ⟨v1_0, h⟩ ?_
    refine entX [((1000, 0), ⟨32, 6, List.map mEntryV p0, false, false⟩, some (1000, 0))] [] ⟨⟨rfl, _, rfl, rfl, rfl, rfl, id, rowsCv_eq rfl (allFree_map mEntryV_free), rowsZ_map mEntryV_len⟩, trivial⟩ trivial rfl rfl ?_
    exact ⟨(.ref rfl), (.free rfl), trivial⟩
 ·rintro ⟨j0_0, h⟩
  replace h : i_dropFirst_Entry_j0 p0 j0_0 = some (r0, r1) := h
  unfold i_dropFirst_Entry_j0 at h
  show Tri _ _ _ (inv_i_dropFirst_Entry_0 p0 j0_0)
  refine tri_seq ?_
  refine tri_sr ?_
  refine m1 ?_
  refine s_len (m := p0.length) rfl sl41 rfl rfl rfl rfl ?_
  refine s_of (st_eqI rfl rfl rfl) rfl rfl rfl rfl ?_
  refine rt_nil ?_
  refine tri_cond rfl (fun c1 => ?_) (fun c1 => ?_)
  ·replace h := cond_t h c1
   refine tri_sr ?_
   refine m1 ?_
   refine m2 ?_
   refine rt_nil ?_
   refine tri_ret ?_
   have e0 := (some2 h).1; have e1 := (some2 h).2; subst e0; subst e1
   exact endG0 [((1000, 0), ⟨32, 6, List.map mEntryV p0, false, false⟩, some (1000, 0))] [] (rvC (resTmp rfl) rvN) ⟨⟨rfl, _, rfl, rfl, rfl, rfl, id, rowsCv_eq rfl (allFree_map mEntryV_free), rowsZ_map mEntryV_len⟩, trivial⟩ trivial rfl rfl (by kernel_rfl) (.ref rfl)
  ·replace h := cond_f h c1
   refine tri_skip ?_
   refine tri_sr ?_
   refine m1 ?_
   refine m1 ?_
   refine m1 ?_
   refine grd_elim h fun g2 h => ?_
   refine s_addI rfl rfl rfl rfl g2 rfl rfl rfl ?_
   refine bnd2_elim h fun x3 x4 q5 h => ?_
   refine s_callP (kb := []) (ns := [(1000, 0)]) (y := .ref (1000, 0) 0 x4.length) rfl rfl cl108 (wslices_Delete_Entry p0 j0_0 (j0_0 + 1) x3 x4 q5) rfl (.cons (.refOwn rfl) (.cons (.free rfl) (.cons (.free rfl) .nil))) ⟨⟨_, rfl, rfl⟩, trivial⟩ (memCons (freeZ_map mEntryV_free mEntryV_len) memNil) (List.nodup_cons.2 ⟨List.not_mem_nil, .nil⟩) memNil trivial (.inn rfl) (memCons (freeZ_map mEntryV_free mEntryV_len) memNil) rfl rfl rfl rfl ?_
   refine m2 ?_
   refine rt_nil ?_
   refine tri_ret ?_
   have e0 := (some2 h).1; have e1 := (some2 h).2; subst e0; subst e1
   exact endG0 [((1000, 0), ⟨32, 6, List.map mEntryV x4, false, false⟩, some (1000, 0))] [] (rvC (resTmp rfl) rvN) ⟨⟨rfl, _, rfl, rfl, rfl, rfl, id, rowsCv_eq rfl (allFree_map mEntryV_free), rowsZ_map mEntryV_len⟩, trivial⟩ trivial rfl rfl (by kernel_rfl) (.ref rfl)
def i_dropFirst_Entry_I_j0 {n : Nat} (p0 : List (Fin n)) (j0_0 : Int) : Option ((List (Fin n)) × (List (Fin n))) :=
  bif decide ((p0.length : Int) = 0) then (some (p0, p0)) else (grd (i64 (j0_0 + 1)) (bnd2 (slices_Delete_Entry_I p0 j0_0 (j0_0 + 1)) (fun x3 x4 => some (x4, x4))))
def i_dropFirst_Entry_I_l1 {n : Nat} (p0 : List (Fin n)) (p1 : Fin n → Option Int) : List (Fin n) → Int → Nat → Option ((List (Fin n)) × (List (Fin n)))
  | [], v1_0, v1_1 => i_dropFirst_Entry_I_j0 p0 v1_0
  | e1 :: rs1, v1_0, v1_1 => bnd1 (p1 e1) (fun x2 => bnd1 (idx p0 v1_0) (fun x4 => bnd1 (p1 x4) (fun x6 => bif decide (x2 < x6) then (i_dropFirst_Entry_I_l1 p0 p1 rs1 (v1_1 : Int) (v1_1 + 1)) else (i_dropFirst_Entry_I_l1 p0 p1 rs1 v1_0 (v1_1 + 1)))))
def i_dropFirst_Entry_I {n : Nat} (p0 : List (Fin n)) (p1 : Fin n → Option Int) : Option ((List (Fin n)) × (List (Fin n))) :=
  i_dropFirst_Entry_I_l1 p0 p1 p0 0 0
theorem i_dropFirst_Entry_I_j0_nat {n : Nat} {φ : Fin n → MEntry} {v : List (Fin n)} {a : Int} : i_dropFirst_Entry_j0 (v.map φ) a = (i_dropFirst_Entry_I_j0 v a).map fun r => (r.1.map φ, r.2.map φ) := by
  unfold i_dropFirst_Entry_j0 i_dropFirst_Entry_I_j0
  rw [List.length_map]
  cases decide ((v.length : Int) = 0)
  · rw [cond_false, cond_false, grdI_map, slices_Delete_Entry_I_nat]
    congr 1
    cases slices_Delete_Entry_I v a (a + 1) with
    | none => rfl
    | some q => rfl
  · rfl
theorem i_dropFirst_Entry_I_nat {n : Nat} {φ : Fin n → MEntry} {p : MEntry → Option Int} {v : List (Fin n)} : ∀ (t : List (Fin n)) (a : Int) (i : Nat), i_dropFirst_Entry_l1 (v.map φ) p (t.map φ) a i = (i_dropFirst_Entry_I_l1 v (fun i => p (φ i)) t a i).map fun r => (r.1.map φ, r.2.map φ)
  | [], a, i => by
    rw [List.map_nil, i_dropFirst_Entry_l1, i_dropFirst_Entry_I_l1, i_dropFirst_Entry_I_j0_nat]
  | e :: t, a, i => by
    rw [List.map_cons, i_dropFirst_Entry_l1, i_dropFirst_Entry_I_l1, idxI_map]
    cases p (φ e) with
    | none => rfl
    | some x =>
      rw [bnd1_mk, bnd1_mk]
      cases idx v a with
      | none => rfl
      | some y =>
        rw [Option.map_some, bnd1_mk, bnd1_mk]
        cases p (φ y) with
        | none => rfl
        | some z =>
          rw [bnd1_mk, bnd1_mk]
          cases decide (x < z)
          · rw [cond_false, cond_false, i_dropFirst_Entry_I_nat t]
          · rw [cond_true, cond_true, i_dropFirst_Entry_I_nat t]
theorem i_dropFirst_Entry_I_j0_sub {n : Nat} {v : List (Fin n)} {a : Int} {r0 r1 : List (Fin n)} (h : i_dropFirst_Entry_I_j0 v a = some (r0, r1)) : r1.Sublist v := by
  unfold i_dropFirst_Entry_I_j0 at h
  cases hd : decide ((v.length : Int) = 0)
  · rw [hd, cond_false] at h
    obtain ⟨x, y, h1, h2⟩ := bnd2_some (grd_some h).2
    rw [← (some2 h2).2]; exact slices_Delete_Entry_I_sub h1
  · rw [hd, cond_true] at h
    rw [← (some2 h).2]; exact .refl _
theorem i_dropFirst_Entry_I_sub {n : Nat} {q : Fin n → Option Int} {v : List (Fin n)} {r0 r1 : List (Fin n)} : ∀ (t : List (Fin n)) (a : Int) (i : Nat), i_dropFirst_Entry_I_l1 v q t a i = some (r0, r1) → r1.Sublist v
  | [], a, i, h => by
    rw [i_dropFirst_Entry_I_l1] at h
    exact i_dropFirst_Entry_I_j0_sub h
  | e :: t, a, i, h => by
    rw [i_dropFirst_Entry_I_l1] at h
    obtain ⟨x, -, h⟩ := bnd1_some h
    obtain ⟨y, -, h⟩ := bnd1_some h
    obtain ⟨z, -, h⟩ := bnd1_some h
    cases hd : decide (x < z)
    · rw [hd, cond_false] at h; exact i_dropFirst_Entry_I_sub t _ _ h
    · rw [hd, cond_true] at h; exact i_dropFirst_Entry_I_sub t _ _ h
theorem i_dropFirst_Entry_I_elim {l : List MEntry} {p : MEntry → Option Int} {r0 r1 : List MEntry} {C : Prop} (h : i_dropFirst_Entry l p = some (r0, r1)) (k : ∀ q0 q1 : List (Fin l.length), q1.map l.get = r1 → q1.Nodup → i_dropFirst_Entry_I (List.finRange l.length) (fun i => p (l.get i)) = some (q0, q1) → C) : C := by
  have key : i_dropFirst_Entry l p = (i_dropFirst_Entry_I (List.finRange l.length) (fun i => p (l.get i))).map fun r => (r.1.map l.get, r.2.map l.get) := by
    unfold i_dropFirst_Entry i_dropFirst_Entry_I
    have := i_dropFirst_Entry_I_nat (φ := l.get) (p := p) (v := List.finRange l.length) (List.finRange l.length) 0 0
    rw [finMap_get] at this
    exact this
  rw [key] at h
  cases hI : i_dropFirst_Entry_I (List.finRange l.length) (fun i => p (l.get i)) with
  | none => rw [hI] at h; cases h
  | some q =>
    obtain ⟨q0, q1⟩ := q
    rw [hI, Option.map_some] at h
    refine k q0 q1 (some2 h).2 ?_ hI
    exact (i_dropFirst_Entry_I_sub _ _ _ hI).nodup (List.nodup_finRange _)
def invI_i_dropFirst_Entry_1 (pl : List MEntry) (p0 : List (Fin pl.length)) (fi1 : FuncId) (cp1 : List V) (v1_0 : Int) (v1_1 : Nat) : St := mkT 36 [(0, .ref (1000, 0) 0 p0.length), (1, .fn fi1 cp1), (5, .sc (.int .i64 v1_0)), (8, .ref (1000, 0) 0 p0.length), (9, .sc (.int .i64 (p0.length : Int))), (10, .sc (.int .i64 (v1_1 : Int)))] (((1000, 0), some ⟨32, 6, List.map (fI mEntryN 1000 1 pl) p0, false, false⟩) :: (fam 1000 1 (List.map mEntryP pl) ++ []))
def invI_i_dropFirst_Entry_0 (pl : List MEntry) (p0 : List (Fin pl.length)) (j0_0 : Int) : St := mkT 36 [(0, .ref (1000, 0) 0 p0.length), (5, .sc (.int .i64 j0_0))] (((1000, 0), some ⟨32, 6, List.map (fI mEntryN 1000 1 pl) p0, false, false⟩) :: (fam 1000 1 (List.map mEntryP pl) ++ []))
set_option maxRecDepth 4000 in
set_option maxHeartbeats 800000 in
theorem wIi_dropFirst_Entry (pl : List MEntry) (p0 : List (Fin pl.length)) (fi1 : FuncId) (cp1 : List V) (hf1 : cp1.all (·.free) = true) (hb1 : callable Tryd.prog fi1 = true) (p1 : MEntry → Option Int) (hg1 : ∀ (z0 : MEntry) v, p1 z0 = some v → Runs Tryd.prog fi1 ([.agg (mEntryV z0)] ++ cp1) [] (.sc (.int .i64 v)) []) (q1 : Fin pl.length → Option Int) (hq1 : ∀ i, q1 i = p1 (pl.get i)) (r0 : List (Fin pl.length)) (r1 : List (Fin pl.length)) (h : i_dropFirst_Entry_I p0 q1 = some (r0, r1)) : RunsG Tryd.prog 77 [.ref (1000, 0) 0 p0.length, .fn fi1 cp1] ([⟨32, 6, List.map (fI mEntryN 1000 1 pl) p0, false, false⟩] ++ List.map mEntryP pl) (.ref (1000, 0) 0 r1.length) [] ([⟨32, 6, List.map (fI mEntryN 1000 1 pl) r1, false, false⟩] ++ List.map mEntryP pl) := by
 unfold i_dropFirst_Entry_I at h
 refine runsG [.tmp 4] Tryd.func77 rfl rfl rfl rfl ?_
 rw [Tryd.ntmps77, outsL_one]
 refine tri_sr ?_
 refine s_mv (.inr rfl) (v := .nils) rfl rfl rfl rfl ?_
 refine rt_nil ?_
 refine tri_sr ?_
 refine s_mv (.inr rfl) (v := .sc (.int .i64 0)) rfl rfl rfl rfl ?_
 refine rt_nil ?_
 refine tri_cutI (ι := { p : Int // i_dropFirst_Entry_I_j0 p0 p = some (r0, r1) }) (fun p => invI_i_dropFirst_Entry_0 pl p0 p.1) ?_ ?_
 ·skip
  refine tri_sr ?_
  refine m1 ?_
  refine s_len (m := p0.length) rfl sl41 rfl rfl rfl rfl ?_
  refine s_mv (.inl rfl) (v := .sc (.int .i64 0)) rfl rfl rfl rfl ?_
  refine rt_nil ?_
  refine tri_block ?_
  refine tri_ownM (1000, 0) rfl (fun hl1 => ?_)
  refine tri_loop (ι := { p : (List (Fin pl.length)) × Int × Nat // p0.drop p.2.2 = p.1 ∧ i_dropFirst_Entry_I_l1 p0 q1 p.1 p.2.1 p.2.2 = some (r0, r1) }) (fun p => invI_i_dropFirst_Entry_1 pl p0 fi1 cp1 p.1.2.1 p.1.2.2) (fun p => p.1.1.length) ⟨(p0, 0, 0), rfl, h⟩ ?_ ?_
  ·skip
   refine entB (b := 1) (l := pl) (g := mEntryP) (items := [((1000, 0), ⟨32, 6, List.map (fI mEntryN 1000 1 pl) p0, false, false⟩, some (1000, 0))]) ⟨⟨rfl, _, rfl, rfl, rfl, rfl, id, rowsCv_I rfl (fun x h => mEntryN_cv x h), rowsZ_I mEntryN_z⟩, trivial⟩ rfl rfl rfl (fun j y hy => (by repeat (first | exact fam_lk (by rw [List.getElem?_map, hy]; rfl) | refine lkTo rfl ?_))) mEntryP_f mEntryP_z (by repeat (first | exact only_famL | refine only_lit (by decide) ?_ | refine only_oth rfl ?_)) (fun j hj => by cases (Nat.lt_one_iff.1 hj : j = 0); rfl) ?_
   exact ⟨(.ref rfl), (cvFn hf1), (.free rfl), (.ref rfl), (.free rfl), (.free rfl), trivial⟩
  ·rintro ⟨⟨lrs1, v1_0, v1_1⟩, hd1, h⟩
   replace hd1 : p0.drop v1_1 = lrs1 := hd1
   replace h : i_dropFirst_Entry_I_l1 p0 q1 lrs1 v1_0 v1_1 = some (r0, r1) := h
   show Tri _ _ _ (invI_i_dropFirst_Entry_1 pl p0 fi1 cp1 v1_0 v1_1)
   refine tri_sr ?_
   refine s_of (st_lss rfl rfl rfl) rfl rfl rfl rfl ?_
   refine rt_nil ?_
   refine tri_seq ?_
   refine tri_cond rfl (fun c1 => ?_) (fun c1 => ?_)
   ·refine drop_elim hd1 c1 fun e1 rs1 he hx1 hn1 => ?_
    subst he
    rw [i_dropFirst_Entry_I_l1] at h
    refine tri_skip ?_
    refine tri_seq ?_
    refine tri_block ?_
    refine tri_sr ?_
    refine m1 ?_
    refine s_index0 (i := v1_1) rfl rfl rfl rfl sl41 rfl (get_lt hx1) rfl rfl rfl ?_
    refine s_loadR rfl rfl rfl (rowG hx1) ty32 rfl rfl rfl ?_
    refine s_alloc rfl rfl (by repeat (first | exact rfl | exact famNo rfl rfl | refine lkNo rfl ?_)) zc32 rfl rfl rfl rfl rfl ?_
    refine m2 ?_
    refine s_storeB rfl rfl rfl ty32 rfl rfl rfl rfl rfl ?_
    refine rt_nil ?_
    refine tri_seq ?_
    refine tri_draw mixed ?_
    refine m1 ?_
    refine s_loadR rfl rfl rfl rfl ty32 rfl rfl rfl ?_
    refine bnd1_elim h fun x2 q3 h => ?_
    refine s_callN (kb := [(1000, e1.val + 1)]) (ns := []) (v := .sc (.int .i64 x2)) rfl rfl hb1 (hg1 (pl.get e1) x2 ((hq1 e1).symm.trans q3)) rfl (.cons (relAggL (.cons (.free rfl) (.cons (.free rfl) (.cons (.free rfl) (.cons (lendL (by repeat (first | exact famI_lk e1 | refine lkTo rfl ?_)) (.head _) rfl recV_free recV_len) (.cons (.free rfl) (.cons (.free rfl) .nil))))))) (argsFree hf1)) trivial memNil .nil (fun _ _ => List.not_mem_nil) rfl trivial memNil rfl rfl rfl rfl rfl rfl ?_
    refine m1 ?_
    refine m1 ?_
    refine m1 ?_
    refine bnd1_elim h fun x4 q5 h => ?_
    have q5a := (idx_some q5).1; have q5b := (idx_some q5).2
    refine s_indexZ rfl rfl rfl rfl sl41 rfl q5a (get_lt q5b) rfl rfl rfl ?_
    refine s_loadR rfl rfl rfl (rowG q5b) ty32 rfl rfl rfl ?_
    refine bnd1_elim h fun x6 q7 h => ?_
    refine s_callN (kb := [(1000, x4.val + 1)]) (ns := []) (v := .sc (.int .i64 x6)) rfl rfl hb1 (hg1 (pl.get x4) x6 ((hq1 x4).symm.trans q7)) rfl (.cons (relAggL (.cons (.free rfl) (.cons (.free rfl) (.cons (.free rfl) (.cons (lendL (by repeat (first | exact famI_lk x4 | refine lkTo rfl ?_)) (.head _) rfl recV_free recV_len) (.cons (.free rfl) (.cons (.free rfl) .nil))))))) (argsFree hf1)) trivial memNil .nil (fun _ _ => List.not_mem_nil) rfl trivial memNil rfl rfl rfl rfl rfl rfl ?_
    refine s_of (st_lss rfl rfl rfl) rfl rfl rfl rfl ?_
    refine rt_nil ⟨by kernel_rfl, ?_⟩
    refine tri_cond rfl (fun c8 => ?_) (fun c8 => ?_)
    ·replace h := cond_t h c8
     refine tri_region ?_
     refine m1 ?_
     refine m2 ?_
     refine rt_nil ?_
     refine tri_region ?_
     refine s_inc (a := v1_1) (b := 1) rfl rfl rfl rfl (by have := get_lt hx1; have := hl1; omega) rfl rfl rfl ?_
     refine m1 ?_
     refine rt_nil ?_
     refine Exists.intro ⟨(rs1, (v1_1 : Int), (v1_1 + 1)), hn1, h⟩ (And.intro (Nat.lt_succ_self _) ?_)
     refine entB (b := 1) (l := pl) (g := mEntryP) (items := [((1000, 0), ⟨32, 6, List.map (fI mEntryN 1000 1 pl) p0, false, false⟩, some (1000, 0))]) ⟨⟨rfl, _, rfl, rfl, rfl, rfl, id, rowsCv_I rfl (fun x h => mEntryN_cv x h), rowsZ_I mEntryN_z⟩, trivial⟩ rfl rfl rfl (fun j y hy => (by repeat (first | exact fam_lk (by rw [List.getElem?_map, hy]; rfl) | refine lkTo rfl ?_))) mEntryP_f mEntryP_z (by repeat (first | exact only_famL | refine only_lit (by decide) ?_ | refine only_oth rfl ?_)) (fun j hj => by cases (Nat.lt_one_iff.1 hj : j = 0); rfl) ?_
     exact ⟨(.ref rfl), (cvFn hf1), (.free rfl), (.ref rfl), (.free rfl), (.free rfl), trivial⟩
    ·replace h := cond_f h c8
     refine tri_skip ?_
     refine tri_region ?_
     refine s_inc (a := v1_1) (b := 1) rfl rfl rfl rfl (by have := get_lt hx1; have := hl1; omega) rfl rfl rfl ?_
     refine m1 ?_
     refine rt_nil ?_
     refine Exists.intro ⟨(rs1, v1_0, (v1_1 + 1)), hn1, h⟩ (And.intro (Nat.lt_succ_self _) ?_)
     refine entB (b := 1) (l := pl) (g := mEntryP) (items := [((1000, 0), ⟨32, 6, List.map (fI mEntryN 1000 1 pl) p0, false, false⟩, some (1000, 0))]) ⟨⟨rfl, _, rfl, rfl, rfl, rfl, id, rowsCv_I rfl (fun x h => mEntryN_cv x h), rowsZ_I mEntryN_z⟩, trivial⟩ rfl rfl rfl (fun j y hy => (by repeat (first | exact fam_lk (by rw [List.getElem?_map, hy]; rfl) | refine lkTo rfl ?_))) mEntryP_f mEntryP_z (by repeat (first | exact only_famL | refine only_lit (by decide) ?_ | refine only_oth rfl ?_)) (fun j hj => by cases (Nat.lt_one_iff.1 hj : j = 0); rfl) ?_
     exact ⟨(.ref rfl), (cvFn hf1), (.free rfl), (.ref rfl), (.free rfl), (.free rfl), trivial⟩
   ·have he := drop_f hd1 c1; subst he
    rw [i_dropFirst_Entry_I_l1] at h
    refine tri_exit ?_
    refine Exists.intro ⟨v1_0, h⟩ ?_
    refine entB (b := 1) (l := pl) (g := mEntryP) (items := [((1000, 0), ⟨32, 6, List.map (fI mEntryN 1000 1 pl) p0, false, false⟩, some (1000, 0))]) ⟨⟨rfl, _, rfl, rfl, rfl, rfl, id, rowsCv_I rfl (fun x h => mEntryN_cv x h), rowsZ_I mEntryN_z⟩, trivial⟩ rfl rfl rfl (fun j y hy => (by repeat (first | exact fam_lk (by rw [List.getElem?_map, hy]; rfl) | refine lkTo rfl ?_))) mEntryP_f mEntryP_z (by repeat (first | exact only_famL | refine only_lit (by decide) ?_ | refine only_oth rfl ?_)) (fun j hj => by cases (Nat.lt_one_iff.1 hj : j = 0); rfl) ?_
    exact ⟨(.ref rfl), (.free rfl), trivial⟩
 ·rintro ⟨j0_0, h⟩
  replace h : i_dropFirst_Entry_I_j0 p0 j0_0 = some (r0, r1) := h
  unfold i_dropFirst_Entry_I_j0 at h
  show Tri _ _ _ (invI_i_dropFirst_Entry_0 pl p0 j0_0)
  refine tri_seq ?_
  refine tri_sr ?_
  refine m1 ?_
  refine s_len (m := p0.length) rfl sl41 rfl rfl rfl rfl ?_
  refine s_of (st_eqI rfl rfl rfl) rfl rfl rfl rfl ?_
  refine rt_nil ?_
  refine tri_cond rfl (fun c1 => ?_) (fun c1 => ?_)
  ·replace h := cond_t h c1
   refine tri_sr ?_
   refine m1 ?_
   refine m2 ?_
   refine rt_nil ?_
   refine tri_ret ?_
   have e0 := (some2 h).1; have e1 := (some2 h).2; subst e0; subst e1
   exact nest_endW (b := 1) (l := pl) (g := mEntryP) [((1000, 0), ⟨32, 6, List.map (fI mEntryN 1000 1 pl) p0, false, false⟩, some (1000, 0))] [⟨32, 6, List.map (fI mEntryN 1000 1 pl) p0, false, false⟩] (rvC (resTmp rfl) rvN) ⟨⟨rfl, _, rfl, rfl, rfl, rfl, id, rowsCv_I rfl (fun x h => mEntryN_cv x h), rowsZ_I mEntryN_z⟩, trivial⟩ rfl rfl (fun _ => rfl) rfl (fun j y hy => (by repeat (first | exact fam_lk (by rw [List.getElem?_map, hy]; rfl) | refine lkTo rfl ?_))) mEntryP_f mEntryP_z (by repeat (first | exact only_famL | refine only_lit (by decide) ?_ | refine only_oth rfl ?_)) (fun j hj => by cases (Nat.lt_one_iff.1 hj : j = 0); rfl) rfl rfl (.ref rfl)
  ·replace h := cond_f h c1
   refine tri_skip ?_
   refine tri_sr ?_
   refine m1 ?_
   refine m1 ?_
   refine m1 ?_
   refine grd_elim h fun g2 h => ?_
   refine s_addI rfl rfl rfl rfl g2 rfl rfl rfl ?_
   refine bnd2_elim h fun x3 x4 q5 h => ?_
   refine s_callQ (A := [_]) (R := []) (l := pl) (is := p0) (qs := x4) (gm := mEntryP) (fN := mEntryN) (dn := (1000, 0)) (a := 1000) (b := 1) (s := false) (mi := false) (kb := []) rfl rfl cl108 (wIslices_Delete_Entry pl p0 j0_0 (j0_0 + 1) x3 x4 q5) rfl (.cons (.refOwn rfl) (.cons (.free rfl) (.cons (.free rfl) .nil))) rfl rfl (fun j => rfl) (fun k => rfl) mEntryN_z (fun x hm => (.cons (.free rfl) (.cons (.free rfl) (.cons (.free rfl) (.cons (.refOwn hm) (.cons (.free rfl) (.cons (.free rfl) .nil))))))) (fun x hm => (.cons retSc (.cons retSc (.cons retSc (.cons (.inn hm) (.cons retSc (.cons retSc .nil))))))) (fun x => allSc_map recV_sc) mEntryP_f mEntryP_z memNil rfl rfl rfl ?_
   refine m2 ?_
   refine rt_nil ?_
   refine tri_ret ?_
   have e0 := (some2 h).1; have e1 := (some2 h).2; subst e0; subst e1
   exact nest_endW (b := 1) (l := pl) (g := mEntryP) [((1000, 0), ⟨32, 6, List.map (fI mEntryN 1000 1 pl) x4, false, false⟩, some (1000, 0))] [⟨32, 6, List.map (fI mEntryN 1000 1 pl) x4, false, false⟩] (rvC (resTmp rfl) rvN) ⟨⟨rfl, _, rfl, rfl, rfl, rfl, id, rowsCv_I rfl (fun x h => mEntryN_cv x h), rowsZ_I mEntryN_z⟩, trivial⟩ rfl rfl (fun _ => rfl) rfl (fun j y hy => (by repeat (first | exact fam_lk (by rw [List.getElem?_map, hy]; rfl) | refine lkTo rfl ?_))) mEntryP_f mEntryP_z (by repeat (first | exact only_famL | refine only_lit (by decide) ?_ | refine only_oth rfl ?_)) (fun j hj => by cases (Nat.lt_one_iff.1 hj : j = 0); rfl) rfl rfl (.ref rfl)

/- impl.Keep$2 -/

set_option maxRecDepth 4000 in
set_option maxHeartbeats 800000 in
theorem wi_Keep_2 (p0 : MEntry) (r0 : Int) (h : i_Keep_2 p0 = some r0) : Runs Tryd.prog 78 [.agg (mEntryV p0)] [] (.sc (.int .i64 r0)) [] := by
 unfold i_Keep_2 at h
 refine runsR [.tmp 2] Tryd.func78 rfl rfl rfl rfl ?_
 rw [Tryd.ntmps78]
 refine tri_sr ?_
 refine s_box rfl rfl rfl rfl rfl rfl rfl ?_
 refine s_mv (.inr rfl) (v := .sc (.int .i64 0)) rfl rfl rfl rfl ?_
 refine rt_nil ?_
 refine tri_sr ?_
 refine s_fieldAddr rfl rfl fd32_4 rfl rfl rfl rfl ?_
 refine s_load rfl rfl rfl rfl ty3 rfl (.inr rfl) (by conv => lhs; whnf) rfl rfl rfl ?_
 refine m2 ?_
 refine rt_nil ?_
 refine tri_ret ?_
 have e0 := (some1 h); subst e0
 exact endY [] [] (rvC (resTmp rfl) rvN) trivial trivial rfl rfl rfl rfl (.free rfl)

end Go.Abs.M
