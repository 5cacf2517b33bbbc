/- Walks of the functions that the law of Fits reaches: what each of them computes, where its pure function does not fail. -/
import Derived.Test.YtainnoaellcpdaaGreatDoorWalkFits1
set_option linter.unusedSimpArgs false
set_option linter.unusedVariables false
namespace Go.Abs.M
open Go Go.Abs Go.Proofs
theorem cl10 : callable Tryz.prog 10 = true := by kernel_rfl
theorem cl104 : callable Tryz.prog 104 = true := by kernel_rfl
theorem cl117 : callable Tryz.prog 117 = true := by kernel_rfl
theorem cl118 : callable Tryz.prog 118 = true := by kernel_rfl
theorem cl128 : callable Tryz.prog 128 = true := by kernel_rfl
theorem cl13 : callable Tryz.prog 13 = true := by kernel_rfl
theorem cl14 : callable Tryz.prog 14 = true := by kernel_rfl
theorem cl15 : callable Tryz.prog 15 = true := by kernel_rfl
theorem cl27 : callable Tryz.prog 27 = true := by kernel_rfl
theorem cl28 : callable Tryz.prog 28 = true := by kernel_rfl
theorem cl30 : callable Tryz.prog 30 = true := by kernel_rfl
theorem cl31 : callable Tryz.prog 31 = true := by kernel_rfl
theorem cl32 : callable Tryz.prog 32 = true := by kernel_rfl
theorem cl40 : callable Tryz.prog 40 = true := by kernel_rfl
theorem cl41 : callable Tryz.prog 41 = true := by kernel_rfl
theorem cl54 : callable Tryz.prog 54 = true := by kernel_rfl
theorem cl66 : callable Tryz.prog 66 = true := by kernel_rfl
theorem cl67 : callable Tryz.prog 67 = true := by kernel_rfl
theorem cl77 : callable Tryz.prog 77 = true := by kernel_rfl
theorem cl78 : callable Tryz.prog 78 = true := by kernel_rfl
theorem cl79 : callable Tryz.prog 79 = true := by kernel_rfl
theorem cl80 : callable Tryz.prog 80 = true := by kernel_rfl
theorem cl81 : callable Tryz.prog 81 = true := by kernel_rfl
theorem cl94 : callable Tryz.prog 94 = true := by kernel_rfl
theorem isb4 : isBool Tryz.prog 4 = true := by kernel_rfl
theorem ty47 : tyK Tryz.prog 47 = some (true, 12) := by kernel_rfl
/- impl.read -/
def inv_i_read_2 (v0_0 : List ByteArray) (v0_3 : Int) (j2_0 : Int) : St := mkT 109 [(8, .ref (2008, 0) 0 v0_0.length), (9, .sc (.int .i64 j2_0)), (11, .sc (.int .i64 v0_3))] [((2008, 0), some ⟨9, 1, List.map strV v0_0, false, true⟩)]
def inv_i_read_3 (p0 : List Int) (v0_0 : List ByteArray) (v0_3 : Int) (x2 : Int) (x13 : Int) (j3_0 : Int) : St := mkT 109 [(0, .lst 1 (List.map byteV p0)), (8, .ref (2008, 0) 0 v0_0.length), (9, .sc (.int .i64 j3_0)), (11, .sc (.int .i64 v0_3)), (14, .sc (.int .i64 ((256 * ((IntKind.i64.wrap x2) - 192)) + (IntKind.i64.wrap x13))))] [((2008, 0), some ⟨9, 1, List.map strV v0_0, false, true⟩)]
def inv_i_read_1 (p0 : List Int) (v0_0 : List ByteArray) (v0_1 : Int) (v0_2 : Int) (v0_3 : Int) (v0_4 : Int) (j1_0 : Bool) : St := mkT 109 [(0, .lst 1 (List.map byteV p0)), (8, .ref (2008, 0) 0 v0_0.length), (9, .sc (.int .i64 v0_1)), (10, .sc (.int .i64 v0_2)), (11, .sc (.int .i64 v0_3)), (12, .sc (.int .i64 v0_4)), (28, .sc (.bool j1_0))] [((2008, 0), some ⟨9, 1, List.map strV v0_0, false, true⟩)]
def inv_i_read_0 (p0 : List Int) (v0_0 : List ByteArray) (v0_1 : Int) (v0_2 : Int) (v0_3 : Int) (v0_4 : Int) : St := mkT 109 [(0, .lst 1 (List.map byteV p0)), (8, .ref (2008, 0) 0 v0_0.length), (9, .sc (.int .i64 v0_1)), (10, .sc (.int .i64 v0_2)), (11, .sc (.int .i64 v0_3)), (12, .sc (.int .i64 v0_4))] [((2008, 0), some ⟨9, 1, List.map strV v0_0, false, true⟩)]
set_option maxRecDepth 4000 in
set_option maxHeartbeats 800000 in
theorem wi_read (p0 : List Int) (p1 : Int) (r0 : ByteArray) (r1 : Int) (r2 : Int) (r3 : Int) (h : i_read p0 p1 = some (r0, r1, r2, r3)) : Runs Tryz.prog 94 [.lst 1 (List.map byteV p0), .sc (.int .i64 p1)] [] (.tup [.sc (.string r0), .sc (.int .i64 r1), .sc (.int .i64 r2), .sc (.int .i64 r3)]) [] := by
 unfold i_read at h
 refine runsR [.tmp 4, .tmp 5, .tmp 6, .tmp 7] Tryz.func94 rfl rfl rfl rfl ?_
 rw [Tryz.ntmps94]
 refine tri_sr ?_
 refine s_mv (.inr rfl) (v := .sc (.string (⟨#[]⟩ : ByteArray))) rfl rfl rfl rfl ?_
 refine s_mv (.inr rfl) (v := .sc (.int .i64 0)) rfl rfl rfl rfl ?_
 refine s_mv (.inr rfl) (v := .sc (.int .i64 0)) rfl rfl rfl rfl ?_
 refine s_mv (.inr rfl) (v := .sc (.int .i64 0)) rfl rfl rfl rfl ?_
 refine rt_nil ?_
 refine tri_sr ?_
 refine s_buildSlice (rows' := List.map strV ([] : List ByteArray)) rfl rfl rfl sl91 zc9 rfl rfl rfl rfl rfl rfl rfl rfl rfl ?_
 refine m2 ?_
 refine rt_nil ?_
 refine tri_sr ?_
 refine s_mv (.inr rfl) (v := .sc (.int .i64 (-1))) rfl rfl rfl rfl ?_
 refine rt_nil ?_
 refine tri_sr ?_
 refine m1 ?_
 refine m2 ?_
 refine rt_nil ?_
 refine tri_sr ?_
 refine s_mv (.inr rfl) (v := .sc (.int .i64 0)) rfl rfl rfl rfl ?_
 refine rt_nil ?_
 refine tri_sr ?_
 refine m1 ?_
 refine m2 ?_
 refine rt_nil ?_
 refine tri_block ?_
 refine tri_loop (ι := { p : Nat × (List ByteArray) × Int × Int × Int × Int // i_read_l0 p0 p.1 p.2.1 p.2.2.1 p.2.2.2.1 p.2.2.2.2.1 p.2.2.2.2.2 = some (r0, r1, r2, r3) }) (fun p => inv_i_read_0 p0 p.1.2.1 p.1.2.2.1 p.1.2.2.2.1 p.1.2.2.2.2.1 p.1.2.2.2.2.2) (fun p => p.1.1) ⟨(fuel0, ([] : List ByteArray), (-1), p1, 0, p1), h⟩ ?_ ?_
 ·skip
  refine entX [((2008, 0), ⟨9, 1, List.map strV ([] : List ByteArray), false, true⟩, some (18, 0))] [] ⟨⟨rfl, _, rfl, rfl, rfl, rfl, id, rowsCv_eq rfl (allFree_map strV_free), rowsZ_map strV_len⟩, trivial⟩ trivial rfl rfl ?_
  exact ⟨(.free rfl), (.ref rfl), (.free rfl), (.free rfl), (.free rfl), (.free rfl), trivial⟩
 ·rintro ⟨⟨f0, v0_0, v0_1, v0_2, v0_3, v0_4⟩, h⟩
  replace h : i_read_l0 p0 f0 v0_0 v0_1 v0_2 v0_3 v0_4 = some (r0, r1, r2, r3) := h
  cases f0 with
  | zero => cases h
  | succ f0 =>
  rw [i_read_l0] at h
  show Tri _ _ _ (inv_i_read_0 p0 v0_0 v0_1 v0_2 v0_3 v0_4)
  refine tri_block ?_
  refine tri_seq ?_
  refine tri_cutI (ι := { p : Bool // i_read_j1 p0 v0_0 v0_1 v0_2 v0_3 v0_4 (i_read_l0 p0 f0) p = some (r0, r1, r2, r3) }) (fun p => inv_i_read_1 p0 v0_0 v0_1 v0_2 v0_3 v0_4 p.1) ?_ ?_
  ·skip
   refine tri_region ?_
   refine m1 ?_
   refine s_of (st_lss rfl rfl rfl) rfl rfl rfl rfl ?_
   refine m1 ?_
   refine s_split (t := 23) rfl (fun b1 => ?_) (fun b1 => ?_)
   ·replace h := cond_t h b1
    refine s_skip rfl rfl rfl ?_
    refine s_skip rfl rfl rfl ?_
    refine s_skip rfl rfl rfl ?_
    refine s_skip rfl rfl rfl ?_
    refine s_pickT rfl rfl (v := .sc (.bool true)) rfl rfl rfl rfl ?_
    refine rt_nil ?_
    refine Exists.intro ⟨true, h⟩ ?_
    refine entX [((2008, 0), ⟨9, 1, List.map strV v0_0, false, true⟩, some (2008, 0))] [] ⟨⟨rfl, _, rfl, rfl, rfl, rfl, id, rowsCv_eq rfl (allFree_map strV_free), rowsZ_map strV_len⟩, trivial⟩ trivial rfl rfl ?_
    exact ⟨(.free rfl), (.ref rfl), (.free rfl), (.free rfl), (.free rfl), (.free rfl), (.free rfl), trivial⟩
   ·replace h := cond_f h b1
    refine m1 ?_
    refine m1 ?_
    refine s_lenL rfl sl22 rfl rfl rfl rfl ?_
    refine s_of (st_geq rfl rfl rfl) rfl rfl rfl rfl ?_
    refine s_pickF rfl rfl (by conv => lhs; whnf) rfl rfl rfl ?_
    refine rt_nil ?_
    refine Exists.intro ⟨decide ((p0.length : Int) ≤ v0_4), h⟩ ?_
    refine entX [((2008, 0), ⟨9, 1, List.map strV v0_0, false, true⟩, some (2008, 0))] [] ⟨⟨rfl, _, rfl, rfl, rfl, rfl, id, rowsCv_eq rfl (allFree_map strV_free), rowsZ_map strV_len⟩, trivial⟩ trivial rfl rfl ?_
    exact ⟨(.free rfl), (.ref rfl), (.free rfl), (.free rfl), (.free rfl), (.free rfl), (.free rfl), trivial⟩
  ·rintro ⟨j1_0, h⟩
   replace h : i_read_j1 p0 v0_0 v0_1 v0_2 v0_3 v0_4 (i_read_l0 p0 f0) j1_0 = some (r0, r1, r2, r3) := h
   unfold i_read_j1 at h
   show Tri _ _ _ (inv_i_read_1 p0 v0_0 v0_1 v0_2 v0_3 v0_4 j1_0)
   refine tri_cond rfl (fun c1 => ?_) (fun c1 => ?_)
   ·replace h := cond_t h c1
    refine tri_sr ?_
    refine m1 ?_
    refine s_mv (.inr rfl) (v := .sc (.string (⟨#[]⟩ : ByteArray))) rfl rfl rfl rfl ?_
    refine s_mv (.inr rfl) (v := .sc (.int .i64 0)) rfl rfl rfl rfl ?_
    refine s_mv (.inr rfl) (v := .sc (.int .i64 1)) rfl rfl rfl rfl ?_
    refine m2 ?_
    refine rt_nil ?_
    refine tri_ret ?_
    have e0 := (some4 h).1; have e1 := (some4 h).2.1; have e2 := (some4 h).2.2.1; have e3 := (some4 h).2.2.2; subst e0; subst e1; subst e2; subst e3
    exact endY [] [] (rvC (resTmp rfl) (rvC (resTmp rfl) (rvC (resTmp rfl) (rvC (resTmp rfl) rvN)))) trivial trivial rfl rfl rfl rfl (CvL.tup (.cons (.free rfl) (.cons (.free rfl) (.cons (.free rfl) (.cons (.free rfl) .nil)))))
   ·replace h := cond_f h c1
    refine tri_skip ?_
    refine tri_sr ?_
    refine m1 ?_
    refine m1 ?_
    refine bnd1_elim h fun x2 q3 h => ?_
    have q3a := (idx_some q3).1; have q3b := (idx_some q3).2
    refine s_indexFZ rfl rfl rfl sl22 q3a (get_ltM q3b) rfl rfl rfl ?_
    refine s_loadF rfl rfl (rowG q3b) ty5 rfl (.inr rfl) (by conv => lhs; whnf) rfl rfl rfl ?_
    refine s_of (st_conv ik5 ik3 rfl rfl) rfl rfl rfl rfl ?_
    refine m2 ?_
    refine rt_nil ?_
    refine tri_seq ?_
    refine tri_block ?_
    refine tri_sr ?_
    refine m1 ?_
    refine s_of (st_eqI rfl rfl rfl) rfl rfl rfl rfl ?_
    refine m2 ?_
    refine rt_nil ?_
    refine tri_cond rfl (fun c4 => ?_) (fun c4 => ?_)
    ·replace h := cond_t h c4
     refine tri_cutI (ι := { p : Int // i_read_j2 v0_0 v0_3 p = some (r0, r1, r2, r3) }) (fun p => inv_i_read_2 v0_0 v0_3 p.1) ?_ ?_
     ·skip
      refine tri_sr ?_
      refine m1 ?_
      refine s_of (st_lss rfl rfl rfl) rfl rfl rfl rfl ?_
      refine rt_nil ?_
      refine tri_cond rfl (fun c5 => ?_) (fun c5 => ?_)
      ·replace h := cond_t h c5
       refine tri_region ?_
       refine m1 ?_
       refine grd_elim h fun g6 h => ?_
       refine s_addI rfl rfl rfl rfl g6 rfl rfl rfl ?_
       refine m2 ?_
       refine rt_nil ?_
       refine Exists.intro ⟨v0_4 + 1, h⟩ ?_
       refine entX [((2008, 0), ⟨9, 1, List.map strV v0_0, false, true⟩, some (2008, 0))] [] ⟨⟨rfl, _, rfl, rfl, rfl, rfl, id, rowsCv_eq rfl (allFree_map strV_free), rowsZ_map strV_len⟩, trivial⟩ trivial rfl rfl ?_
       exact ⟨(.ref rfl), (.free rfl), (.free rfl), trivial⟩
      ·replace h := cond_f h c5
       refine tri_skip ?_
       refine Exists.intro ⟨v0_1, h⟩ ?_
       refine entX [((2008, 0), ⟨9, 1, List.map strV v0_0, false, true⟩, some (2008, 0))] [] ⟨⟨rfl, _, rfl, rfl, rfl, rfl, id, rowsCv_eq rfl (allFree_map strV_free), rowsZ_map strV_len⟩, trivial⟩ trivial rfl rfl ?_
       exact ⟨(.ref rfl), (.free rfl), (.free rfl), trivial⟩
     ·rintro ⟨j2_0, h⟩
      replace h : i_read_j2 v0_0 v0_3 j2_0 = some (r0, r1, r2, r3) := h
      unfold i_read_j2 at h
      show Tri _ _ _ (inv_i_read_2 v0_0 v0_3 j2_0)
      refine tri_sr ?_
      refine m1 ?_
      refine bnd1_elim h fun x5 q6 h => ?_
      refine s_callN (kb := [(2008, 0)]) (ns := []) (v := .sc (.string x5)) rfl rfl cl116 (wi_JoinLabels v0_0 x5 q6) rfl (.cons (lendL rfl (.head _) rfl strV_free strV_len) .nil) trivial memNil .nil (fun _ _ => List.not_mem_nil) rfl trivial memNil rfl rfl rfl rfl rfl rfl ?_
      refine m1 ?_
      refine m1 ?_
      refine m2 ?_
      refine m2 ?_
      refine s_mv (.inr rfl) (v := .sc (.int .i64 0)) rfl rfl rfl rfl ?_
      refine m2 ?_
      refine rt_nil ?_
      refine tri_ret ?_
      have e0 := (some4 h).1; have e1 := (some4 h).2.1; have e2 := (some4 h).2.2.1; have e3 := (some4 h).2.2.2; subst e0; subst e1; subst e2; subst e3
      exact endY [] [] (rvC (resTmp rfl) (rvC (resTmp rfl) (rvC (resTmp rfl) (rvC (resTmp rfl) rvN)))) trivial trivial rfl rfl rfl rfl (CvL.tup (.cons (.free rfl) (.cons (.free rfl) (.cons (.free rfl) (.cons (.free rfl) .nil)))))
    ·replace h := cond_f h c4
     refine tri_sr ?_
     refine m1 ?_
     refine s_of (st_geq rfl rfl rfl) rfl rfl rfl rfl ?_
     refine m2 ?_
     refine rt_nil ?_
     refine tri_cond rfl (fun c7 => ?_) (fun c7 => ?_)
     ·replace h := cond_t h c7
      refine tri_seq ?_
      refine tri_sr ?_
      refine m1 ?_
      refine grd_elim h fun g8 h => ?_
      refine s_addI rfl rfl rfl rfl g8 rfl rfl rfl ?_
      refine m1 ?_
      refine s_lenL rfl sl22 rfl rfl rfl rfl ?_
      refine s_of (st_geq rfl rfl rfl) rfl rfl rfl rfl ?_
      refine rt_nil ?_
      refine tri_cond rfl (fun c9 => ?_) (fun c9 => ?_)
      ·replace h := cond_t h c9
       refine tri_sr ?_
       refine m1 ?_
       refine s_mv (.inr rfl) (v := .sc (.string (⟨#[]⟩ : ByteArray))) rfl rfl rfl rfl ?_
       refine s_mv (.inr rfl) (v := .sc (.int .i64 0)) rfl rfl rfl rfl ?_
       refine s_mv (.inr rfl) (v := .sc (.int .i64 1)) rfl rfl rfl rfl ?_
       refine m2 ?_
       refine rt_nil ?_
       refine tri_ret ?_
       have e0 := (some4 h).1; have e1 := (some4 h).2.1; have e2 := (some4 h).2.2.1; have e3 := (some4 h).2.2.2; subst e0; subst e1; subst e2; subst e3
       exact endY [] [] (rvC (resTmp rfl) (rvC (resTmp rfl) (rvC (resTmp rfl) (rvC (resTmp rfl) rvN)))) trivial trivial rfl rfl rfl rfl (CvL.tup (.cons (.free rfl) (.cons (.free rfl) (.cons (.free rfl) (.cons (.free rfl) .nil)))))
      ·replace h := cond_f h c9
       refine tri_skip ?_
       refine tri_sr ?_
       refine m1 ?_
       refine grd_elim h fun g10 h => ?_
       refine s_subI rfl rfl rfl rfl g10 rfl rfl rfl ?_
       refine grd_elim h fun g11 h => ?_
       refine s_mulI rfl rfl rfl rfl g11 rfl rfl rfl ?_
       refine m1 ?_
       refine m1 ?_
       refine grd_elim h fun g12 h => ?_
       refine s_addI rfl rfl rfl rfl g12 rfl rfl rfl ?_
       refine bnd1_elim h fun x13 q14 h => ?_
       have q14a := (idx_some q14).1; have q14b := (idx_some q14).2
       refine s_indexFZ rfl rfl rfl sl22 q14a (get_ltM q14b) rfl rfl rfl ?_
       refine s_loadF rfl rfl (rowG q14b) ty5 rfl (.inr rfl) (by conv => lhs; whnf) rfl rfl rfl ?_
       refine s_of (st_conv ik5 ik3 rfl rfl) rfl rfl rfl rfl ?_
       refine grd_elim h fun g15 h => ?_
       refine s_addI rfl rfl rfl rfl g15 rfl rfl rfl ?_
       refine m2 ?_
       refine rt_nil ?_
       refine tri_seq ?_
       refine tri_sr ?_
       refine m1 ?_
       refine m1 ?_
       refine s_of (st_geq rfl rfl rfl) rfl rfl rfl rfl ?_
       refine rt_nil ?_
       refine tri_cond rfl (fun c16 => ?_) (fun c16 => ?_)
       ·replace h := cond_t h c16
        refine tri_sr ?_
        refine m1 ?_
        refine s_mv (.inr rfl) (v := .sc (.string (⟨#[]⟩ : ByteArray))) rfl rfl rfl rfl ?_
        refine s_mv (.inr rfl) (v := .sc (.int .i64 0)) rfl rfl rfl rfl ?_
        refine s_mv (.inr rfl) (v := .sc (.int .i64 3)) rfl rfl rfl rfl ?_
        refine m2 ?_
        refine rt_nil ?_
        refine tri_ret ?_
        have e0 := (some4 h).1; have e1 := (some4 h).2.1; have e2 := (some4 h).2.2.1; have e3 := (some4 h).2.2.2; subst e0; subst e1; subst e2; subst e3
        exact endY [] [] (rvC (resTmp rfl) (rvC (resTmp rfl) (rvC (resTmp rfl) (rvC (resTmp rfl) rvN)))) trivial trivial rfl rfl rfl rfl (CvL.tup (.cons (.free rfl) (.cons (.free rfl) (.cons (.free rfl) (.cons (.free rfl) .nil)))))
       ·replace h := cond_f h c16
        refine tri_skip ?_
        refine tri_cutI (ι := { p : Int // i_read_j3 v0_0 v0_3 x2 x13 (i_read_l0 p0 f0) p = some (r0, r1, r2, r3) }) (fun p => inv_i_read_3 p0 v0_0 v0_3 x2 x13 p.1) ?_ ?_
        ·skip
         refine tri_sr ?_
         refine m1 ?_
         refine s_of (st_lss rfl rfl rfl) rfl rfl rfl rfl ?_
         refine rt_nil ?_
         refine tri_cond rfl (fun c17 => ?_) (fun c17 => ?_)
         ·replace h := cond_t h c17
          refine tri_region ?_
          refine m1 ?_
          refine grd_elim h fun g18 h => ?_
          refine s_addI rfl rfl rfl rfl g18 rfl rfl rfl ?_
          refine m2 ?_
          refine rt_nil ?_
          refine Exists.intro ⟨v0_4 + 2, h⟩ ?_
          refine entX [((2008, 0), ⟨9, 1, List.map strV v0_0, false, true⟩, some (2008, 0))] [] ⟨⟨rfl, _, rfl, rfl, rfl, rfl, id, rowsCv_eq rfl (allFree_map strV_free), rowsZ_map strV_len⟩, trivial⟩ trivial rfl rfl ?_
          exact ⟨(.free rfl), (.ref rfl), (.free rfl), (.free rfl), (.free rfl), trivial⟩
         ·replace h := cond_f h c17
          refine tri_skip ?_
          refine Exists.intro ⟨v0_1, h⟩ ?_
          refine entX [((2008, 0), ⟨9, 1, List.map strV v0_0, false, true⟩, some (2008, 0))] [] ⟨⟨rfl, _, rfl, rfl, rfl, rfl, id, rowsCv_eq rfl (allFree_map strV_free), rowsZ_map strV_len⟩, trivial⟩ trivial rfl rfl ?_
          exact ⟨(.free rfl), (.ref rfl), (.free rfl), (.free rfl), (.free rfl), trivial⟩
        ·rintro ⟨j3_0, h⟩
         replace h : i_read_j3 v0_0 v0_3 x2 x13 (i_read_l0 p0 f0) j3_0 = some (r0, r1, r2, r3) := h
         unfold i_read_j3 at h
         show Tri _ _ _ (inv_i_read_3 p0 v0_0 v0_3 x2 x13 j3_0)
         refine tri_sr ?_
         refine m1 ?_
         refine m2 ?_
         refine rt_nil ?_
         refine tri_sr ?_
         refine m1 ?_
         refine grd_elim h fun g17 h => ?_
         refine s_addI rfl rfl rfl rfl g17 rfl rfl rfl ?_
         refine m2 ?_
         refine rt_nil ?_
         refine tri_sr ?_
         refine m1 ?_
         refine m2 ?_
         refine rt_nil ?_
         refine tri_exit ?_
         refine Exists.intro ⟨(f0, v0_0, j3_0, (256 * ((IntKind.i64.wrap x2) - 192)) + (IntKind.i64.wrap x13), v0_3 + 1, (256 * ((IntKind.i64.wrap x2) - 192)) + (IntKind.i64.wrap x13)), h⟩ (And.intro (Nat.lt_succ_self _) ?_)
         refine entX [((2008, 0), ⟨9, 1, List.map strV v0_0, false, true⟩, some (2008, 0))] [] ⟨⟨rfl, _, rfl, rfl, rfl, rfl, id, rowsCv_eq rfl (allFree_map strV_free), rowsZ_map strV_len⟩, trivial⟩ trivial rfl rfl ?_
         exact ⟨(.free rfl), (.ref rfl), (.free rfl), (.free rfl), (.free rfl), (.free rfl), trivial⟩
     ·replace h := cond_f h c7
      refine tri_sr ?_
      refine m1 ?_
      refine s_of (st_gtr rfl rfl rfl) rfl rfl rfl rfl ?_
      refine m2 ?_
      refine rt_nil ?_
      refine tri_cond rfl (fun c19 => ?_) (fun c19 => ?_)
      ·replace h := cond_t h c19
       refine tri_sr ?_
       refine m1 ?_
       refine s_mv (.inr rfl) (v := .sc (.string (⟨#[]⟩ : ByteArray))) rfl rfl rfl rfl ?_
       refine s_mv (.inr rfl) (v := .sc (.int .i64 0)) rfl rfl rfl rfl ?_
       refine s_mv (.inr rfl) (v := .sc (.int .i64 2)) rfl rfl rfl rfl ?_
       refine m2 ?_
       refine rt_nil ?_
       refine tri_ret ?_
       have e0 := (some4 h).1; have e1 := (some4 h).2.1; have e2 := (some4 h).2.2.1; have e3 := (some4 h).2.2.2; subst e0; subst e1; subst e2; subst e3
       exact endY [] [] (rvC (resTmp rfl) (rvC (resTmp rfl) (rvC (resTmp rfl) (rvC (resTmp rfl) rvN)))) trivial trivial rfl rfl rfl rfl (CvL.tup (.cons (.free rfl) (.cons (.free rfl) (.cons (.free rfl) (.cons (.free rfl) .nil)))))
      ·replace h := cond_f h c19
       refine tri_sr ?_
       refine m1 ?_
       refine m1 ?_
       refine s_lenL rfl sl22 rfl rfl rfl rfl ?_
       refine m1 ?_
       refine grd_elim h fun g20 h => ?_
       refine s_subI rfl rfl rfl rfl g20 rfl rfl rfl ?_
       refine s_of (st_geq rfl rfl rfl) rfl rfl rfl rfl ?_
       refine m2 ?_
       refine rt_nil ?_
       refine tri_cond rfl (fun c21 => ?_) (fun c21 => ?_)
       ·replace h := cond_t h c21
        refine tri_sr ?_
        refine m1 ?_
        refine s_mv (.inr rfl) (v := .sc (.string (⟨#[]⟩ : ByteArray))) rfl rfl rfl rfl ?_
        refine s_mv (.inr rfl) (v := .sc (.int .i64 0)) rfl rfl rfl rfl ?_
        refine s_mv (.inr rfl) (v := .sc (.int .i64 1)) rfl rfl rfl rfl ?_
        refine m2 ?_
        refine rt_nil ?_
        refine tri_ret ?_
        have e0 := (some4 h).1; have e1 := (some4 h).2.1; have e2 := (some4 h).2.2.1; have e3 := (some4 h).2.2.2; subst e0; subst e1; subst e2; subst e3
        exact endY [] [] (rvC (resTmp rfl) (rvC (resTmp rfl) (rvC (resTmp rfl) (rvC (resTmp rfl) rvN)))) trivial trivial rfl rfl rfl rfl (CvL.tup (.cons (.free rfl) (.cons (.free rfl) (.cons (.free rfl) (.cons (.free rfl) .nil)))))
       ·replace h := cond_f h c21
        refine tri_skip ?_
        refine tri_sr ?_
        refine m1 ?_
        refine m1 ?_
        refine bnd3_elim h fun x22 x23 x24 q25 h => ?_
        refine s_callN (kb := []) (ns := []) (v := .tup [.sc (.string x22), .sc (.int .i64 x23), .sc (.bool x24)]) rfl rfl cl128 (wi_GetLabel p0 v0_4 x22 x23 x24 q25) rfl (.cons (.free rfl) (.cons (.free rfl) .nil)) trivial memNil .nil memNil rfl trivial memNil rfl rfl rfl rfl rfl rfl ?_
        refine m1 ?_
        refine s_extract rfl rfl rfl rfl rfl rfl ?_
        refine s_extract rfl rfl rfl rfl rfl rfl ?_
        refine s_extract rfl rfl rfl rfl rfl rfl ?_
        refine m2 ?_
        refine m2 ?_
        refine m2 ?_
        refine rt_nil ?_
        refine tri_seq ?_
        refine tri_sr ?_
        refine m1 ?_
        refine s_of (st_not rfl rfl) rfl rfl rfl rfl ?_
        refine rt_nil ?_
        refine tri_cond rfl (fun c26 => ?_) (fun c26 => ?_)
        ·replace h := cond_t h c26
         refine tri_sr ?_
         refine m1 ?_
         refine s_mv (.inr rfl) (v := .sc (.string (⟨#[]⟩ : ByteArray))) rfl rfl rfl rfl ?_
         refine s_mv (.inr rfl) (v := .sc (.int .i64 0)) rfl rfl rfl rfl ?_
         refine s_mv (.inr rfl) (v := .sc (.int .i64 2)) rfl rfl rfl rfl ?_
         refine m2 ?_
         refine rt_nil ?_
         refine tri_ret ?_
         have e0 := (some4 h).1; have e1 := (some4 h).2.1; have e2 := (some4 h).2.2.1; have e3 := (some4 h).2.2.2; subst e0; subst e1; subst e2; subst e3
         exact endY [] [] (rvC (resTmp rfl) (rvC (resTmp rfl) (rvC (resTmp rfl) (rvC (resTmp rfl) rvN)))) trivial trivial rfl rfl rfl rfl (CvL.tup (.cons (.free rfl) (.cons (.free rfl) (.cons (.free rfl) (.cons (.free rfl) .nil)))))
        ·replace h := cond_f h c26
         refine tri_skip ?_
         refine tri_sr ?_
         refine m1 ?_
         refine m1 ?_
         refine s_buildSlice (rows' := List.map strV [x22]) rfl rfl rfl sl91 zc9 rfl rfl rfl rfl rfl rfl rfl rfl rfl ?_
         refine grd_elim h fun g27 h => ?_
         refine s_appL rfl rfl rfl sl91 zc9 rfl rfl rfl rfl rfl rfl (src_refL rfl rfl) g27 rfl rfl ?_
         refine m2 ?_
         refine rt_nil ?_
         refine tri_seq ?_
         refine tri_sr ?_
         refine m1 ?_
         refine bnd1_elim h fun x28 q29 h => ?_
         refine s_callN (kb := [(102, 0)]) (ns := []) (v := .sc (.string x28)) rfl rfl cl116 (wi_JoinLabels (v0_0 ++ [x22]) x28 q29) rfl (.cons (lendL rfl (.head _) rfl strV_free strV_len) .nil) trivial memNil .nil (fun _ _ => List.not_mem_nil) rfl trivial memNil rfl rfl rfl rfl rfl rfl ?_
         refine bnd1_elim h fun x30 q31 h => ?_
         refine s_callN (kb := []) (ns := []) (v := .sc (.bool x30)) rfl rfl cl75 (wi_NameOk x28 x30 q31) rfl (.cons (.free rfl) .nil) trivial memNil .nil memNil rfl trivial memNil rfl rfl rfl rfl rfl rfl ?_
         refine s_of (st_not rfl rfl) rfl rfl rfl rfl ?_
         refine rt_nil ?_
         refine tri_cond rfl (fun c32 => ?_) (fun c32 => ?_)
         ·replace h := cond_t h c32
          refine tri_sr ?_
          refine m1 ?_
          refine s_mv (.inr rfl) (v := .sc (.string (⟨#[]⟩ : ByteArray))) rfl rfl rfl rfl ?_
          refine s_mv (.inr rfl) (v := .sc (.int .i64 0)) rfl rfl rfl rfl ?_
          refine s_mv (.inr rfl) (v := .sc (.int .i64 4)) rfl rfl rfl rfl ?_
          refine m2 ?_
          refine rt_nil ?_
          refine tri_ret ?_
          have e0 := (some4 h).1; have e1 := (some4 h).2.1; have e2 := (some4 h).2.2.1; have e3 := (some4 h).2.2.2; subst e0; subst e1; subst e2; subst e3
          exact endY [] [] (rvC (resTmp rfl) (rvC (resTmp rfl) (rvC (resTmp rfl) (rvC (resTmp rfl) rvN)))) trivial trivial rfl rfl rfl rfl (CvL.tup (.cons (.free rfl) (.cons (.free rfl) (.cons (.free rfl) (.cons (.free rfl) .nil)))))
         ·replace h := cond_f h c32
          refine tri_skip ?_
          refine tri_region ?_
          refine m1 ?_
          refine m2 ?_
          refine rt_nil ?_
          refine Exists.intro ⟨(f0, v0_0 ++ [x22], v0_1, v0_2, v0_3, x23), h⟩ (And.intro (Nat.lt_succ_self _) ?_)
          refine entX [((2008, 0), ⟨9, 1, List.map strV (v0_0 ++ [x22]), false, true⟩, some (102, 0))] [] ⟨⟨rfl, _, rfl, rfl, rfl, rfl, id, rowsCv_eq rfl (allFree_map strV_free), rowsZ_map strV_len⟩, trivial⟩ trivial rfl rfl ?_
          exact ⟨(.free rfl), (.ref rfl), (.free rfl), (.free rfl), (.free rfl), (.free rfl), trivial⟩

/- impl.GetName -/

set_option maxRecDepth 4000 in
set_option maxHeartbeats 800000 in
theorem wi_GetName (p0 : List Int) (p1 : Int) (r0 : ByteArray) (r1 : Int) (r2 : Int) (h : i_GetName p0 p1 = some (r0, r1, r2)) : Runs Tryz.prog 54 [.lst 1 (List.map byteV p0), .sc (.int .i64 p1)] [] (.tup [.sc (.string r0), .sc (.int .i64 r1), .sc (.int .i64 r2)]) [] := by
 unfold i_GetName at h
 refine runsR [.tmp 4, .tmp 5, .tmp 6] Tryz.func54 rfl rfl rfl rfl ?_
 rw [Tryz.ntmps54]
 refine tri_sr ?_
 refine s_mv (.inr rfl) (v := .sc (.string (⟨#[]⟩ : ByteArray))) rfl rfl rfl rfl ?_
 refine s_mv (.inr rfl) (v := .sc (.int .i64 0)) rfl rfl rfl rfl ?_
 refine s_mv (.inr rfl) (v := .sc (.int .i64 0)) rfl rfl rfl rfl ?_
 refine rt_nil ?_
 refine tri_sr ?_
 refine m1 ?_
 refine m1 ?_
 refine bnd4_elim h fun x1 x2 x3 x4 q5 h => ?_
 refine s_callN (kb := []) (ns := []) (v := .tup [.sc (.string x1), .sc (.int .i64 x2), .sc (.int .i64 x3), .sc (.int .i64 x4)]) rfl rfl cl94 (wi_read p0 p1 x1 x2 x3 x4 q5) rfl (.cons (.free rfl) (.cons (.free rfl) .nil)) trivial memNil .nil memNil rfl trivial memNil rfl rfl rfl rfl rfl rfl ?_
 refine m1 ?_
 refine s_extract rfl rfl rfl rfl rfl rfl ?_
 refine s_extract rfl rfl rfl rfl rfl rfl ?_
 refine s_extract rfl rfl rfl rfl rfl rfl ?_
 refine s_extract rfl rfl rfl rfl rfl rfl ?_
 refine m2 ?_
 refine m2 ?_
 refine m2 ?_
 refine m2 ?_
 refine rt_nil ?_
 refine tri_sr ?_
 refine m1 ?_
 refine m1 ?_
 refine m1 ?_
 refine m2 ?_
 refine m2 ?_
 refine m2 ?_
 refine rt_nil ?_
 refine tri_ret ?_
 have e0 := (some3 h).1; have e1 := (some3 h).2.1; have e2 := (some3 h).2.2; subst e0; subst e1; subst e2
 exact endY [] [] (rvC (resTmp rfl) (rvC (resTmp rfl) (rvC (resTmp rfl) rvN))) trivial trivial rfl rfl rfl rfl (CvL.tup (.cons (.free rfl) (.cons (.free rfl) (.cons (.free rfl) .nil))))

/- impl.PlaceOf -/
def inv_i_PlaceOf_2 (p0 : List Int) (p1 : ByteArray) (v0_0 : Int) (j2_0 : Bool) : St := mkT 34 [(0, .lst 1 (List.map byteV p0)), (1, .sc (.string p1)), (5, .sc (.int .i64 v0_0)), (32, .sc (.bool j2_0))] []
def inv_i_PlaceOf_1 (p0 : List Int) (p1 : ByteArray) (v0_0 : Int) (j1_0 : Bool) : St := mkT 34 [(0, .lst 1 (List.map byteV p0)), (1, .sc (.string p1)), (5, .sc (.int .i64 v0_0)), (16, .sc (.bool j1_0))] []
def inv_i_PlaceOf_0 (p0 : List Int) (p1 : ByteArray) (v0_0 : Int) : St := mkT 34 [(0, .lst 1 (List.map byteV p0)), (1, .sc (.string p1)), (5, .sc (.int .i64 v0_0))] []
set_option maxRecDepth 4000 in
set_option maxHeartbeats 800000 in
theorem wi_PlaceOf (p0 : List Int) (p1 : ByteArray) (r0 : Int) (h : i_PlaceOf p0 p1 = some r0) : Runs Tryz.prog 78 [.lst 1 (List.map byteV p0), .sc (.string p1)] [] (.sc (.int .i64 r0)) [] := by
 unfold i_PlaceOf at h
 refine runsR [.tmp 4] Tryz.func78 rfl rfl rfl rfl ?_
 rw [Tryz.ntmps78]
 refine tri_sr ?_
 refine s_mv (.inr rfl) (v := .sc (.int .i64 0)) rfl rfl rfl rfl ?_
 refine rt_nil ?_
 refine tri_seq ?_
 refine tri_sr ?_
 refine s_mv (.inr rfl) (v := .sc (.int .i64 0)) rfl rfl rfl rfl ?_
 refine rt_nil ?_
 refine tri_block ?_
 refine tri_loop (ι := { p : Nat × Int // i_PlaceOf_l0 p0 p1 p.1 p.2 = some r0 }) (fun p => inv_i_PlaceOf_0 p0 p1 p.1.2) (fun p => p.1.1) ⟨(fuel0, 0), h⟩ ?_ ?_
 ·skip
  refine entX [] [] trivial trivial rfl rfl ?_
  exact ⟨(.free rfl), (.free rfl), (.free rfl), trivial⟩
 ·rintro ⟨⟨f0, v0_0⟩, h⟩
  replace h : i_PlaceOf_l0 p0 p1 f0 v0_0 = some r0 := h
  cases f0 with
  | zero => cases h
  | succ f0 =>
  rw [i_PlaceOf_l0] at h
  show Tri _ _ _ (inv_i_PlaceOf_0 p0 p1 v0_0)
  refine tri_seq ?_
  refine tri_cutI (ι := { p : Bool // i_PlaceOf_j1 p0 p1 v0_0 (i_PlaceOf_l0 p0 p1 f0) p = some r0 }) (fun p => inv_i_PlaceOf_1 p0 p1 v0_0 p.1) ?_ ?_
  ·skip
   refine tri_region ?_
   refine m1 ?_
   refine m1 ?_
   refine s_lenL rfl sl22 rfl rfl rfl rfl ?_
   refine s_of (st_lss rfl rfl rfl) rfl rfl rfl rfl ?_
   refine m1 ?_
   refine s_split (t := 13) rfl (fun b1 => ?_) (fun b1 => ?_)
   ·replace h := cond_t h b1
    refine m1 ?_
    refine s_of (st_leq rfl rfl rfl) rfl rfl rfl rfl ?_
    refine s_pickT rfl rfl (by conv => lhs; whnf) rfl rfl rfl ?_
    refine rt_nil ?_
    refine Exists.intro ⟨decide (v0_0 ≤ 16383), h⟩ ?_
    refine entX [] [] trivial trivial rfl rfl ?_
    exact ⟨(.free rfl), (.free rfl), (.free rfl), (.free rfl), trivial⟩
   ·replace h := cond_f h b1
    refine s_skip rfl rfl rfl ?_
    refine s_skip rfl rfl rfl ?_
    refine s_pickF rfl rfl (v := .sc (.bool false)) rfl rfl rfl rfl ?_
    refine rt_nil ?_
    refine Exists.intro ⟨false, h⟩ ?_
    refine entX [] [] trivial trivial rfl rfl ?_
    exact ⟨(.free rfl), (.free rfl), (.free rfl), (.free rfl), trivial⟩
  ·rintro ⟨j1_0, h⟩
   replace h : i_PlaceOf_j1 p0 p1 v0_0 (i_PlaceOf_l0 p0 p1 f0) j1_0 = some r0 := h
   unfold i_PlaceOf_j1 at h
   show Tri _ _ _ (inv_i_PlaceOf_1 p0 p1 v0_0 j1_0)
   refine tri_cond rfl (fun c1 => ?_) (fun c1 => ?_)
   ·replace h := cond_t h c1
    refine tri_skip ?_
    refine tri_seq ?_
    refine tri_block ?_
    refine tri_sr ?_
    refine m1 ?_
    refine m1 ?_
    refine bnd3_elim h fun x2 x3 x4 q5 h => ?_
    refine s_callN (kb := []) (ns := []) (v := .tup [.sc (.string x2), .sc (.int .i64 x3), .sc (.int .i64 x4)]) rfl rfl cl54 (wi_GetName p0 v0_0 x2 x3 x4 q5) rfl (.cons (.free rfl) (.cons (.free rfl) .nil)) trivial memNil .nil memNil rfl trivial memNil rfl rfl rfl rfl rfl rfl ?_
    refine m1 ?_
    refine s_extract rfl rfl rfl rfl rfl rfl ?_
    refine s_extract rfl rfl rfl rfl rfl rfl ?_
    refine s_extract rfl rfl rfl rfl rfl rfl ?_
    refine m2 ?_
    refine m2 ?_
    refine m2 ?_
    refine rt_nil ?_
    refine tri_cutI (ι := { p : Bool // i_PlaceOf_j2 v0_0 (i_PlaceOf_l0 p0 p1 f0) p = some r0 }) (fun p => inv_i_PlaceOf_2 p0 p1 v0_0 p.1) ?_ ?_
    ·skip
     refine tri_region ?_
     refine m1 ?_
     refine s_of (st_eqI rfl rfl rfl) rfl rfl rfl rfl ?_
     refine m1 ?_
     refine s_split (t := 28) rfl (fun b6 => ?_) (fun b6 => ?_)
     ·replace h := cond_t h b6
      refine m1 ?_
      refine m1 ?_
      refine s_of (st_eqS rfl rfl rfl) rfl rfl rfl rfl ?_
      refine s_pickT rfl rfl (by conv => lhs; whnf) rfl rfl rfl ?_
      refine rt_nil ?_
      refine Exists.intro ⟨decide (x2 = p1), h⟩ ?_
      refine entX [] [] trivial trivial rfl rfl ?_
      exact ⟨(.free rfl), (.free rfl), (.free rfl), (.free rfl), trivial⟩
     ·replace h := cond_f h b6
      refine s_skip rfl rfl rfl ?_
      refine s_skip rfl rfl rfl ?_
      refine s_skip rfl rfl rfl ?_
      refine s_pickF rfl rfl (v := .sc (.bool false)) rfl rfl rfl rfl ?_
      refine rt_nil ?_
      refine Exists.intro ⟨false, h⟩ ?_
      refine entX [] [] trivial trivial rfl rfl ?_
      exact ⟨(.free rfl), (.free rfl), (.free rfl), (.free rfl), trivial⟩
    ·rintro ⟨j2_0, h⟩
     replace h : i_PlaceOf_j2 v0_0 (i_PlaceOf_l0 p0 p1 f0) j2_0 = some r0 := h
     unfold i_PlaceOf_j2 at h
     show Tri _ _ _ (inv_i_PlaceOf_2 p0 p1 v0_0 j2_0)
     refine tri_cond rfl (fun c6 => ?_) (fun c6 => ?_)
     ·replace h := cond_t h c6
      refine tri_sr ?_
      refine m1 ?_
      refine m2 ?_
      refine rt_nil ?_
      refine tri_ret ?_
      have e0 := (some1 h); subst e0
      exact endY [] [] (rvC (resTmp rfl) rvN) trivial trivial rfl rfl rfl rfl (.free rfl)
     ·replace h := cond_f h c6
      refine tri_skip ?_
      refine tri_region ?_
      refine m1 ?_
      refine grd_elim h fun g7 h => ?_
      refine s_addI rfl rfl rfl rfl g7 rfl rfl rfl ?_
      refine m2 ?_
      refine rt_nil ?_
      refine Exists.intro ⟨(f0, v0_0 + 1), h⟩ (And.intro (Nat.lt_succ_self _) ?_)
      refine entX [] [] trivial trivial rfl rfl ?_
      exact ⟨(.free rfl), (.free rfl), (.free rfl), trivial⟩
   ·replace h := cond_f h c1
    refine tri_exit ?_
    refine tri_sr ?_
    refine s_mv (.inr rfl) (v := .sc (.int .i64 (-1))) rfl rfl rfl rfl ?_
    refine rt_nil ?_
    refine tri_ret ?_
    have e0 := (some1 h); subst e0
    exact endY [] [] (rvC (resTmp rfl) rvN) trivial trivial rfl rfl rfl rfl (.free rfl)

/- impl.PutLabel -/

set_option maxRecDepth 4000 in
set_option maxHeartbeats 800000 in
theorem wi_PutLabel (p0 : List Int) (p1 : ByteArray) (r0 : List Int) (h : i_PutLabel p0 p1 = some r0) : Runs Tryz.prog 79 [.lst 1 (List.map byteV p0), .sc (.string p1)] [] (.own 5 1 (List.map byteV r0)) [] := by
 unfold i_PutLabel at h
 refine runsR [.tmp 4] Tryz.func79 rfl rfl rfl rfl ?_
 rw [Tryz.ntmps79]
 refine tri_sr ?_
 refine s_mv (.inr rfl) (v := .nils) rfl rfl rfl rfl ?_
 refine rt_nil ?_
 refine tri_sr ?_
 refine m1 ?_
 refine bnd1_elim h fun x1 q2 h => ?_
 refine s_callN (kb := []) (ns := []) (v := .ref (7, 0) 0 x1.length) rfl rfl cl74 (wslices_Clone_byte p0 x1 q2) rfl (.cons (.free rfl) .nil) trivial memNil .nil memNil rfl ⟨(allSc_map byteV_sc), trivial⟩ memNil rfl (by simp only [V.mat, V.mat1, V.mat0, matL, matT, List.length_map] <;> rfl) rfl rfl rfl rfl ?_
 refine m2 ?_
 refine rt_nil ?_
 refine tri_seq ?_
 refine tri_sr ?_
 refine m1 ?_
 refine bnd1_elim h fun x3 q4 h => ?_
 refine s_callN (kb := []) (ns := []) (v := .sc (.bool x3)) rfl rfl cl114 (wi_LabelOk p1 x3 q4) rfl (.cons (.free rfl) .nil) trivial memNil .nil memNil rfl trivial memNil rfl rfl rfl rfl rfl rfl ?_
 refine s_of (st_not rfl rfl) rfl rfl rfl rfl ?_
 refine rt_nil ?_
 refine tri_cond rfl (fun c5 => ?_) (fun c5 => ?_)
 ·replace h := cond_t h c5
  refine tri_sr ?_
  refine m1 ?_
  refine m2 ?_
  refine rt_nil ?_
  refine tri_ret ?_
  have e0 := (some1 h); subst e0
  exact endY (v' := .ref (2000, 0) 0 x1.length) [((2000, 0), ⟨5, 1, List.map byteV x1, false, true⟩, some (7, 0))] [] (rvC (resTmp rfl) rvN) ⟨⟨rfl, _, rfl, rfl, rfl, rfl, id, rowsCv_eq rfl (allFree_map byteV_free), rowsZ_map byteV_len⟩, trivial⟩ trivial rfl rfl (by kernel_rfl) (by simp only [V.mat, V.mat1, V.mat0, matL, matT, List.length_map] <;> rfl) (.ref rfl)
 ·replace h := cond_f h c5
  refine tri_skip ?_
  refine tri_sr ?_
  refine m1 ?_
  refine m1 ?_
  refine s_of (st_lenS rfl rfl iss9) rfl rfl rfl rfl ?_
  refine s_of (st_conv ik3 ik5 rfl rfl) rfl rfl rfl rfl ?_
  refine s_buildSlice (rows' := List.map byteV [IntKind.u8.wrap (p1.size : Int)]) rfl rfl rfl sl22 zc5 rfl rfl rfl rfl rfl rfl rfl rfl rfl ?_
  refine grd_elim h fun g6 h => ?_
  refine s_appL rfl rfl rfl sl22 zc5 rfl rfl rfl rfl rfl rfl (src_refL rfl rfl) g6 rfl rfl ?_
  refine m1 ?_
  refine grd_elim h fun g7 h => ?_
  refine s_appS rfl rfl rfl sl22 zc5 iss9 rfl rfl rfl rfl rfl rfl g7 rfl rfl ?_
  refine m2 ?_
  refine rt_nil ?_
  refine tri_ret ?_
  have e0 := (some1 h); subst e0
  exact endY (v' := .ref (2000, 0) 0 (((x1 ++ [IntKind.u8.wrap (p1.size : Int)]) ++ (bytesOf p1)).length)) [((2000, 0), ⟨5, 1, List.map byteV ((x1 ++ [IntKind.u8.wrap (p1.size : Int)]) ++ (bytesOf p1)), false, true⟩, some (19, 0))] [] (rvC (resTmp rfl) rvN) ⟨⟨rfl, _, rfl, rfl, rfl, rfl, id, rowsCv_eq rfl (allFree_map byteV_free), rowsZ_map byteV_len⟩, trivial⟩ trivial rfl rfl (by kernel_rfl) (by simp only [V.mat, V.mat1, V.mat0, matL, matT, List.length_map] <;> rfl) (by show Cv _ _ _ _ (.ref (19, 0) 0 (((x1 ++ [IntKind.u8.wrap (p1.size : Int)]) ++ (bytesOf p1)).length)) (.ref (2000, 0) 0 (((x1 ++ [IntKind.u8.wrap (p1.size : Int)]) ++ (bytesOf p1)).length)); exact .ref rfl)

/- impl.PutPlain -/
def inv_i_PutPlain_1 (x6 : List ByteArray) (v1_0 : List Int) (v1_1 : Nat) : St := mkT 28 [(5, .ref (2005, 0) 0 v1_0.length), (15, .ref (15, 0) 0 x6.length), (16, .sc (.int .i64 (x6.length : Int))), (17, .sc (.int .i64 (v1_1 : Int)))] [((2005, 0), some ⟨5, 1, List.map byteV v1_0, false, true⟩), ((15, 0), some ⟨9, 1, List.map strV x6, false, true⟩)]
def inv_i_PutPlain_0  (j0_0 : List Int) : St := mkT 28 [(5, .ref (2005, 0) 0 j0_0.length)] [((2005, 0), some ⟨5, 1, List.map byteV j0_0, false, true⟩)]
set_option maxRecDepth 4000 in
set_option maxHeartbeats 800000 in
theorem wi_PutPlain (p0 : List Int) (p1 : ByteArray) (r0 : List Int) (h : i_PutPlain p0 p1 = some r0) : Runs Tryz.prog 80 [.lst 1 (List.map byteV p0), .sc (.string p1)] [] (.own 5 1 (List.map byteV r0)) [] := by
 unfold i_PutPlain at h
 refine runsR [.tmp 4] Tryz.func80 rfl rfl rfl rfl ?_
 rw [Tryz.ntmps80]
 refine tri_sr ?_
 refine s_mv (.inr rfl) (v := .nils) rfl rfl rfl rfl ?_
 refine rt_nil ?_
 refine tri_sr ?_
 refine m1 ?_
 refine bnd1_elim h fun x1 q2 h => ?_
 refine s_callN (kb := []) (ns := []) (v := .ref (9, 0) 0 x1.length) rfl rfl cl74 (wslices_Clone_byte p0 x1 q2) rfl (.cons (.free rfl) .nil) trivial memNil .nil memNil rfl ⟨(allSc_map byteV_sc), trivial⟩ memNil rfl (by simp only [V.mat, V.mat1, V.mat0, matL, matT, List.length_map] <;> rfl) rfl rfl rfl rfl ?_
 refine m2 ?_
 refine rt_nil ?_
 refine tri_seq ?_
 refine tri_sr ?_
 refine m1 ?_
 refine bnd1_elim h fun x3 q4 h => ?_
 refine s_callN (kb := []) (ns := []) (v := .sc (.bool x3)) rfl rfl cl75 (wi_NameOk p1 x3 q4) rfl (.cons (.free rfl) .nil) trivial memNil .nil memNil rfl trivial memNil rfl rfl rfl rfl rfl rfl ?_
 refine s_of (st_not rfl rfl) rfl rfl rfl rfl ?_
 refine rt_nil ?_
 refine tri_cond rfl (fun c5 => ?_) (fun c5 => ?_)
 ·replace h := cond_t h c5
  refine tri_sr ?_
  refine m1 ?_
  refine m2 ?_
  refine rt_nil ?_
  refine tri_ret ?_
  have e0 := (some1 h); subst e0
  exact endY (v' := .ref (2000, 0) 0 x1.length) [((2000, 0), ⟨5, 1, List.map byteV x1, false, true⟩, some (9, 0))] [] (rvC (resTmp rfl) rvN) ⟨⟨rfl, _, rfl, rfl, rfl, rfl, id, rowsCv_eq rfl (allFree_map byteV_free), rowsZ_map byteV_len⟩, trivial⟩ trivial rfl rfl (by kernel_rfl) (by simp only [V.mat, V.mat1, V.mat0, matL, matT, List.length_map] <;> rfl) (.ref rfl)
 ·replace h := cond_f h c5
  refine tri_skip ?_
  refine tri_cutI (ι := { p : (List Int) // i_PutPlain_j0 p = some r0 }) (fun p => inv_i_PutPlain_0 p.1) ?_ ?_
  ·skip
   refine tri_sr ?_
   refine m1 ?_
   refine bnd1_elim h fun x6 q7 h => ?_
   refine s_callN (kb := []) (ns := []) (v := .ref (15, 0) 0 x6.length) rfl rfl cl76 (wi_Labels p1 x6 q7) rfl (.cons (.free rfl) .nil) trivial memNil .nil memNil rfl ⟨(allSc_map strV_sc), trivial⟩ memNil rfl (by simp only [V.mat, V.mat1, V.mat0, matL, matT, List.length_map] <;> rfl) rfl rfl rfl rfl ?_
   refine s_len (m := x6.length) rfl sl91 rfl rfl rfl rfl ?_
   refine s_mv (.inl rfl) (v := .sc (.int .i64 0)) rfl rfl rfl rfl ?_
   refine rt_nil ?_
   refine tri_block ?_
   refine tri_ownM (15, 0) rfl (fun hl1 => ?_)
   refine tri_loop (ι := { p : (List ByteArray) × (List Int) × Nat // x6.drop p.2.2 = p.1 ∧ i_PutPlain_l1 p.1 p.2.1 p.2.2 = some r0 }) (fun p => inv_i_PutPlain_1 x6 p.1.2.1 p.1.2.2) (fun p => p.1.1.length) ⟨(x6, x1, 0), rfl, h⟩ ?_ ?_
   ·skip
    refine entX [((2005, 0), ⟨5, 1, List.map byteV x1, false, true⟩, some (9, 0)), ((15, 0), ⟨9, 1, List.map strV x6, false, true⟩, some (15, 0))] [] ⟨⟨rfl, _, rfl, rfl, rfl, rfl, id, rowsCv_eq rfl (allFree_map byteV_free), rowsZ_map byteV_len⟩, ⟨rfl, _, rfl, rfl, rfl, rfl, id, rowsCv_eq rfl (allFree_map strV_free), rowsZ_map strV_len⟩, trivial⟩ trivial rfl rfl ?_
    exact ⟨(.ref rfl), (.ref rfl), (.free rfl), (.free rfl), trivial⟩
   ·rintro ⟨⟨lrs1, v1_0, v1_1⟩, hd1, h⟩
    replace hd1 : x6.drop v1_1 = lrs1 := hd1
    replace h : i_PutPlain_l1 lrs1 v1_0 v1_1 = some r0 := h
    show Tri _ _ _ (inv_i_PutPlain_1 x6 v1_0 v1_1)
    refine tri_sr ?_
    refine s_of (st_lss rfl rfl rfl) rfl rfl rfl rfl ?_
    refine rt_nil ?_
    refine tri_seq ?_
    refine tri_cond rfl (fun c8 => ?_) (fun c8 => ?_)
    ·refine drop_elim hd1 c8 fun e1 rs1 he hx1 hn1 => ?_
     subst he
     rw [i_PutPlain_l1] at h
     refine tri_skip ?_
     refine tri_seq ?_
     refine tri_block ?_
     refine tri_sr ?_
     refine s_index0 (i := v1_1) rfl rfl rfl rfl sl91 rfl (get_lt hx1) rfl rfl rfl ?_
     refine s_load rfl rfl rfl (rowG hx1) ty9 rfl (.inr rfl) (by conv => lhs; whnf) rfl rfl rfl ?_
     refine m2 ?_
     refine rt_nil ?_
     refine tri_region ?_
     refine m1 ?_
     refine m1 ?_
     refine bnd1_elim h fun x9 q10 h => ?_
     refine s_callN (kb := [(2005, 0)]) (ns := []) (v := .ref (23, 0) 0 x9.length) rfl rfl cl79 (wi_PutLabel v1_0 e1 x9 q10) rfl (.cons (lendL rfl (.head _) rfl byteV_free byteV_len) (.cons (.free rfl) .nil)) trivial memNil .nil (fun _ _ => List.not_mem_nil) rfl ⟨(allSc_map byteV_sc), trivial⟩ memNil rfl (by simp only [V.mat, V.mat1, V.mat0, matL, matT, List.length_map] <;> rfl) rfl rfl rfl rfl ?_
     refine m2 ?_
     refine rt_nil ?_
     refine tri_region ?_
     refine s_inc (a := v1_1) (b := 1) rfl rfl rfl rfl (by have := get_lt hx1; have := hl1; omega) rfl rfl rfl ?_
     refine m1 ?_
     refine rt_nil ?_
     refine Exists.intro ⟨(rs1, x9, (v1_1 + 1)), hn1, h⟩ (And.intro (Nat.lt_succ_self _) ?_)
     refine entX [((2005, 0), ⟨5, 1, List.map byteV x9, false, true⟩, some (23, 0)), ((15, 0), ⟨9, 1, List.map strV x6, false, true⟩, some (15, 0))] [] ⟨⟨rfl, _, rfl, rfl, rfl, rfl, id, rowsCv_eq rfl (allFree_map byteV_free), rowsZ_map byteV_len⟩, ⟨rfl, _, rfl, rfl, rfl, rfl, id, rowsCv_eq rfl (allFree_map strV_free), rowsZ_map strV_len⟩, trivial⟩ trivial rfl rfl ?_
     exact ⟨(.ref rfl), (.ref rfl), (.free rfl), (.free rfl), trivial⟩
    ·have he := drop_f hd1 c8; subst he
     rw [i_PutPlain_l1] at h
     refine tri_exit ?_
     refine Exists.intro ⟨v1_0, h⟩ ?_
     refine entX [((2005, 0), ⟨5, 1, List.map byteV v1_0, false, true⟩, some (2005, 0))] [] ⟨⟨rfl, _, rfl, rfl, rfl, rfl, id, rowsCv_eq rfl (allFree_map byteV_free), rowsZ_map byteV_len⟩, trivial⟩ trivial rfl rfl ?_
     exact ⟨(.ref rfl), trivial⟩
  ·rintro ⟨j0_0, h⟩
   replace h : i_PutPlain_j0 j0_0 = some r0 := h
   unfold i_PutPlain_j0 at h
   show Tri _ _ _ (inv_i_PutPlain_0 j0_0)
   refine tri_sr ?_
   refine m1 ?_
   refine s_buildSlice (rows' := List.map byteV [0]) rfl rfl rfl sl22 zc5 rfl rfl rfl rfl rfl rfl rfl rfl rfl ?_
   refine grd_elim h fun g6 h => ?_
   refine s_appL rfl rfl rfl sl22 zc5 rfl rfl rfl rfl rfl rfl (src_refL rfl rfl) g6 rfl rfl ?_
   refine m2 ?_
   refine rt_nil ?_
   refine tri_ret ?_
   have e0 := (some1 h); subst e0
   exact endY (v' := .ref (2000, 0) 0 ((j0_0 ++ [0]).length)) [((2000, 0), ⟨5, 1, List.map byteV (j0_0 ++ [0]), false, true⟩, some (27, 0))] [] (rvC (resTmp rfl) rvN) ⟨⟨rfl, _, rfl, rfl, rfl, rfl, id, rowsCv_eq rfl (allFree_map byteV_free), rowsZ_map byteV_len⟩, trivial⟩ trivial rfl rfl (by kernel_rfl) (by simp only [V.mat, V.mat1, V.mat0, matL, matT, List.length_map] <;> rfl) (by show Cv _ _ _ _ (.ref (27, 0) 0 ((j0_0 ++ [0]).length)) (.ref (2000, 0) 0 ((j0_0 ++ [0]).length)); exact .ref rfl)

/- impl.PutName -/
def inv_i_PutName_4 (x6 : List ByteArray) (v1_0 : Nat) (x11 : Int) (v4_0 : List Int) (v4_1 : Int) : St := mkT 63 [(5, .ref (2005, 0) 0 v4_0.length), (9, .sc (.int .i64 x11)), (39, .ref (19, 0) (0 + ((0 : Nat) : Int).toNat) ((v1_0 : Int).toNat - ((0 : Nat) : Int).toNat)), (40, .sc (.int .i64 (((v1_0 : Int).toNat - ((0 : Nat) : Int).toNat) : Int))), (41, .sc (.int .i64 v4_1))] [((2005, 0), some ⟨5, 1, List.map byteV v4_0, false, true⟩), ((19, 0), some ⟨9, 1, List.map strV x6, false, true⟩)]
def inv_i_PutName_3 (x11 : Int) (j3_0 : List Int) : St := mkT 63 [(5, .ref (2005, 0) 0 j3_0.length), (9, .sc (.int .i64 x11))] [((2005, 0), some ⟨5, 1, List.map byteV j3_0, false, true⟩)]
def inv_i_PutName_2 (p0 : List Int) (p1 : ByteArray) (x1 : List Int) (x6 : List ByteArray) (x8 : List ByteArray) (v1_0 : Nat) (x11 : Int) (j2_0 : Bool) : St := mkT 63 [(0, .lst 1 (List.map byteV p0)), (1, .sc (.string p1)), (5, .ref (13, 0) 0 x1.length), (6, .ref (19, 0) 0 x6.length), (7, .sc (.int .i64 (v1_0 : Int))), (9, .sc (.int .i64 x11)), (21, .ref (21, 0) 0 x8.length), (22, .sc (.int .i64 (x8.length : Int))), (23, .sc (.int .i64 (v1_0 : Int))), (36, .sc (.bool j2_0))] [((13, 0), some ⟨5, 1, List.map byteV x1, false, true⟩), ((19, 0), some ⟨9, 1, List.map strV x6, false, true⟩), ((21, 0), some ⟨9, 1, List.map strV x8, false, true⟩)]
def inv_i_PutName_1 (p0 : List Int) (p1 : ByteArray) (x1 : List Int) (x6 : List ByteArray) (x8 : List ByteArray) (v1_0 : Nat) : St := mkT 63 [(0, .lst 1 (List.map byteV p0)), (1, .sc (.string p1)), (5, .ref (13, 0) 0 x1.length), (6, .ref (19, 0) 0 x6.length), (21, .ref (21, 0) 0 x8.length), (22, .sc (.int .i64 (x8.length : Int))), (23, .sc (.int .i64 (v1_0 : Int)))] [((13, 0), some ⟨5, 1, List.map byteV x1, false, true⟩), ((19, 0), some ⟨9, 1, List.map strV x6, false, true⟩), ((21, 0), some ⟨9, 1, List.map strV x8, false, true⟩)]
def inv_i_PutName_0 (p0 : List Int) (p1 : ByteArray) : St := mkT 63 [(0, .lst 1 (List.map byteV p0)), (1, .sc (.string p1))] []
set_option maxRecDepth 4000 in
set_option maxHeartbeats 800000 in
theorem wi_PutName (p0 : List Int) (p1 : ByteArray) (r0 : List Int) (h : i_PutName p0 p1 = some r0) : Runs Tryz.prog 40 [.lst 1 (List.map byteV p0), .sc (.string p1)] [] (.own 5 1 (List.map byteV r0)) [] := by
 unfold i_PutName at h
 refine runsR [.tmp 4] Tryz.func40 rfl rfl rfl rfl ?_
 rw [Tryz.ntmps40]
 refine tri_sr ?_
 refine s_mv (.inr rfl) (v := .nils) rfl rfl rfl rfl ?_
 refine rt_nil ?_
 refine tri_sr ?_
 refine m1 ?_
 refine bnd1_elim h fun x1 q2 h => ?_
 refine s_callN (kb := []) (ns := []) (v := .ref (13, 0) 0 x1.length) rfl rfl cl74 (wslices_Clone_byte p0 x1 q2) rfl (.cons (.free rfl) .nil) trivial memNil .nil memNil rfl ⟨(allSc_map byteV_sc), trivial⟩ memNil rfl (by simp only [V.mat, V.mat1, V.mat0, matL, matT, List.length_map] <;> rfl) rfl rfl rfl rfl ?_
 refine m2 ?_
 refine rt_nil ?_
 refine tri_seq ?_
 refine tri_sr ?_
 refine m1 ?_
 refine bnd1_elim h fun x3 q4 h => ?_
 refine s_callN (kb := []) (ns := []) (v := .sc (.bool x3)) rfl rfl cl75 (wi_NameOk p1 x3 q4) rfl (.cons (.free rfl) .nil) trivial memNil .nil memNil rfl trivial memNil rfl rfl rfl rfl rfl rfl ?_
 refine s_of (st_not rfl rfl) rfl rfl rfl rfl ?_
 refine rt_nil ?_
 refine tri_cond rfl (fun c5 => ?_) (fun c5 => ?_)
 ·replace h := cond_t h c5
  refine tri_sr ?_
  refine m1 ?_
  refine m2 ?_
  refine rt_nil ?_
  refine tri_ret ?_
  have e0 := (some1 h); subst e0
  exact endY (v' := .ref (2000, 0) 0 x1.length) [((2000, 0), ⟨5, 1, List.map byteV x1, false, true⟩, some (13, 0))] [] (rvC (resTmp rfl) rvN) ⟨⟨rfl, _, rfl, rfl, rfl, rfl, id, rowsCv_eq rfl (allFree_map byteV_free), rowsZ_map byteV_len⟩, trivial⟩ trivial rfl rfl (by kernel_rfl) (by simp only [V.mat, V.mat1, V.mat0, matL, matT, List.length_map] <;> rfl) (.ref rfl)
 ·replace h := cond_f h c5
  refine tri_skip ?_
  refine tri_sr ?_
  refine m1 ?_
  refine bnd1_elim h fun x6 q7 h => ?_
  refine s_callN (kb := []) (ns := []) (v := .ref (19, 0) 0 x6.length) rfl rfl cl76 (wi_Labels p1 x6 q7) rfl (.cons (.free rfl) .nil) trivial memNil .nil memNil rfl ⟨(allSc_map strV_sc), trivial⟩ memNil rfl (by simp only [V.mat, V.mat1, V.mat0, matL, matT, List.length_map] <;> rfl) rfl rfl rfl rfl ?_
  refine m2 ?_
  refine rt_nil ?_
  refine tri_cutI (ι := { p : Unit // i_PutName_j0 p0 p1 = some r0 }) (fun p => inv_i_PutName_0 p0 p1) ?_ ?_
  ·skip
   refine tri_sr ?_
   refine m1 ?_
   refine bnd1_elim h fun x8 q9 h => ?_
   refine s_callN (kb := []) (ns := []) (v := .ref (21, 0) 0 x8.length) rfl rfl cl77 (wi_Above p1 x8 q9) rfl (.cons (.free rfl) .nil) trivial memNil .nil memNil rfl ⟨(allSc_map strV_sc), trivial⟩ memNil rfl (by simp only [V.mat, V.mat1, V.mat0, matL, matT, List.length_map] <;> rfl) rfl rfl rfl rfl ?_
   refine s_len (m := x8.length) rfl sl91 rfl rfl rfl rfl ?_
   refine s_mv (.inl rfl) (v := .sc (.int .i64 0)) rfl rfl rfl rfl ?_
   refine rt_nil ?_
   refine tri_block ?_
   refine tri_ownM (21, 0) rfl (fun hl1 => ?_)
   refine tri_loop (ι := { p : (List ByteArray) × Nat // x8.drop p.2 = p.1 ∧ i_PutName_l1 p0 p1 x1 x6 p.1 p.2 = some r0 }) (fun p => inv_i_PutName_1 p0 p1 x1 x6 x8 p.1.2) (fun p => p.1.1.length) ⟨(x8, 0), rfl, h⟩ ?_ ?_
   ·skip
    refine entX [((13, 0), ⟨5, 1, List.map byteV x1, false, true⟩, some (13, 0)), ((19, 0), ⟨9, 1, List.map strV x6, false, true⟩, some (19, 0)), ((21, 0), ⟨9, 1, List.map strV x8, false, true⟩, some (21, 0))] [] ⟨⟨rfl, _, rfl, rfl, rfl, rfl, id, rowsCv_eq rfl (allFree_map byteV_free), rowsZ_map byteV_len⟩, ⟨rfl, _, rfl, rfl, rfl, rfl, id, rowsCv_eq rfl (allFree_map strV_free), rowsZ_map strV_len⟩, ⟨rfl, _, rfl, rfl, rfl, rfl, id, rowsCv_eq rfl (allFree_map strV_free), rowsZ_map strV_len⟩, trivial⟩ trivial rfl rfl ?_
    exact ⟨(.free rfl), (.free rfl), (.ref rfl), (.ref rfl), (.ref rfl), (.free rfl), (.free rfl), trivial⟩
   ·rintro ⟨⟨lrs1, v1_0⟩, hd1, h⟩
    replace hd1 : x8.drop v1_0 = lrs1 := hd1
    replace h : i_PutName_l1 p0 p1 x1 x6 lrs1 v1_0 = some r0 := h
    show Tri _ _ _ (inv_i_PutName_1 p0 p1 x1 x6 x8 v1_0)
    refine tri_sr ?_
    refine s_of (st_lss rfl rfl rfl) rfl rfl rfl rfl ?_
    refine rt_nil ?_
    refine tri_seq ?_
    refine tri_cond rfl (fun c10 => ?_) (fun c10 => ?_)
    ·refine drop_elim hd1 c10 fun e1 rs1 he hx1 hn1 => ?_
     subst he
     rw [i_PutName_l1] at h
     refine tri_skip ?_
     refine tri_seq ?_
     refine tri_block ?_
     refine tri_sr ?_
     refine m1 ?_
     refine s_index0 (i := v1_0) rfl rfl rfl rfl sl91 rfl (get_lt hx1) rfl rfl rfl ?_
     refine s_load rfl rfl rfl (rowG hx1) ty9 rfl (.inr rfl) (by conv => lhs; whnf) rfl rfl rfl ?_
     refine m2 ?_
     refine m2 ?_
     refine rt_nil ?_
     refine tri_sr ?_
     refine m1 ?_
     refine m1 ?_
     refine bnd1_elim h fun x11 q12 h => ?_
     refine s_callN (kb := []) (ns := []) (v := .sc (.int .i64 x11)) rfl rfl cl78 (wi_PlaceOf p0 e1 x11 q12) rfl (.cons (.free rfl) (.cons (.free rfl) .nil)) trivial memNil .nil memNil rfl trivial memNil rfl rfl rfl rfl rfl rfl ?_
     refine m2 ?_
     refine rt_nil ?_
     refine tri_seq ?_
     refine tri_cutI (ι := { p : Bool // i_PutName_j2 x1 x6 v1_0 x11 (i_PutName_l1 p0 p1 x1 x6 rs1) p = some r0 }) (fun p => inv_i_PutName_2 p0 p1 x1 x6 x8 v1_0 x11 p.1) ?_ ?_
     ·skip
      refine tri_region ?_
      refine m1 ?_
      refine s_of (st_eqS rfl rfl rfl) rfl rfl rfl rfl ?_
      refine m1 ?_
      refine s_split (t := 33) rfl (fun b13 => ?_) (fun b13 => ?_)
      ·replace h := cond_t h b13
       refine s_skip rfl rfl rfl ?_
       refine s_skip rfl rfl rfl ?_
       refine s_pickT rfl rfl (v := .sc (.bool true)) rfl rfl rfl rfl ?_
       refine rt_nil ?_
       refine Exists.intro ⟨true, h⟩ ?_
       refine entX [((13, 0), ⟨5, 1, List.map byteV x1, false, true⟩, some (13, 0)), ((19, 0), ⟨9, 1, List.map strV x6, false, true⟩, some (19, 0)), ((21, 0), ⟨9, 1, List.map strV x8, false, true⟩, some (21, 0))] [] ⟨⟨rfl, _, rfl, rfl, rfl, rfl, id, rowsCv_eq rfl (allFree_map byteV_free), rowsZ_map byteV_len⟩, ⟨rfl, _, rfl, rfl, rfl, rfl, id, rowsCv_eq rfl (allFree_map strV_free), rowsZ_map strV_len⟩, ⟨rfl, _, rfl, rfl, rfl, rfl, id, rowsCv_eq rfl (allFree_map strV_free), rowsZ_map strV_len⟩, trivial⟩ trivial rfl rfl ?_
       exact ⟨(.free rfl), (.free rfl), (.ref rfl), (.ref rfl), (.free rfl), (.free rfl), (.ref rfl), (.free rfl), (.free rfl), (.free rfl), trivial⟩
      ·replace h := cond_f h b13
       refine m1 ?_
       refine s_of (st_lss rfl rfl rfl) rfl rfl rfl rfl ?_
       refine s_pickF rfl rfl (by conv => lhs; whnf) rfl rfl rfl ?_
       refine rt_nil ?_
       refine Exists.intro ⟨decide (x11 < 0), h⟩ ?_
       refine entX [((13, 0), ⟨5, 1, List.map byteV x1, false, true⟩, some (13, 0)), ((19, 0), ⟨9, 1, List.map strV x6, false, true⟩, some (19, 0)), ((21, 0), ⟨9, 1, List.map strV x8, false, true⟩, some (21, 0))] [] ⟨⟨rfl, _, rfl, rfl, rfl, rfl, id, rowsCv_eq rfl (allFree_map byteV_free), rowsZ_map byteV_len⟩, ⟨rfl, _, rfl, rfl, rfl, rfl, id, rowsCv_eq rfl (allFree_map strV_free), rowsZ_map strV_len⟩, ⟨rfl, _, rfl, rfl, rfl, rfl, id, rowsCv_eq rfl (allFree_map strV_free), rowsZ_map strV_len⟩, trivial⟩ trivial rfl rfl ?_
       exact ⟨(.free rfl), (.free rfl), (.ref rfl), (.ref rfl), (.free rfl), (.free rfl), (.ref rfl), (.free rfl), (.free rfl), (.free rfl), trivial⟩
     ·rintro ⟨j2_0, h⟩
      replace h : i_PutName_j2 x1 x6 v1_0 x11 (i_PutName_l1 p0 p1 x1 x6 rs1) j2_0 = some r0 := h
      unfold i_PutName_j2 at h
      show Tri _ _ _ (inv_i_PutName_2 p0 p1 x1 x6 x8 v1_0 x11 j2_0)
      refine tri_cond rfl (fun c13 => ?_) (fun c13 => ?_)
      ·replace h := cond_t h c13
       refine tri_exit ?_
       refine tri_region ?_
       refine s_inc (a := v1_0) (b := 1) rfl rfl rfl rfl (by have := get_lt hx1; have := hl1; omega) rfl rfl rfl ?_
       refine m1 ?_
       refine rt_nil ?_
       refine Exists.intro ⟨(rs1, (v1_0 + 1)), hn1, h⟩ (And.intro (Nat.lt_succ_self _) ?_)
       refine entX [((13, 0), ⟨5, 1, List.map byteV x1, false, true⟩, some (13, 0)), ((19, 0), ⟨9, 1, List.map strV x6, false, true⟩, some (19, 0)), ((21, 0), ⟨9, 1, List.map strV x8, false, true⟩, some (21, 0))] [] ⟨⟨rfl, _, rfl, rfl, rfl, rfl, id, rowsCv_eq rfl (allFree_map byteV_free), rowsZ_map byteV_len⟩, ⟨rfl, _, rfl, rfl, rfl, rfl, id, rowsCv_eq rfl (allFree_map strV_free), rowsZ_map strV_len⟩, ⟨rfl, _, rfl, rfl, rfl, rfl, id, rowsCv_eq rfl (allFree_map strV_free), rowsZ_map strV_len⟩, trivial⟩ trivial rfl rfl ?_
       exact ⟨(.free rfl), (.free rfl), (.ref rfl), (.ref rfl), (.ref rfl), (.free rfl), (.free rfl), trivial⟩
      ·replace h := cond_f h c13
       refine tri_skip ?_
       refine tri_cutI (ι := { p : (List Int) // i_PutName_j3 x11 p = some r0 }) (fun p => inv_i_PutName_3 x11 p.1) ?_ ?_
       ·skip
        refine tri_sr ?_
        refine m1 ?_
        refine m1 ?_
        refine grd_elim h fun g14 h => ?_
        refine s_sliceZ (a := ((0 : Nat) : Int)) (b := (v1_0 : Int)) rfl rfl rfl sl91 rfl rfl ⟨_, rfl⟩ g14 rfl rfl rfl ?_
        refine s_len (m := ((v1_0 : Int).toNat - ((0 : Nat) : Int).toNat)) rfl sl91 rfl rfl rfl rfl ?_
        refine s_mv (.inl rfl) (v := .sc (.int .i64 0)) rfl rfl rfl rfl ?_
        refine rt_nil ?_
        refine tri_block ?_
        refine tri_loop (ι := { p : Nat × (List Int) × Int // i_PutName_l4 x6 v1_0 x11 p.1 p.2.1 p.2.2 = some r0 }) (fun p => inv_i_PutName_4 x6 v1_0 x11 p.1.2.1 p.1.2.2) (fun p => p.1.1) ⟨(fuel0, x1, 0), h⟩ ?_ ?_
        ·skip
         refine entX [((2005, 0), ⟨5, 1, List.map byteV x1, false, true⟩, some (13, 0)), ((19, 0), ⟨9, 1, List.map strV x6, false, true⟩, some (19, 0))] [] ⟨⟨rfl, _, rfl, rfl, rfl, rfl, id, rowsCv_eq rfl (allFree_map byteV_free), rowsZ_map byteV_len⟩, ⟨rfl, _, rfl, rfl, rfl, rfl, id, rowsCv_eq rfl (allFree_map strV_free), rowsZ_map strV_len⟩, trivial⟩ trivial rfl rfl ?_
         exact ⟨(.ref rfl), (.free rfl), (.ref rfl), (.free rfl), (.free rfl), trivial⟩
        ·rintro ⟨⟨f4, v4_0, v4_1⟩, h⟩
         replace h : i_PutName_l4 x6 v1_0 x11 f4 v4_0 v4_1 = some r0 := h
         cases f4 with
         | zero => cases h
         | succ f4 =>
         rw [i_PutName_l4] at h
         show Tri _ _ _ (inv_i_PutName_4 x6 v1_0 x11 v4_0 v4_1)
         refine tri_sr ?_
         refine s_of (st_lss rfl rfl rfl) rfl rfl rfl rfl ?_
         refine rt_nil ?_
         refine tri_seq ?_
         refine tri_cond rfl (fun c15 => ?_) (fun c15 => ?_)
         ·replace h := cond_t h c15
          refine tri_skip ?_
          refine tri_seq ?_
          refine tri_block ?_
          refine tri_sr ?_
          refine bnd1_elim h fun x16 q17 h => ?_
          have q17a := (idx_some q17).1; have q17b := (idx_some q17).2
          refine s_indexVZ rfl rfl rfl rfl sl91 rfl q17a (get_ltV q17b) rfl rfl rfl ?_
          refine s_load rfl rfl rfl (rowV q17b) ty9 rfl (.inr rfl) (by conv => lhs; whnf) rfl rfl rfl ?_
          refine m2 ?_
          refine rt_nil ?_
          refine tri_region ?_
          refine m1 ?_
          refine m1 ?_
          refine bnd1_elim h fun x18 q19 h => ?_
          refine s_callN (kb := [(2005, 0)]) (ns := []) (v := .ref (47, 0) 0 x18.length) rfl rfl cl79 (wi_PutLabel v4_0 x16 x18 q19) rfl (.cons (lendL rfl (.head _) rfl byteV_free byteV_len) (.cons (.free rfl) .nil)) trivial memNil .nil (fun _ _ => List.not_mem_nil) rfl ⟨(allSc_map byteV_sc), trivial⟩ memNil rfl (by simp only [V.mat, V.mat1, V.mat0, matL, matT, List.length_map] <;> rfl) rfl rfl rfl rfl ?_
          refine m2 ?_
          refine rt_nil ?_
          refine tri_region ?_
          refine grd_elim h fun g20 h => ?_
          refine s_addI rfl rfl rfl rfl g20 rfl rfl rfl ?_
          refine m1 ?_
          refine rt_nil ?_
          refine Exists.intro ⟨(f4, x18, v4_1 + 1), h⟩ (And.intro (Nat.lt_succ_self _) ?_)
          refine entX [((2005, 0), ⟨5, 1, List.map byteV x18, false, true⟩, some (47, 0)), ((19, 0), ⟨9, 1, List.map strV x6, false, true⟩, some (19, 0))] [] ⟨⟨rfl, _, rfl, rfl, rfl, rfl, id, rowsCv_eq rfl (allFree_map byteV_free), rowsZ_map byteV_len⟩, ⟨rfl, _, rfl, rfl, rfl, rfl, id, rowsCv_eq rfl (allFree_map strV_free), rowsZ_map strV_len⟩, trivial⟩ trivial rfl rfl ?_
          exact ⟨(.ref rfl), (.free rfl), (.ref rfl), (.free rfl), (.free rfl), trivial⟩
         ·replace h := cond_f h c15
          refine tri_exit ?_
          refine Exists.intro ⟨v4_0, h⟩ ?_
          refine entX [((2005, 0), ⟨5, 1, List.map byteV v4_0, false, true⟩, some (2005, 0))] [] ⟨⟨rfl, _, rfl, rfl, rfl, rfl, id, rowsCv_eq rfl (allFree_map byteV_free), rowsZ_map byteV_len⟩, trivial⟩ trivial rfl rfl ?_
          exact ⟨(.ref rfl), (.free rfl), trivial⟩
       ·rintro ⟨j3_0, h⟩
        replace h : i_PutName_j3 x11 j3_0 = some r0 := h
        unfold i_PutName_j3 at h
        show Tri _ _ _ (inv_i_PutName_3 x11 j3_0)
        refine tri_sr ?_
        refine m1 ?_
        refine m1 ?_
        refine s_of (st_quo rfl rfl rfl (by decide)) rfl rfl rfl rfl ?_
        refine grd_elim h fun g14 h => ?_
        refine s_addI rfl rfl rfl rfl g14 rfl rfl rfl ?_
        refine s_of (st_conv ik3 ik5 rfl rfl) rfl rfl rfl rfl ?_
        refine m1 ?_
        refine s_of (st_rem rfl rfl rfl (by decide)) rfl rfl rfl rfl ?_
        refine s_of (st_conv ik3 ik5 rfl rfl) rfl rfl rfl rfl ?_
        refine s_buildSlice (rows' := List.map byteV [IntKind.u8.wrap (192 + (IntKind.i64.wrap (Int.tdiv x11 256))), IntKind.u8.wrap (Int.tmod x11 256)]) rfl rfl rfl sl22 zc5 rfl rfl rfl rfl rfl rfl rfl rfl rfl ?_
        refine grd_elim h fun g15 h => ?_
        refine s_appL rfl rfl rfl sl22 zc5 rfl rfl rfl rfl rfl rfl (src_refL rfl rfl) g15 rfl rfl ?_
        refine m2 ?_
        refine rt_nil ?_
        refine tri_ret ?_
        have e0 := (some1 h); subst e0
        exact endY (v' := .ref (2000, 0) 0 ((j3_0 ++ [IntKind.u8.wrap (192 + (IntKind.i64.wrap (Int.tdiv x11 256))), IntKind.u8.wrap (Int.tmod x11 256)]).length)) [((2000, 0), ⟨5, 1, List.map byteV (j3_0 ++ [IntKind.u8.wrap (192 + (IntKind.i64.wrap (Int.tdiv x11 256))), IntKind.u8.wrap (Int.tmod x11 256)]), false, true⟩, some (58, 0))] [] (rvC (resTmp rfl) rvN) ⟨⟨rfl, _, rfl, rfl, rfl, rfl, id, rowsCv_eq rfl (allFree_map byteV_free), rowsZ_map byteV_len⟩, trivial⟩ trivial rfl rfl (by kernel_rfl) (by simp only [V.mat, V.mat1, V.mat0, matL, matT, List.length_map] <;> rfl) (by show Cv _ _ _ _ (.ref (58, 0) 0 ((j3_0 ++ [IntKind.u8.wrap (192 + (IntKind.i64.wrap (Int.tdiv x11 256))), IntKind.u8.wrap (Int.tmod x11 256)]).length)) (.ref (2000, 0) 0 ((j3_0 ++ [IntKind.u8.wrap (192 + (IntKind.i64.wrap (Int.tdiv x11 256))), IntKind.u8.wrap (Int.tmod x11 256)]).length)); exact .ref rfl)
    ·have he := drop_f hd1 c10; subst he
     rw [i_PutName_l1] at h
     refine tri_exit ?_
     refine Exists.intro ⟨(), h⟩ ?_
     refine entX [] [] trivial trivial rfl rfl ?_
     exact ⟨(.free rfl), (.free rfl), trivial⟩
  ·rintro ⟨u, h⟩
   replace h : i_PutName_j0 p0 p1 = some r0 := h
   unfold i_PutName_j0 at h
   show Tri _ _ _ (inv_i_PutName_0 p0 p1)
   refine tri_sr ?_
   refine m1 ?_
   refine m1 ?_
   refine bnd1_elim h fun x8 q9 h => ?_
   refine s_callN (kb := []) (ns := []) (v := .ref (62, 0) 0 x8.length) rfl rfl cl80 (wi_PutPlain p0 p1 x8 q9) rfl (.cons (.free rfl) (.cons (.free rfl) .nil)) trivial memNil .nil memNil rfl ⟨(allSc_map byteV_sc), trivial⟩ memNil rfl (by simp only [V.mat, V.mat1, V.mat0, matL, matT, List.length_map] <;> rfl) rfl rfl rfl rfl ?_
   refine m2 ?_
   refine rt_nil ?_
   refine tri_ret ?_
   have e0 := (some1 h); subst e0
   exact endY (v' := .ref (2000, 0) 0 x8.length) [((2000, 0), ⟨5, 1, List.map byteV x8, false, true⟩, some (62, 0))] [] (rvC (resTmp rfl) rvN) ⟨⟨rfl, _, rfl, rfl, rfl, rfl, id, rowsCv_eq rfl (allFree_map byteV_free), rowsZ_map byteV_len⟩, trivial⟩ trivial rfl rfl (by kernel_rfl) (by simp only [V.mat, V.mat1, V.mat0, matL, matT, List.length_map] <;> rfl) (.ref rfl)

/- impl.Put4 -/

set_option maxRecDepth 4000 in
set_option maxHeartbeats 800000 in
theorem wi_Put4 (p0 : List Int) (p1 : Int) (r0 : List Int) (h : i_Put4 p0 p1 = some r0) : Runs Tryz.prog 118 [.lst 1 (List.map byteV p0), .sc (.int .i64 p1)] [] (.own 5 1 (List.map byteV r0)) [] := by
 unfold i_Put4 at h
 refine runsR [.tmp 4] Tryz.func118 rfl rfl rfl rfl ?_
 rw [Tryz.ntmps118]
 refine tri_sr ?_
 refine s_mv (.inr rfl) (v := .nils) rfl rfl rfl rfl ?_
 refine rt_nil ?_
 refine tri_sr ?_
 refine m1 ?_
 refine m1 ?_
 refine bnd1_elim h fun x1 q2 h => ?_
 refine s_callN (kb := []) (ns := []) (v := .ref (7, 0) 0 x1.length) rfl rfl cl73 (wi_putBytes p0 p1 4 2147483647 x1 q2) rfl (.cons (.free rfl) (.cons (.free rfl) (.cons (.free rfl) (.cons (.free rfl) .nil)))) trivial memNil .nil memNil rfl ⟨(allSc_map byteV_sc), trivial⟩ memNil rfl (by simp only [V.mat, V.mat1, V.mat0, matL, matT, List.length_map] <;> rfl) rfl rfl rfl rfl ?_
 refine m2 ?_
 refine rt_nil ?_
 refine tri_ret ?_
 have e0 := (some1 h); subst e0
 exact endY (v' := .ref (2000, 0) 0 x1.length) [((2000, 0), ⟨5, 1, List.map byteV x1, false, true⟩, some (7, 0))] [] (rvC (resTmp rfl) rvN) ⟨⟨rfl, _, rfl, rfl, rfl, rfl, id, rowsCv_eq rfl (allFree_map byteV_free), rowsZ_map byteV_len⟩, trivial⟩ trivial rfl rfl (by kernel_rfl) (by simp only [V.mat, V.mat1, V.mat0, matL, matT, List.length_map] <;> rfl) (.ref rfl)

/- impl.PutData -/
def inv_i_PutData_0 (p0 : Rec) (j0_0 : Bool) : St := mkT 35 [(1, .ptr (1, 0) 0 0), (7, .sc (.int .i64 p0.ty)), (13, .sc (.bool j0_0))] [((1, 0), some ⟨87, 6, [[.sc (.string p0.name), .sc (.int .i64 p0.ty), .sc (.int .i64 p0.ttl), .sc (.int .i64 p0.n), .sc (.string p0.host), .sc (.string p0.text)]], false, true⟩)]
set_option maxRecDepth 4000 in
set_option maxHeartbeats 800000 in
theorem wi_PutData (p0 : Rec) (r0 : List Int) (h : i_PutData p0 = some r0) : Runs Tryz.prog 117 [.agg (recV p0)] [] (.own 5 1 (List.map byteV r0)) [] := by
 unfold i_PutData at h
 refine runsR [.tmp 2] Tryz.func117 rfl rfl rfl rfl ?_
 rw [Tryz.ntmps117]
 refine tri_sr ?_
 refine s_box rfl rfl rfl rfl rfl rfl rfl ?_
 refine s_mv (.inr rfl) (v := .nils) rfl rfl rfl rfl ?_
 refine rt_nil ?_
 refine tri_seq ?_
 refine tri_sr ?_
 refine s_loadR rfl rfl rfl rfl ty87 rfl rfl rfl ?_
 refine bnd1_elim h fun x1 q2 h => ?_
 refine s_callN (kb := []) (ns := []) (v := .sc (.bool x1)) rfl rfl cl101 (wi_RecordOk p0 x1 q2) rfl (.cons (relAgg rfl) .nil) trivial memNil .nil memNil rfl trivial memNil rfl rfl rfl rfl rfl rfl ?_
 refine s_of (st_not rfl rfl) rfl rfl rfl rfl ?_
 refine rt_nil ?_
 refine tri_cond rfl (fun c3 => ?_) (fun c3 => ?_)
 ·replace h := cond_t h c3
  refine tri_sr ?_
  refine s_mv (.inr rfl) (v := .nils) rfl rfl rfl rfl ?_
  refine rt_nil ?_
  refine tri_ret ?_
  have e0 := (some1 h); subst e0
  exact endY (v' := .ref (2000, 0) 0 (([] : List Int).length)) [((2000, 0), ⟨5, 1, List.map byteV ([] : List Int), false, true⟩, none)] [] (rvC (resTmp rfl) rvN) ⟨rfl, trivial⟩ trivial rfl rfl (by kernel_rfl) (by simp only [V.mat, V.mat1, V.mat0, matL, matT, List.length_map] <;> rfl) (.nilRef rfl)
 ·replace h := cond_f h c3
  refine tri_skip ?_
  refine tri_seq ?_
  refine tri_sr ?_
  refine s_fieldAddr rfl rfl fd87_1 rfl rfl rfl rfl ?_
  refine s_load rfl rfl rfl rfl ty3 rfl (.inr rfl) (by conv => lhs; whnf) rfl rfl rfl ?_
  refine rt_nil ?_
  refine tri_block ?_
  refine tri_sr ?_
  refine s_of (st_eqI rfl rfl rfl) rfl rfl rfl rfl ?_
  refine m2 ?_
  refine rt_nil ?_
  refine tri_cond rfl (fun c4 => ?_) (fun c4 => ?_)
  ·replace h := cond_t h c4
   refine tri_sr ?_
   refine s_fieldAddr rfl rfl fd87_3 rfl rfl rfl rfl ?_
   refine s_load rfl rfl rfl rfl ty3 rfl (.inr rfl) (by conv => lhs; whnf) rfl rfl rfl ?_
   refine bnd1_elim h fun x5 q6 h => ?_
   refine s_callN (kb := []) (ns := []) (v := .ref (12, 0) 0 x5.length) rfl rfl cl118 (wi_Put4 ([] : List Int) p0.n x5 q6) rfl (.cons .nils (.cons (.free rfl) .nil)) trivial memNil .nil memNil rfl ⟨(allSc_map byteV_sc), trivial⟩ memNil rfl (by simp only [V.mat, V.mat1, V.mat0, matL, matT, List.length_map] <;> rfl) rfl rfl rfl rfl ?_
   refine m2 ?_
   refine rt_nil ?_
   refine tri_ret ?_
   have e0 := (some1 h); subst e0
   exact endY (v' := .ref (2000, 0) 0 x5.length) [((2000, 0), ⟨5, 1, List.map byteV x5, false, true⟩, some (12, 0))] [] (rvC (resTmp rfl) rvN) ⟨⟨rfl, _, rfl, rfl, rfl, rfl, id, rowsCv_eq rfl (allFree_map byteV_free), rowsZ_map byteV_len⟩, trivial⟩ trivial rfl rfl (by kernel_rfl) (by simp only [V.mat, V.mat1, V.mat0, matL, matT, List.length_map] <;> rfl) (.ref rfl)
  ·replace h := cond_f h c4
   refine tri_cutI (ι := { p : Bool // i_PutData_j0 p0 p = some r0 }) (fun p => inv_i_PutData_0 p0 p.1) ?_ ?_
   ·skip
    refine tri_sr ?_
    refine s_of (st_eqI rfl rfl rfl) rfl rfl rfl rfl ?_
    refine m2 ?_
    refine rt_nil ?_
    refine tri_cond rfl (fun c7 => ?_) (fun c7 => ?_)
    ·replace h := cond_t h c7
     refine tri_skip ?_
     refine Exists.intro ⟨decide (p0.ty = 2), h⟩ ?_
     refine entX [((1, 0), ⟨87, 6, [[.sc (.string p0.name), .sc (.int .i64 p0.ty), .sc (.int .i64 p0.ttl), .sc (.int .i64 p0.n), .sc (.string p0.host), .sc (.string p0.text)]], false, true⟩, some (1, 0))] [] ⟨⟨rfl, _, rfl, rfl, rfl, rfl, id, rowsCv_one (.cons (.free rfl) (.cons (.free rfl) (.cons (.free rfl) (.cons (.free rfl) (.cons (.free rfl) (.cons (.free rfl) .nil)))))), rowsZ_one rfl⟩, trivial⟩ trivial rfl rfl ?_
     exact ⟨(.ptr rfl), (.free rfl), (.free rfl), trivial⟩
    ·replace h := cond_f h c7
     refine tri_region ?_
     refine s_of (st_eqI rfl rfl rfl) rfl rfl rfl rfl ?_
     refine m2 ?_
     refine rt_nil ?_
     refine Exists.intro ⟨decide (p0.ty = 5), h⟩ ?_
     refine entX [((1, 0), ⟨87, 6, [[.sc (.string p0.name), .sc (.int .i64 p0.ty), .sc (.int .i64 p0.ttl), .sc (.int .i64 p0.n), .sc (.string p0.host), .sc (.string p0.text)]], false, true⟩, some (1, 0))] [] ⟨⟨rfl, _, rfl, rfl, rfl, rfl, id, rowsCv_one (.cons (.free rfl) (.cons (.free rfl) (.cons (.free rfl) (.cons (.free rfl) (.cons (.free rfl) (.cons (.free rfl) .nil)))))), rowsZ_one rfl⟩, trivial⟩ trivial rfl rfl ?_
     exact ⟨(.ptr rfl), (.free rfl), (.free rfl), trivial⟩
   ·rintro ⟨j0_0, h⟩
    replace h : i_PutData_j0 p0 j0_0 = some r0 := h
    unfold i_PutData_j0 at h
    show Tri _ _ _ (inv_i_PutData_0 p0 j0_0)
    refine tri_cond rfl (fun c7 => ?_) (fun c7 => ?_)
    ·replace h := cond_t h c7
     refine tri_sr ?_
     refine s_fieldAddr rfl rfl fd87_4 rfl rfl rfl rfl ?_
     refine s_load rfl rfl rfl rfl ty9 rfl (.inr rfl) (by conv => lhs; whnf) rfl rfl rfl ?_
     refine bnd1_elim h fun x8 q9 h => ?_
     refine s_callN (kb := []) (ns := []) (v := .ref (18, 0) 0 x8.length) rfl rfl cl80 (wi_PutPlain ([] : List Int) p0.host x8 q9) rfl (.cons .nils (.cons (.free rfl) .nil)) trivial memNil .nil memNil rfl ⟨(allSc_map byteV_sc), trivial⟩ memNil rfl (by simp only [V.mat, V.mat1, V.mat0, matL, matT, List.length_map] <;> rfl) rfl rfl rfl rfl ?_
     refine m2 ?_
     refine rt_nil ?_
     refine tri_ret ?_
     have e0 := (some1 h); subst e0
     exact endY (v' := .ref (2000, 0) 0 x8.length) [((2000, 0), ⟨5, 1, List.map byteV x8, false, true⟩, some (18, 0))] [] (rvC (resTmp rfl) rvN) ⟨⟨rfl, _, rfl, rfl, rfl, rfl, id, rowsCv_eq rfl (allFree_map byteV_free), rowsZ_map byteV_len⟩, trivial⟩ trivial rfl rfl (by kernel_rfl) (by simp only [V.mat, V.mat1, V.mat0, matL, matT, List.length_map] <;> rfl) (.ref rfl)
    ·replace h := cond_f h c7
     refine tri_sr ?_
     refine s_of (st_eqI rfl rfl rfl) rfl rfl rfl rfl ?_
     refine m2 ?_
     refine rt_nil ?_
     refine tri_cond rfl (fun c10 => ?_) (fun c10 => ?_)
     ·replace h := cond_t h c10
      refine tri_seq ?_
      refine tri_draw mixed ?_
      refine s_fieldAddr rfl rfl fd87_4 rfl rfl rfl rfl ?_
      refine s_load rfl rfl rfl rfl ty9 rfl (.inr rfl) (by conv => lhs; whnf) rfl rfl rfl ?_
      refine bnd1_elim h fun x11 q12 h => ?_
      refine s_callN (kb := []) (ns := []) (v := .ref (23, 0) 0 x11.length) rfl rfl cl80 (wi_PutPlain ([] : List Int) p0.host x11 q12) rfl (.cons .nils (.cons (.free rfl) .nil)) trivial memNil .nil memNil rfl ⟨(allSc_map byteV_sc), trivial⟩ memNil rfl (by simp only [V.mat, V.mat1, V.mat0, matL, matT, List.length_map] <;> rfl) rfl rfl rfl rfl ?_
      refine s_fieldAddr rfl rfl fd87_3 rfl rfl rfl rfl ?_
      refine s_load rfl rfl rfl rfl ty3 rfl (.inr rfl) (by conv => lhs; whnf) rfl rfl rfl ?_
      refine bnd1_elim h fun x13 q14 h => ?_
      refine s_callN (kb := [(23, 0)]) (ns := []) (v := .ref (26, 0) 0 x13.length) rfl rfl cl118 (wi_Put4 x11 p0.n x13 q14) rfl (.cons (lendL rfl (.head _) rfl byteV_free byteV_len) (.cons (.free rfl) .nil)) trivial memNil .nil (fun _ _ => List.not_mem_nil) rfl ⟨(allSc_map byteV_sc), trivial⟩ memNil rfl (by simp only [V.mat, V.mat1, V.mat0, matL, matT, List.length_map] <;> rfl) rfl rfl rfl rfl ?_
      refine m2 ?_
      refine rt_nil ⟨by kernel_rfl, ?_⟩
      refine tri_ret ?_
      have e0 := (some1 h); subst e0
      exact endY (v' := .ref (2000, 0) 0 x13.length) [((2000, 0), ⟨5, 1, List.map byteV x13, false, true⟩, some (26, 0))] [] (rvC (resTmp rfl) rvN) ⟨⟨rfl, _, rfl, rfl, rfl, rfl, id, rowsCv_eq rfl (allFree_map byteV_free), rowsZ_map byteV_len⟩, trivial⟩ trivial rfl rfl (by kernel_rfl) (by simp only [V.mat, V.mat1, V.mat0, matL, matT, List.length_map] <;> rfl) (.ref rfl)
     ·replace h := cond_f h c10
      refine tri_skip ?_
      refine tri_sr ?_
      refine s_fieldAddr rfl rfl fd87_5 rfl rfl rfl rfl ?_
      refine s_load rfl rfl rfl rfl ty9 rfl (.inr rfl) (by conv => lhs; whnf) rfl rfl rfl ?_
      refine s_of (st_lenS rfl rfl iss9) rfl rfl rfl rfl ?_
      refine s_of (st_conv ik3 ik5 rfl rfl) rfl rfl rfl rfl ?_
      refine s_buildSlice (rows' := List.map byteV [IntKind.u8.wrap (p0.text.size : Int)]) rfl rfl rfl sl22 zc5 rfl rfl rfl rfl rfl rfl rfl rfl rfl ?_
      refine s_fieldAddr rfl rfl fd87_5 rfl rfl rfl rfl ?_
      refine s_load rfl rfl rfl rfl ty9 rfl (.inr rfl) (by conv => lhs; whnf) rfl rfl rfl ?_
      refine grd_elim h fun g15 h => ?_
      refine s_appS rfl rfl rfl sl22 zc5 iss9 rfl rfl rfl rfl rfl rfl g15 rfl rfl ?_
      refine m2 ?_
      refine rt_nil ?_
      refine tri_ret ?_
      have e0 := (some1 h); subst e0
      exact endY (v' := .ref (2000, 0) 0 (([IntKind.u8.wrap (p0.text.size : Int)] ++ (bytesOf p0.text)).length)) [((2000, 0), ⟨5, 1, List.map byteV ([IntKind.u8.wrap (p0.text.size : Int)] ++ (bytesOf p0.text)), false, true⟩, some (34, 0))] [] (rvC (resTmp rfl) rvN) ⟨⟨rfl, _, rfl, rfl, rfl, rfl, id, rowsCv_eq rfl (allFree_map byteV_free), rowsZ_map byteV_len⟩, trivial⟩ trivial rfl rfl (by kernel_rfl) (by simp only [V.mat, V.mat1, V.mat0, matL, matT, List.length_map] <;> rfl) (.ref rfl)

/- impl.PutRecord -/

set_option maxRecDepth 4000 in
set_option maxHeartbeats 800000 in
theorem wi_PutRecord (p0 : List Int) (p1 : Rec) (r0 : List Int) (h : i_PutRecord p0 p1 = some r0) : Runs Tryz.prog 81 [.lst 1 (List.map byteV p0), .agg (recV p1)] [] (.own 5 1 (List.map byteV r0)) [] := by
 unfold i_PutRecord at h
 refine runsR [.tmp 4] Tryz.func81 rfl rfl rfl rfl ?_
 rw [Tryz.ntmps81]
 refine tri_sr ?_
 refine s_box rfl rfl rfl rfl rfl rfl rfl ?_
 refine s_mv (.inr rfl) (v := .nils) rfl rfl rfl rfl ?_
 refine rt_nil ?_
 refine tri_sr ?_
 refine s_buildSlice (rows' := List.map byteV ([] : List Int)) rfl rfl rfl sl22 zc5 rfl rfl rfl rfl rfl rfl rfl rfl rfl ?_
 refine m1 ?_
 refine grd_elim h fun g1 h => ?_
 refine s_appL rfl rfl rfl sl22 zc5 rfl rfl rfl rfl rfl rfl src_lst g1 rfl rfl ?_
 refine m2 ?_
 refine rt_nil ?_
 refine tri_seq ?_
 refine tri_sr ?_
 refine s_loadR rfl rfl rfl rfl ty87 rfl rfl rfl ?_
 refine bnd1_elim h fun x2 q3 h => ?_
 refine s_callN (kb := []) (ns := []) (v := .sc (.bool x2)) rfl rfl cl101 (wi_RecordOk p1 x2 q3) rfl (.cons (relAgg rfl) .nil) trivial memNil .nil memNil rfl trivial memNil rfl rfl rfl rfl rfl rfl ?_
 refine s_of (st_not rfl rfl) rfl rfl rfl rfl ?_
 refine rt_nil ?_
 refine tri_cond rfl (fun c4 => ?_) (fun c4 => ?_)
 ·replace h := cond_t h c4
  refine tri_sr ?_
  refine m1 ?_
  refine m2 ?_
  refine rt_nil ?_
  refine tri_ret ?_
  have e0 := (some1 h); subst e0
  exact endY (v' := .ref (2000, 0) 0 ((([] : List Int) ++ p0).length)) [((2000, 0), ⟨5, 1, List.map byteV (([] : List Int) ++ p0), false, true⟩, some (9, 0))] [] (rvC (resTmp rfl) rvN) ⟨⟨rfl, _, rfl, rfl, rfl, rfl, id, rowsCv_eq rfl (allFree_map byteV_free), rowsZ_map byteV_len⟩, trivial⟩ trivial rfl rfl (by kernel_rfl) (by simp only [V.mat, V.mat1, V.mat0, matL, matT, List.length_map] <;> rfl) (.ref rfl)
 ·replace h := cond_f h c4
  refine tri_skip ?_
  refine tri_sr ?_
  refine s_loadR rfl rfl rfl rfl ty87 rfl rfl rfl ?_
  refine bnd1_elim h fun x5 q6 h => ?_
  refine s_callN (kb := []) (ns := []) (v := .ref (15, 0) 0 x5.length) rfl rfl cl117 (wi_PutData p1 x5 q6) rfl (.cons (relAgg rfl) .nil) trivial memNil .nil memNil rfl ⟨(allSc_map byteV_sc), trivial⟩ memNil rfl (by simp only [V.mat, V.mat1, V.mat0, matL, matT, List.length_map] <;> rfl) rfl rfl rfl rfl ?_
  refine m2 ?_
  refine rt_nil ?_
  refine tri_sr ?_
  refine m1 ?_
  refine s_fieldAddr rfl rfl fd87_0 rfl rfl rfl rfl ?_
  refine s_load rfl rfl rfl rfl ty9 rfl (.inr rfl) (by conv => lhs; whnf) rfl rfl rfl ?_
  refine bnd1_elim h fun x7 q8 h => ?_
  refine s_callN (kb := [(9, 0)]) (ns := []) (v := .ref (19, 0) 0 x7.length) rfl rfl cl40 (wi_PutName (([] : List Int) ++ p0) p1.name x7 q8) rfl (.cons (lendL rfl (.head _) rfl byteV_free byteV_len) (.cons (.free rfl) .nil)) trivial memNil .nil (fun _ _ => List.not_mem_nil) rfl ⟨(allSc_map byteV_sc), trivial⟩ memNil rfl (by simp only [V.mat, V.mat1, V.mat0, matL, matT, List.length_map] <;> rfl) rfl rfl rfl rfl ?_
  refine m2 ?_
  refine rt_nil ?_
  refine tri_seq ?_
  refine tri_draw mixed ?_
  refine m1 ?_
  refine s_fieldAddr rfl rfl fd87_1 rfl rfl rfl rfl ?_
  refine s_load rfl rfl rfl rfl ty3 rfl (.inr rfl) (by conv => lhs; whnf) rfl rfl rfl ?_
  refine bnd1_elim h fun x9 q10 h => ?_
  refine s_callN (kb := [(19, 0)]) (ns := []) (v := .ref (23, 0) 0 x9.length) rfl rfl cl39 (wi_Put2 x7 p1.ty x9 q10) rfl (.cons (lendL rfl (.head _) rfl byteV_free byteV_len) (.cons (.free rfl) .nil)) trivial memNil .nil (fun _ _ => List.not_mem_nil) rfl ⟨(allSc_map byteV_sc), trivial⟩ memNil rfl (by simp only [V.mat, V.mat1, V.mat0, matL, matT, List.length_map] <;> rfl) rfl rfl rfl rfl ?_
  refine bnd1_elim h fun x11 q12 h => ?_
  refine s_callN (kb := [(23, 0)]) (ns := []) (v := .ref (24, 0) 0 x11.length) rfl rfl cl39 (wi_Put2 x9 1 x11 q12) rfl (.cons (lendL rfl (.head _) rfl byteV_free byteV_len) (.cons (.free rfl) .nil)) trivial memNil .nil (fun _ _ => List.not_mem_nil) rfl ⟨(allSc_map byteV_sc), trivial⟩ memNil rfl (by simp only [V.mat, V.mat1, V.mat0, matL, matT, List.length_map] <;> rfl) rfl rfl rfl rfl ?_
  refine s_fieldAddr rfl rfl fd87_2 rfl rfl rfl rfl ?_
  refine s_load rfl rfl rfl rfl ty3 rfl (.inr rfl) (by conv => lhs; whnf) rfl rfl rfl ?_
  refine bnd1_elim h fun x13 q14 h => ?_
  refine s_callN (kb := [(24, 0)]) (ns := []) (v := .ref (27, 0) 0 x13.length) rfl rfl cl118 (wi_Put4 x11 p1.ttl x13 q14) rfl (.cons (lendL rfl (.head _) rfl byteV_free byteV_len) (.cons (.free rfl) .nil)) trivial memNil .nil (fun _ _ => List.not_mem_nil) rfl ⟨(allSc_map byteV_sc), trivial⟩ memNil rfl (by simp only [V.mat, V.mat1, V.mat0, matL, matT, List.length_map] <;> rfl) rfl rfl rfl rfl ?_
  refine m2 ?_
  refine rt_nil ⟨by kernel_rfl, ?_⟩
  refine tri_sr ?_
  refine m1 ?_
  refine m1 ?_
  refine s_len (m := x5.length) rfl sl22 rfl rfl rfl rfl ?_
  refine bnd1_elim h fun x15 q16 h => ?_
  refine s_callN (kb := [(27, 0)]) (ns := []) (v := .ref (31, 0) 0 x15.length) rfl rfl cl39 (wi_Put2 x13 (x5.length : Int) x15 q16) rfl (.cons (lendL rfl (.head _) rfl byteV_free byteV_len) (.cons (.free rfl) .nil)) trivial memNil .nil (fun _ _ => List.not_mem_nil) rfl ⟨(allSc_map byteV_sc), trivial⟩ memNil rfl (by simp only [V.mat, V.mat1, V.mat0, matL, matT, List.length_map] <;> rfl) rfl rfl rfl rfl ?_
  refine m1 ?_
  refine grd_elim h fun g17 h => ?_
  refine s_appL rfl rfl rfl sl22 zc5 rfl rfl rfl rfl rfl rfl (src_refL rfl rfl) g17 rfl rfl ?_
  refine m2 ?_
  refine rt_nil ?_
  refine tri_ret ?_
  have e0 := (some1 h); subst e0
  exact endY (v' := .ref (2000, 0) 0 ((x15 ++ x5).length)) [((2000, 0), ⟨5, 1, List.map byteV (x15 ++ x5), false, true⟩, some (33, 0))] [] (rvC (resTmp rfl) rvN) ⟨⟨rfl, _, rfl, rfl, rfl, rfl, id, rowsCv_eq rfl (allFree_map byteV_free), rowsZ_map byteV_len⟩, trivial⟩ trivial rfl rfl (by kernel_rfl) (by simp only [V.mat, V.mat1, V.mat0, matL, matT, List.length_map] <;> rfl) (.ref rfl)

/- impl.PutRecords -/
def inv_i_PutRecords_0 (p1 : List Rec) (v0_0 : List Int) (v0_1 : Nat) : St := mkT 22 [(5, .ref (2005, 0) 0 v0_0.length), (11, .lst 6 (List.map recV p1)), (12, .sc (.int .i64 (p1.length : Int))), (13, .sc (.int .i64 (v0_1 : Int)))] [((2005, 0), some ⟨5, 1, List.map byteV v0_0, false, true⟩)]
set_option maxRecDepth 4000 in
set_option maxHeartbeats 800000 in
theorem wi_PutRecords (p0 : List Int) (p1 : List Rec) (r0 : List Int) (h : i_PutRecords p0 p1 = some r0) : Runs Tryz.prog 41 [.lst 1 (List.map byteV p0), .lst 6 (List.map recV p1)] [] (.own 5 1 (List.map byteV r0)) [] := by
 unfold i_PutRecords at h
 refine runsR [.tmp 4] Tryz.func41 rfl rfl rfl rfl ?_
 rw [Tryz.ntmps41]
 refine tri_sr ?_
 refine s_mv (.inr rfl) (v := .nils) rfl rfl rfl rfl ?_
 refine rt_nil ?_
 refine tri_sr ?_
 refine s_buildSlice (rows' := List.map byteV ([] : List Int)) rfl rfl rfl sl22 zc5 rfl rfl rfl rfl rfl rfl rfl rfl rfl ?_
 refine m1 ?_
 refine grd_elim h fun g1 h => ?_
 refine s_appL rfl rfl rfl sl22 zc5 rfl rfl rfl rfl rfl rfl src_lst g1 rfl rfl ?_
 refine m2 ?_
 refine rt_nil ?_
 refine tri_seq ?_
 refine tri_sr ?_
 refine m1 ?_
 refine s_lenL rfl sl26 rfl rfl rfl rfl ?_
 refine s_mv (.inl rfl) (v := .sc (.int .i64 0)) rfl rfl rfl rfl ?_
 refine rt_nil ?_
 refine tri_block ?_
 refine tri_lstM 1 rfl (fun hl0 => ?_)
 refine tri_loop (ι := { p : (List Rec) × (List Int) × Nat // p1.drop p.2.2 = p.1 ∧ i_PutRecords_l0 p.1 p.2.1 p.2.2 = some r0 }) (fun p => inv_i_PutRecords_0 p1 p.1.2.1 p.1.2.2) (fun p => p.1.1.length) ⟨(p1, ([] : List Int) ++ p0, 0), rfl, h⟩ ?_ ?_
 ·skip
  refine entX [((2005, 0), ⟨5, 1, List.map byteV (([] : List Int) ++ p0), false, true⟩, some (10, 0))] [] ⟨⟨rfl, _, rfl, rfl, rfl, rfl, id, rowsCv_eq rfl (allFree_map byteV_free), rowsZ_map byteV_len⟩, trivial⟩ trivial rfl rfl ?_
  exact ⟨(.ref rfl), (.free rfl), (.free rfl), (.free rfl), trivial⟩
 ·rintro ⟨⟨lrs0, v0_0, v0_1⟩, hd0, h⟩
  replace hd0 : p1.drop v0_1 = lrs0 := hd0
  replace h : i_PutRecords_l0 lrs0 v0_0 v0_1 = some r0 := h
  show Tri _ _ _ (inv_i_PutRecords_0 p1 v0_0 v0_1)
  refine tri_sr ?_
  refine s_of (st_lss rfl rfl rfl) rfl rfl rfl rfl ?_
  refine rt_nil ?_
  refine tri_seq ?_
  refine tri_cond rfl (fun c2 => ?_) (fun c2 => ?_)
  ·refine drop_elim hd0 c2 fun e0 rs0 he hx0 hn0 => ?_
   subst he
   rw [i_PutRecords_l0] at h
   refine tri_skip ?_
   refine tri_seq ?_
   refine tri_block ?_
   refine tri_sr ?_
   refine s_indexF (i := v0_1) rfl rfl rfl sl26 (get_ltM hx0) rfl rfl rfl ?_
   refine s_loadFR rfl rfl (rowG hx0) ty87 rfl rfl rfl ?_
   refine s_alloc rfl rfl rfl zc87 rfl rfl rfl rfl rfl ?_
   refine s_storeB rfl rfl rfl ty87 rfl rfl rfl rfl rfl ?_
   refine rt_nil ?_
   refine tri_region ?_
   refine m1 ?_
   refine s_loadR rfl rfl rfl rfl ty87 rfl rfl rfl ?_
   refine bnd1_elim h fun x3 q4 h => ?_
   refine s_callN (kb := [(2005, 0)]) (ns := []) (v := .ref (19, 0) 0 x3.length) rfl rfl cl81 (wi_PutRecord v0_0 e0 x3 q4) rfl (.cons (lendL rfl (.head _) rfl byteV_free byteV_len) (.cons (relAgg rfl) .nil)) trivial memNil .nil (fun _ _ => List.not_mem_nil) rfl ⟨(allSc_map byteV_sc), trivial⟩ memNil rfl (by simp only [V.mat, V.mat1, V.mat0, matL, matT, List.length_map] <;> rfl) rfl rfl rfl rfl ?_
   refine m2 ?_
   refine rt_nil ?_
   refine tri_region ?_
   refine s_inc (a := v0_1) (b := 1) rfl rfl rfl rfl (by have := get_lt hx0; have := hl0; omega) rfl rfl rfl ?_
   refine m1 ?_
   refine rt_nil ?_
   refine Exists.intro ⟨(rs0, x3, (v0_1 + 1)), hn0, h⟩ (And.intro (Nat.lt_succ_self _) ?_)
   refine entX [((2005, 0), ⟨5, 1, List.map byteV x3, false, true⟩, some (19, 0))] [] ⟨⟨rfl, _, rfl, rfl, rfl, rfl, id, rowsCv_eq rfl (allFree_map byteV_free), rowsZ_map byteV_len⟩, trivial⟩ trivial rfl rfl ?_
   exact ⟨(.ref rfl), (.free rfl), (.free rfl), (.free rfl), trivial⟩
  ·have he := drop_f hd0 c2; subst he
   rw [i_PutRecords_l0] at h
   refine tri_exit ?_
   refine tri_sr ?_
   refine m1 ?_
   refine m2 ?_
   refine rt_nil ?_
   refine tri_ret ?_
   have e0 := (some1 h); subst e0
   exact endY (v' := .ref (2000, 0) 0 v0_0.length) [((2000, 0), ⟨5, 1, List.map byteV v0_0, false, true⟩, some (2005, 0))] [] (rvC (resTmp rfl) rvN) ⟨⟨rfl, _, rfl, rfl, rfl, rfl, id, rowsCv_eq rfl (allFree_map byteV_free), rowsZ_map byteV_len⟩, trivial⟩ trivial rfl rfl (by kernel_rfl) (by simp only [V.mat, V.mat1, V.mat0, matL, matT, List.length_map] <;> rfl) (.ref rfl)

/- impl.PutMsg -/
def inv_i_PutMsg_1 (p0 : MMsg) (v1_0 : List Int) (v1_1 : Int) : St := mkT 40 [(3, .ref (2003, 0) 0 v1_0.length), (26, .ref (26, 0) 0 ([p0.an, p0.au, p0.ad].length)), (27, .sc (.int .i64 (3 : Int))), (28, .sc (.int .i64 v1_1))] [((2003, 0), some ⟨5, 1, List.map byteV v1_0, false, true⟩), ((26, 0), some ⟨26, 1, List.map recLV [p0.an, p0.au, p0.ad], false, true⟩)]
def inv_i_PutMsg_0  (j0_0 : List Int) : St := mkT 40 [(3, .ref (2003, 0) 0 j0_0.length)] [((2003, 0), some ⟨5, 1, List.map byteV j0_0, false, true⟩)]
set_option maxRecDepth 4000 in
set_option maxHeartbeats 800000 in
theorem wi_PutMsg (p0 : MMsg) (r0 : List Int) (h : i_PutMsg p0 = some r0) : Runs Tryz.prog 10 [.agg (mMsgV p0)] [] (.own 5 1 (List.map byteV r0)) [] := by
 unfold i_PutMsg at h
 refine runsR [.tmp 2] Tryz.func10 rfl rfl rfl rfl ?_
 rw [Tryz.ntmps10]
 refine tri_sr ?_
 refine s_box rfl rfl rfl rfl rfl rfl rfl ?_
 refine s_mv (.inr rfl) (v := .nils) rfl rfl rfl rfl ?_
 refine rt_nil ?_
 refine tri_seq ?_
 refine tri_sr ?_
 refine s_loadR rfl rfl rfl rfl ty28 rfl rfl rfl ?_
 refine bnd1_elim h fun x1 q2 h => ?_
 refine s_callN (kb := []) (ns := []) (v := .sc (.bool x1)) rfl rfl cl27 (wi_MsgOk p0 x1 q2) rfl (.cons (relAgg rfl) .nil) trivial memNil .nil memNil rfl trivial memNil rfl rfl rfl rfl rfl rfl ?_
 refine s_of (st_not rfl rfl) rfl rfl rfl rfl ?_
 refine rt_nil ?_
 refine tri_cond rfl (fun c3 => ?_) (fun c3 => ?_)
 ·replace h := cond_t h c3
  refine tri_sr ?_
  refine s_mv (.inr rfl) (v := .nils) rfl rfl rfl rfl ?_
  refine rt_nil ?_
  refine tri_ret ?_
  have e0 := (some1 h); subst e0
  exact endY (v' := .ref (2000, 0) 0 (([] : List Int).length)) [((2000, 0), ⟨5, 1, List.map byteV ([] : List Int), false, true⟩, none)] [] (rvC (resTmp rfl) rvN) ⟨rfl, trivial⟩ trivial rfl rfl (by kernel_rfl) (by simp only [V.mat, V.mat1, V.mat0, matL, matT, List.length_map] <;> rfl) (.nilRef rfl)
 ·replace h := cond_f h c3
  refine tri_skip ?_
  refine tri_seq ?_
  refine tri_draw mixed ?_
  refine s_loadR rfl rfl rfl rfl ty28 rfl rfl rfl ?_
  refine bnd1_elim h fun x4 q5 h => ?_
  refine s_callN (kb := []) (ns := []) (v := .ref (10, 0) 0 x4.length) rfl rfl cl15 (wi_PutHead p0 x4 q5) rfl (.cons (relAgg rfl) .nil) trivial memNil .nil memNil rfl ⟨(allSc_map byteV_sc), trivial⟩ memNil rfl (by simp only [V.mat, V.mat1, V.mat0, matL, matT, List.length_map] <;> rfl) rfl rfl rfl rfl ?_
  refine s_fieldAddr rfl rfl fd28_7 rfl rfl rfl rfl ?_
  refine s_fieldAddr rfl rfl fd25_0 rfl rfl rfl rfl ?_
  refine s_load rfl rfl rfl rfl ty9 rfl (.inr rfl) (by conv => lhs; whnf) rfl rfl rfl ?_
  refine bnd1_elim h fun x6 q7 h => ?_
  refine s_callN (kb := [(10, 0)]) (ns := []) (v := .ref (14, 0) 0 x6.length) rfl rfl cl40 (wi_PutName x4 p0.q.name x6 q7) rfl (.cons (lendL rfl (.head _) rfl byteV_free byteV_len) (.cons (.free rfl) .nil)) trivial memNil .nil (fun _ _ => List.not_mem_nil) rfl ⟨(allSc_map byteV_sc), trivial⟩ memNil rfl (by simp only [V.mat, V.mat1, V.mat0, matL, matT, List.length_map] <;> rfl) rfl rfl rfl rfl ?_
  refine s_fieldAddr rfl rfl fd28_7 rfl rfl rfl rfl ?_
  refine s_fieldAddr rfl rfl fd25_1 rfl rfl rfl rfl ?_
  refine s_load rfl rfl rfl rfl ty3 rfl (.inr rfl) (by conv => lhs; whnf) rfl rfl rfl ?_
  refine bnd1_elim h fun x8 q9 h => ?_
  refine s_callN (kb := [(14, 0)]) (ns := []) (v := .ref (18, 0) 0 x8.length) rfl rfl cl39 (wi_Put2 x6 p0.q.ty x8 q9) rfl (.cons (lendL rfl (.head _) rfl byteV_free byteV_len) (.cons (.free rfl) .nil)) trivial memNil .nil (fun _ _ => List.not_mem_nil) rfl ⟨(allSc_map byteV_sc), trivial⟩ memNil rfl (by simp only [V.mat, V.mat1, V.mat0, matL, matT, List.length_map] <;> rfl) rfl rfl rfl rfl ?_
  refine bnd1_elim h fun x10 q11 h => ?_
  refine s_callN (kb := [(18, 0)]) (ns := []) (v := .ref (19, 0) 0 x10.length) rfl rfl cl39 (wi_Put2 x8 1 x10 q11) rfl (.cons (lendL rfl (.head _) rfl byteV_free byteV_len) (.cons (.free rfl) .nil)) trivial memNil .nil (fun _ _ => List.not_mem_nil) rfl ⟨(allSc_map byteV_sc), trivial⟩ memNil rfl (by simp only [V.mat, V.mat1, V.mat0, matL, matT, List.length_map] <;> rfl) rfl rfl rfl rfl ?_
  refine m2 ?_
  refine rt_nil ⟨by kernel_rfl, ?_⟩
  refine tri_cutI (ι := { p : (List Int) // i_PutMsg_j0 p = some r0 }) (fun p => inv_i_PutMsg_0 p.1) ?_ ?_
  ·skip
   refine tri_sr ?_
   refine s_fieldAddr rfl rfl fd28_8 rfl rfl rfl rfl ?_
   refine s_load rfl rfl rfl rfl ty26 rfl (.inr rfl) (by conv => lhs; whnf) rfl rfl rfl ?_
   refine s_fieldAddr rfl rfl fd28_9 rfl rfl rfl rfl ?_
   refine s_load rfl rfl rfl rfl ty26 rfl (.inr rfl) (by conv => lhs; whnf) rfl rfl rfl ?_
   refine s_fieldAddr rfl rfl fd28_10 rfl rfl rfl rfl ?_
   refine s_load rfl rfl rfl rfl ty26 rfl (.inr rfl) (by conv => lhs; whnf) rfl rfl rfl ?_
   refine s_buildSlice (rows' := List.map recLV [p0.an, p0.au, p0.ad]) rfl rfl rfl sl58 zc26 rfl rfl rfl rfl rfl rfl rfl rfl rfl ?_
   refine s_len (m := 3) rfl sl58 rfl rfl rfl rfl ?_
   refine s_mv (.inl rfl) (v := .sc (.int .i64 0)) rfl rfl rfl rfl ?_
   refine rt_nil ?_
   refine tri_block ?_
   refine tri_loop (ι := { p : Nat × (List Int) × Int // i_PutMsg_l1 p0 p.1 p.2.1 p.2.2 = some r0 }) (fun p => inv_i_PutMsg_1 p0 p.1.2.1 p.1.2.2) (fun p => p.1.1) ⟨(fuel0, x10, 0), h⟩ ?_ ?_
   ·skip
    refine entX [((2003, 0), ⟨5, 1, List.map byteV x10, false, true⟩, some (19, 0)), ((26, 0), ⟨26, 1, List.map recLV [p0.an, p0.au, p0.ad], false, true⟩, some (26, 0))] [] ⟨⟨rfl, _, rfl, rfl, rfl, rfl, id, rowsCv_eq rfl (allFree_map byteV_free), rowsZ_map byteV_len⟩, ⟨rfl, _, rfl, rfl, rfl, rfl, id, rowsCv_eq rfl (allFree_map recLV_free), rowsZ_map recLV_len⟩, trivial⟩ trivial rfl rfl ?_
    exact ⟨(.ref rfl), (.ref rfl), (.free rfl), (.free rfl), trivial⟩
   ·rintro ⟨⟨f1, v1_0, v1_1⟩, h⟩
    replace h : i_PutMsg_l1 p0 f1 v1_0 v1_1 = some r0 := h
    cases f1 with
    | zero => cases h
    | succ f1 =>
    rw [i_PutMsg_l1] at h
    show Tri _ _ _ (inv_i_PutMsg_1 p0 v1_0 v1_1)
    refine tri_sr ?_
    refine s_of (st_lss rfl rfl rfl) rfl rfl rfl rfl ?_
    refine rt_nil ?_
    refine tri_seq ?_
    refine tri_cond rfl (fun c12 => ?_) (fun c12 => ?_)
    ·replace h := cond_t h c12
     refine tri_skip ?_
     refine tri_seq ?_
     refine tri_block ?_
     refine tri_sr ?_
     refine bnd1_elim h fun x13 q14 h => ?_
     have q14a := (idx_some q14).1; have q14b := (idx_some q14).2
     refine s_indexZ rfl rfl rfl rfl sl58 rfl q14a (get_lt q14b) rfl rfl rfl ?_
     refine s_load rfl rfl rfl (rowG q14b) ty26 rfl (.inr rfl) (by conv => lhs; whnf) rfl rfl rfl ?_
     refine m2 ?_
     refine rt_nil ?_
     refine tri_region ?_
     refine m1 ?_
     refine m1 ?_
     refine bnd1_elim h fun x15 q16 h => ?_
     refine s_callN (kb := [(2003, 0)]) (ns := []) (v := .ref (34, 0) 0 x15.length) rfl rfl cl41 (wi_PutRecords v1_0 x13 x15 q16) rfl (.cons (lendL rfl (.head _) rfl byteV_free byteV_len) (.cons (.free rfl) .nil)) trivial memNil .nil (fun _ _ => List.not_mem_nil) rfl ⟨(allSc_map byteV_sc), trivial⟩ memNil rfl (by simp only [V.mat, V.mat1, V.mat0, matL, matT, List.length_map] <;> rfl) rfl rfl rfl rfl ?_
     refine m2 ?_
     refine rt_nil ?_
     refine tri_region ?_
     refine grd_elim h fun g17 h => ?_
     refine s_addI rfl rfl rfl rfl g17 rfl rfl rfl ?_
     refine m1 ?_
     refine rt_nil ?_
     refine Exists.intro ⟨(f1, x15, v1_1 + 1), h⟩ (And.intro (Nat.lt_succ_self _) ?_)
     refine entX [((2003, 0), ⟨5, 1, List.map byteV x15, false, true⟩, some (34, 0)), ((26, 0), ⟨26, 1, List.map recLV [p0.an, p0.au, p0.ad], false, true⟩, some (26, 0))] [] ⟨⟨rfl, _, rfl, rfl, rfl, rfl, id, rowsCv_eq rfl (allFree_map byteV_free), rowsZ_map byteV_len⟩, ⟨rfl, _, rfl, rfl, rfl, rfl, id, rowsCv_eq rfl (allFree_map recLV_free), rowsZ_map recLV_len⟩, trivial⟩ trivial rfl rfl ?_
     exact ⟨(.ref rfl), (.ref rfl), (.free rfl), (.free rfl), trivial⟩
    ·replace h := cond_f h c12
     refine tri_exit ?_
     refine Exists.intro ⟨v1_0, h⟩ ?_
     refine entX [((2003, 0), ⟨5, 1, List.map byteV v1_0, false, true⟩, some (2003, 0))] [] ⟨⟨rfl, _, rfl, rfl, rfl, rfl, id, rowsCv_eq rfl (allFree_map byteV_free), rowsZ_map byteV_len⟩, trivial⟩ trivial rfl rfl ?_
     exact ⟨(.ref rfl), trivial⟩
  ·rintro ⟨j0_0, h⟩
   replace h : i_PutMsg_j0 j0_0 = some r0 := h
   unfold i_PutMsg_j0 at h
   show Tri _ _ _ (inv_i_PutMsg_0 j0_0)
   refine tri_seq ?_
   refine tri_sr ?_
   refine m1 ?_
   refine s_len (m := j0_0.length) rfl sl22 rfl rfl rfl rfl ?_
   refine s_of (st_gtr rfl rfl rfl) rfl rfl rfl rfl ?_
   refine rt_nil ?_
   refine tri_cond rfl (fun c12 => ?_) (fun c12 => ?_)
   ·replace h := cond_t h c12
    refine tri_sr ?_
    refine s_mv (.inr rfl) (v := .nils) rfl rfl rfl rfl ?_
    refine rt_nil ?_
    refine tri_ret ?_
    have e0 := (some1 h); subst e0
    exact endY (v' := .ref (2000, 0) 0 (([] : List Int).length)) [((2000, 0), ⟨5, 1, List.map byteV ([] : List Int), false, true⟩, none)] [] (rvC (resTmp rfl) rvN) ⟨rfl, trivial⟩ trivial rfl rfl (by kernel_rfl) (by simp only [V.mat, V.mat1, V.mat0, matL, matT, List.length_map] <;> rfl) (.nilRef rfl)
   ·replace h := cond_f h c12
    refine tri_skip ?_
    refine tri_sr ?_
    refine m1 ?_
    refine m2 ?_
    refine rt_nil ?_
    refine tri_ret ?_
    have e0 := (some1 h); subst e0
    exact endY (v' := .ref (2000, 0) 0 j0_0.length) [((2000, 0), ⟨5, 1, List.map byteV j0_0, false, true⟩, some (2003, 0))] [] (rvC (resTmp rfl) rvN) ⟨⟨rfl, _, rfl, rfl, rfl, rfl, id, rowsCv_eq rfl (allFree_map byteV_free), rowsZ_map byteV_len⟩, trivial⟩ trivial rfl rfl (by kernel_rfl) (by simp only [V.mat, V.mat1, V.mat0, matL, matT, List.length_map] <;> rfl) (.ref rfl)

/- impl.SizeOf -/

set_option maxRecDepth 4000 in
set_option maxHeartbeats 800000 in
theorem wi_SizeOf (p0 : MMsg) (r0 : Int) (h : i_SizeOf p0 = some r0) : Runs Tryz.prog 13 [.agg (mMsgV p0)] [] (.sc (.int .i64 r0)) [] := by
 unfold i_SizeOf at h
 refine runsR [.tmp 2] Tryz.func13 rfl rfl rfl rfl ?_
 rw [Tryz.ntmps13]
 refine tri_sr ?_
 refine s_box rfl rfl rfl rfl rfl rfl rfl ?_
 refine s_mv (.inr rfl) (v := .sc (.int .i64 0)) rfl rfl rfl rfl ?_
 refine rt_nil ?_
 refine tri_sr ?_
 refine s_loadR rfl rfl rfl rfl ty28 rfl rfl rfl ?_
 refine bnd1_elim h fun x1 q2 h => ?_
 refine s_callN (kb := []) (ns := []) (v := .ref (4, 0) 0 x1.length) rfl rfl cl10 (wi_PutMsg p0 x1 q2) rfl (.cons (relAgg rfl) .nil) trivial memNil .nil memNil rfl ⟨(allSc_map byteV_sc), trivial⟩ memNil rfl (by simp only [V.mat, V.mat1, V.mat0, matL, matT, List.length_map] <;> rfl) rfl rfl rfl rfl ?_
 refine s_len (m := x1.length) rfl sl22 rfl rfl rfl rfl ?_
 refine m2 ?_
 refine rt_nil ?_
 refine tri_ret ?_
 have e0 := (some1 h); subst e0
 exact endY [] [] (rvC (resTmp rfl) rvN) trivial trivial rfl rfl rfl rfl (.free rfl)

/- impl.Fits -/

set_option maxRecDepth 4000 in
set_option maxHeartbeats 800000 in
theorem wi_Fits (p0 : MMsg) (r0 : Bool) (h : i_Fits p0 = some r0) : Runs Tryz.prog 14 [.agg (mMsgV p0)] [] (.sc (.bool r0)) [] := by
 unfold i_Fits at h
 refine runsR [.tmp 2] Tryz.func14 rfl rfl rfl rfl ?_
 rw [Tryz.ntmps14]
 refine tri_sr ?_
 refine s_box rfl rfl rfl rfl rfl rfl rfl ?_
 refine s_mv (.inr rfl) (v := .sc (.bool false)) rfl rfl rfl rfl ?_
 refine rt_nil ?_
 refine tri_sr ?_
 refine s_loadR rfl rfl rfl rfl ty28 rfl rfl rfl ?_
 refine bnd1_elim h fun x1 q2 h => ?_
 refine s_callN (kb := []) (ns := []) (v := .sc (.int .i64 x1)) rfl rfl cl13 (wi_SizeOf p0 x1 q2) rfl (.cons (relAgg rfl) .nil) trivial memNil .nil memNil rfl trivial memNil rfl rfl rfl rfl rfl rfl ?_
 refine s_of (st_gtr rfl rfl rfl) rfl rfl rfl rfl ?_
 refine m2 ?_
 refine rt_nil ?_
 refine tri_ret ?_
 have e0 := (some1 h); subst e0
 exact endY [] [] (rvC (resTmp rfl) rvN) trivial trivial rfl rfl rfl rfl (.free rfl)

/- laws.eqQuest -/

set_option maxRecDepth 4000 in
set_option maxHeartbeats 800000 in
theorem ww_eqQuest (p0 : Quest) (p1 : Quest) (r0 : Bool) (h : w_eqQuest p0 p1 = some r0) : Runs Tryz.prog 66 [.agg (questV p0), .agg (questV p1)] [] (.sc (.bool r0)) [] := by
 unfold w_eqQuest at h
 refine runsR [.tmp 4] Tryz.func66 rfl rfl rfl rfl ?_
 rw [Tryz.ntmps66]
 refine tri_sr ?_
 refine s_box rfl rfl rfl rfl rfl rfl rfl ?_
 refine s_box rfl rfl rfl rfl rfl rfl rfl ?_
 refine s_mv (.inr rfl) (v := .sc (.bool false)) rfl rfl rfl rfl ?_
 refine rt_nil ?_
 refine tri_seq ?_
 refine tri_sr ?_
 refine s_fieldAddr rfl rfl fd25_0 rfl rfl rfl rfl ?_
 refine s_load rfl rfl rfl rfl ty9 rfl (.inr rfl) (by conv => lhs; whnf) rfl rfl rfl ?_
 refine s_fieldAddr rfl rfl fd25_0 rfl rfl rfl rfl ?_
 refine s_load rfl rfl rfl rfl ty9 rfl (.inr rfl) (by conv => lhs; whnf) rfl rfl rfl ?_
 refine s_of (st_neS rfl rfl rfl) rfl rfl rfl rfl ?_
 refine rt_nil ?_
 refine tri_cond rfl (fun c1 => ?_) (fun c1 => ?_)
 ·replace h := cond_t h c1
  refine tri_sr ?_
  refine s_mv (.inr rfl) (v := .sc (.bool false)) rfl rfl rfl rfl ?_
  refine rt_nil ?_
  refine tri_ret ?_
  have e0 := (some1 h); subst e0
  exact endY [] [] (rvC (resTmp rfl) rvN) trivial trivial rfl rfl rfl rfl (.free rfl)
 ·replace h := cond_f h c1
  refine tri_skip ?_
  refine tri_seq ?_
  refine tri_sr ?_
  refine s_fieldAddr rfl rfl fd25_1 rfl rfl rfl rfl ?_
  refine s_load rfl rfl rfl rfl ty3 rfl (.inr rfl) (by conv => lhs; whnf) rfl rfl rfl ?_
  refine s_fieldAddr rfl rfl fd25_1 rfl rfl rfl rfl ?_
  refine s_load rfl rfl rfl rfl ty3 rfl (.inr rfl) (by conv => lhs; whnf) rfl rfl rfl ?_
  refine s_of (st_neI rfl rfl rfl) rfl rfl rfl rfl ?_
  refine rt_nil ?_
  refine tri_cond rfl (fun c2 => ?_) (fun c2 => ?_)
  ·replace h := cond_t h c2
   refine tri_sr ?_
   refine s_mv (.inr rfl) (v := .sc (.bool false)) rfl rfl rfl rfl ?_
   refine rt_nil ?_
   refine tri_ret ?_
   have e0 := (some1 h); subst e0
   exact endY [] [] (rvC (resTmp rfl) rvN) trivial trivial rfl rfl rfl rfl (.free rfl)
  ·replace h := cond_f h c2
   refine tri_skip ?_
   refine tri_sr ?_
   refine s_mv (.inr rfl) (v := .sc (.bool true)) rfl rfl rfl rfl ?_
   refine rt_nil ?_
   refine tri_ret ?_
   have e0 := (some1 h); subst e0
   exact endY [] [] (rvC (resTmp rfl) rvN) trivial trivial rfl rfl rfl rfl (.free rfl)

/- laws.eqRecord -/

set_option maxRecDepth 4000 in
set_option maxHeartbeats 800000 in
theorem ww_eqRecord (p0 : Rec) (p1 : Rec) (r0 : Bool) (h : w_eqRecord p0 p1 = some r0) : Runs Tryz.prog 104 [.agg (recV p0), .agg (recV p1)] [] (.sc (.bool r0)) [] := by
 unfold w_eqRecord at h
 refine runsR [.tmp 4] Tryz.func104 rfl rfl rfl rfl ?_
 rw [Tryz.ntmps104]
 refine tri_sr ?_
 refine s_box rfl rfl rfl rfl rfl rfl rfl ?_
 refine s_box rfl rfl rfl rfl rfl rfl rfl ?_
 refine s_mv (.inr rfl) (v := .sc (.bool false)) rfl rfl rfl rfl ?_
 refine rt_nil ?_
 refine tri_seq ?_
 refine tri_sr ?_
 refine s_fieldAddr rfl rfl fd87_0 rfl rfl rfl rfl ?_
 refine s_load rfl rfl rfl rfl ty9 rfl (.inr rfl) (by conv => lhs; whnf) rfl rfl rfl ?_
 refine s_fieldAddr rfl rfl fd87_0 rfl rfl rfl rfl ?_
 refine s_load rfl rfl rfl rfl ty9 rfl (.inr rfl) (by conv => lhs; whnf) rfl rfl rfl ?_
 refine s_of (st_neS rfl rfl rfl) rfl rfl rfl rfl ?_
 refine rt_nil ?_
 refine tri_cond rfl (fun c1 => ?_) (fun c1 => ?_)
 ·replace h := cond_t h c1
  refine tri_sr ?_
  refine s_mv (.inr rfl) (v := .sc (.bool false)) rfl rfl rfl rfl ?_
  refine rt_nil ?_
  refine tri_ret ?_
  have e0 := (some1 h); subst e0
  exact endY [] [] (rvC (resTmp rfl) rvN) trivial trivial rfl rfl rfl rfl (.free rfl)
 ·replace h := cond_f h c1
  refine tri_skip ?_
  refine tri_seq ?_
  refine tri_sr ?_
  refine s_fieldAddr rfl rfl fd87_1 rfl rfl rfl rfl ?_
  refine s_load rfl rfl rfl rfl ty3 rfl (.inr rfl) (by conv => lhs; whnf) rfl rfl rfl ?_
  refine s_fieldAddr rfl rfl fd87_1 rfl rfl rfl rfl ?_
  refine s_load rfl rfl rfl rfl ty3 rfl (.inr rfl) (by conv => lhs; whnf) rfl rfl rfl ?_
  refine s_of (st_neI rfl rfl rfl) rfl rfl rfl rfl ?_
  refine rt_nil ?_
  refine tri_cond rfl (fun c2 => ?_) (fun c2 => ?_)
  ·replace h := cond_t h c2
   refine tri_sr ?_
   refine s_mv (.inr rfl) (v := .sc (.bool false)) rfl rfl rfl rfl ?_
   refine rt_nil ?_
   refine tri_ret ?_
   have e0 := (some1 h); subst e0
   exact endY [] [] (rvC (resTmp rfl) rvN) trivial trivial rfl rfl rfl rfl (.free rfl)
  ·replace h := cond_f h c2
   refine tri_skip ?_
   refine tri_seq ?_
   refine tri_sr ?_
   refine s_fieldAddr rfl rfl fd87_2 rfl rfl rfl rfl ?_
   refine s_load rfl rfl rfl rfl ty3 rfl (.inr rfl) (by conv => lhs; whnf) rfl rfl rfl ?_
   refine s_fieldAddr rfl rfl fd87_2 rfl rfl rfl rfl ?_
   refine s_load rfl rfl rfl rfl ty3 rfl (.inr rfl) (by conv => lhs; whnf) rfl rfl rfl ?_
   refine s_of (st_neI rfl rfl rfl) rfl rfl rfl rfl ?_
   refine rt_nil ?_
   refine tri_cond rfl (fun c3 => ?_) (fun c3 => ?_)
   ·replace h := cond_t h c3
    refine tri_sr ?_
    refine s_mv (.inr rfl) (v := .sc (.bool false)) rfl rfl rfl rfl ?_
    refine rt_nil ?_
    refine tri_ret ?_
    have e0 := (some1 h); subst e0
    exact endY [] [] (rvC (resTmp rfl) rvN) trivial trivial rfl rfl rfl rfl (.free rfl)
   ·replace h := cond_f h c3
    refine tri_skip ?_
    refine tri_seq ?_
    refine tri_sr ?_
    refine s_fieldAddr rfl rfl fd87_3 rfl rfl rfl rfl ?_
    refine s_load rfl rfl rfl rfl ty3 rfl (.inr rfl) (by conv => lhs; whnf) rfl rfl rfl ?_
    refine s_fieldAddr rfl rfl fd87_3 rfl rfl rfl rfl ?_
    refine s_load rfl rfl rfl rfl ty3 rfl (.inr rfl) (by conv => lhs; whnf) rfl rfl rfl ?_
    refine s_of (st_neI rfl rfl rfl) rfl rfl rfl rfl ?_
    refine rt_nil ?_
    refine tri_cond rfl (fun c4 => ?_) (fun c4 => ?_)
    ·replace h := cond_t h c4
     refine tri_sr ?_
     refine s_mv (.inr rfl) (v := .sc (.bool false)) rfl rfl rfl rfl ?_
     refine rt_nil ?_
     refine tri_ret ?_
     have e0 := (some1 h); subst e0
     exact endY [] [] (rvC (resTmp rfl) rvN) trivial trivial rfl rfl rfl rfl (.free rfl)
    ·replace h := cond_f h c4
     refine tri_skip ?_
     refine tri_seq ?_
     refine tri_sr ?_
     refine s_fieldAddr rfl rfl fd87_4 rfl rfl rfl rfl ?_
     refine s_load rfl rfl rfl rfl ty9 rfl (.inr rfl) (by conv => lhs; whnf) rfl rfl rfl ?_
     refine s_fieldAddr rfl rfl fd87_4 rfl rfl rfl rfl ?_
     refine s_load rfl rfl rfl rfl ty9 rfl (.inr rfl) (by conv => lhs; whnf) rfl rfl rfl ?_
     refine s_of (st_neS rfl rfl rfl) rfl rfl rfl rfl ?_
     refine rt_nil ?_
     refine tri_cond rfl (fun c5 => ?_) (fun c5 => ?_)
     ·replace h := cond_t h c5
      refine tri_sr ?_
      refine s_mv (.inr rfl) (v := .sc (.bool false)) rfl rfl rfl rfl ?_
      refine rt_nil ?_
      refine tri_ret ?_
      have e0 := (some1 h); subst e0
      exact endY [] [] (rvC (resTmp rfl) rvN) trivial trivial rfl rfl rfl rfl (.free rfl)
     ·replace h := cond_f h c5
      refine tri_skip ?_
      refine tri_seq ?_
      refine tri_sr ?_
      refine s_fieldAddr rfl rfl fd87_5 rfl rfl rfl rfl ?_
      refine s_load rfl rfl rfl rfl ty9 rfl (.inr rfl) (by conv => lhs; whnf) rfl rfl rfl ?_
      refine s_fieldAddr rfl rfl fd87_5 rfl rfl rfl rfl ?_
      refine s_load rfl rfl rfl rfl ty9 rfl (.inr rfl) (by conv => lhs; whnf) rfl rfl rfl ?_
      refine s_of (st_neS rfl rfl rfl) rfl rfl rfl rfl ?_
      refine rt_nil ?_
      refine tri_cond rfl (fun c6 => ?_) (fun c6 => ?_)
      ·replace h := cond_t h c6
       refine tri_sr ?_
       refine s_mv (.inr rfl) (v := .sc (.bool false)) rfl rfl rfl rfl ?_
       refine rt_nil ?_
       refine tri_ret ?_
       have e0 := (some1 h); subst e0
       exact endY [] [] (rvC (resTmp rfl) rvN) trivial trivial rfl rfl rfl rfl (.free rfl)
      ·replace h := cond_f h c6
       refine tri_skip ?_
       refine tri_sr ?_
       refine s_mv (.inr rfl) (v := .sc (.bool true)) rfl rfl rfl rfl ?_
       refine rt_nil ?_
       refine tri_ret ?_
       have e0 := (some1 h); subst e0
       exact endY [] [] (rvC (resTmp rfl) rvN) trivial trivial rfl rfl rfl rfl (.free rfl)

/- laws.eqRecordS -/
def inv_w_eqRecordS_0 (p0 : List Rec) (p1 : List Rec) (v0_0 : Nat) : St := mkT 27 [(0, .lst 6 (List.map recV p0)), (1, .lst 6 (List.map recV p1)), (5, .sc (.int .i64 (v0_0 : Int)))] []
set_option maxRecDepth 4000 in
set_option maxHeartbeats 800000 in
theorem ww_eqRecordS (p0 : List Rec) (p1 : List Rec) (r0 : Bool) (h : w_eqRecordS p0 p1 = some r0) : Runs Tryz.prog 67 [.lst 6 (List.map recV p0), .lst 6 (List.map recV p1)] [] (.sc (.bool r0)) [] := by
 unfold w_eqRecordS at h
 refine runsR [.tmp 4] Tryz.func67 rfl rfl rfl rfl ?_
 rw [Tryz.ntmps67]
 refine tri_sr ?_
 refine s_mv (.inr rfl) (v := .sc (.bool false)) rfl rfl rfl rfl ?_
 refine rt_nil ?_
 refine tri_seq ?_
 refine tri_sr ?_
 refine m1 ?_
 refine s_lenL rfl sl26 rfl rfl rfl rfl ?_
 refine m1 ?_
 refine s_lenL rfl sl26 rfl rfl rfl rfl ?_
 refine s_of (st_neI rfl rfl rfl) rfl rfl rfl rfl ?_
 refine rt_nil ?_
 refine tri_cond rfl (fun c1 => ?_) (fun c1 => ?_)
 ·replace h := cond_t h c1
  refine tri_sr ?_
  refine s_mv (.inr rfl) (v := .sc (.bool false)) rfl rfl rfl rfl ?_
  refine rt_nil ?_
  refine tri_ret ?_
  have e0 := (some1 h); subst e0
  exact endY [] [] (rvC (resTmp rfl) rvN) trivial trivial rfl rfl rfl rfl (.free rfl)
 ·replace h := cond_f h c1
  refine tri_skip ?_
  refine tri_seq ?_
  refine tri_sr ?_
  refine s_mv (.inr rfl) (v := .sc (.int .i64 0)) rfl rfl rfl rfl ?_
  refine rt_nil ?_
  refine tri_block ?_
  refine tri_lstM 0 rfl (fun hl0 => ?_)
  refine tri_loop (ι := { p : (List Rec) × Nat // p0.drop p.2 = p.1 ∧ w_eqRecordS_l0 p1 p.1 p.2 = some r0 }) (fun p => inv_w_eqRecordS_0 p0 p1 p.1.2) (fun p => p.1.1.length) ⟨(p0, 0), rfl, h⟩ ?_ ?_
  ·skip
   refine entX [] [] trivial trivial rfl rfl ?_
   exact ⟨(.free rfl), (.free rfl), (.free rfl), trivial⟩
  ·rintro ⟨⟨lrs0, v0_0⟩, hd0, h⟩
   replace hd0 : p0.drop v0_0 = lrs0 := hd0
   replace h : w_eqRecordS_l0 p1 lrs0 v0_0 = some r0 := h
   show Tri _ _ _ (inv_w_eqRecordS_0 p0 p1 v0_0)
   refine tri_seq ?_
   refine tri_sr ?_
   refine m1 ?_
   refine m1 ?_
   refine s_lenL rfl sl26 rfl rfl rfl rfl ?_
   refine s_of (st_lss rfl rfl rfl) rfl rfl rfl rfl ?_
   refine rt_nil ?_
   refine tri_cond rfl (fun c2 => ?_) (fun c2 => ?_)
   ·refine drop_elim hd0 c2 fun e0 rs0 he hx0 hn0 => ?_
    subst he
    rw [w_eqRecordS_l0] at h
    refine tri_skip ?_
    refine tri_seq ?_
    refine tri_block ?_
    refine tri_seq ?_
    refine tri_draw mixed ?_
    refine m1 ?_
    refine m1 ?_
    refine s_indexF (i := v0_0) rfl rfl rfl sl26 (get_ltM hx0) rfl rfl rfl ?_
    refine s_loadFR rfl rfl (rowG hx0) ty87 rfl rfl rfl ?_
    refine m1 ?_
    refine m1 ?_
    refine bnd1_elim h fun x3 q4 h => ?_
    have q4a := (idx_some q4).1; have q4b := (idx_some q4).2
    refine s_indexFZ rfl rfl rfl sl26 q4a (get_ltM q4b) rfl rfl rfl ?_
    refine s_loadFR rfl rfl (rowG q4b) ty87 rfl rfl rfl ?_
    refine bnd1_elim h fun x5 q6 h => ?_
    refine s_callN (kb := []) (ns := []) (v := .sc (.bool x5)) rfl rfl cl104 (ww_eqRecord e0 x3 x5 q6) rfl (.cons (relAgg rfl) (.cons (relAgg rfl) .nil)) trivial memNil .nil memNil rfl trivial memNil rfl rfl rfl rfl rfl rfl ?_
    refine s_of (st_not rfl rfl) rfl rfl rfl rfl ?_
    refine rt_nil ⟨by kernel_rfl, ?_⟩
    refine tri_cond rfl (fun c7 => ?_) (fun c7 => ?_)
    ·replace h := cond_t h c7
     refine tri_sr ?_
     refine s_mv (.inr rfl) (v := .sc (.bool false)) rfl rfl rfl rfl ?_
     refine rt_nil ?_
     refine tri_ret ?_
     have e0 := (some1 h); subst e0
     exact endY [] [] (rvC (resTmp rfl) rvN) trivial trivial rfl rfl rfl rfl (.free rfl)
    ·replace h := cond_f h c7
     refine tri_skip ?_
     refine tri_region ?_
     refine m1 ?_
     refine s_inc (a := v0_0) (b := 1) rfl rfl rfl rfl (by have := get_lt hx0; have := hl0; omega) rfl rfl rfl ?_
     refine m2 ?_
     refine rt_nil ?_
     refine Exists.intro ⟨(rs0, (v0_0 + 1)), hn0, h⟩ (And.intro (Nat.lt_succ_self _) ?_)
     refine entX [] [] trivial trivial rfl rfl ?_
     exact ⟨(.free rfl), (.free rfl), (.free rfl), trivial⟩
   ·have he := drop_f hd0 c2; subst he
    rw [w_eqRecordS_l0] at h
    refine tri_exit ?_
    refine tri_sr ?_
    refine s_mv (.inr rfl) (v := .sc (.bool true)) rfl rfl rfl rfl ?_
    refine rt_nil ?_
    refine tri_ret ?_
    have e0 := (some1 h); subst e0
    exact endY [] [] (rvC (resTmp rfl) rvN) trivial trivial rfl rfl rfl rfl (.free rfl)

/- laws.eqMsg -/

set_option maxRecDepth 4000 in
set_option maxHeartbeats 800000 in
theorem ww_eqMsg (p0 : MMsg) (p1 : MMsg) (r0 : Bool) (h : w_eqMsg p0 p1 = some r0) : Runs Tryz.prog 31 [.agg (mMsgV p0), .agg (mMsgV p1)] [] (.sc (.bool r0)) [] := by
 unfold w_eqMsg at h
 refine runsR [.tmp 4] Tryz.func31 rfl rfl rfl rfl ?_
 rw [Tryz.ntmps31]
 refine tri_sr ?_
 refine s_box rfl rfl rfl rfl rfl rfl rfl ?_
 refine s_box rfl rfl rfl rfl rfl rfl rfl ?_
 refine s_mv (.inr rfl) (v := .sc (.bool false)) rfl rfl rfl rfl ?_
 refine rt_nil ?_
 refine tri_seq ?_
 refine tri_sr ?_
 refine s_fieldAddr rfl rfl fd28_0 rfl rfl rfl rfl ?_
 refine s_load rfl rfl rfl rfl ty3 rfl (.inr rfl) (by conv => lhs; whnf) rfl rfl rfl ?_
 refine s_fieldAddr rfl rfl fd28_0 rfl rfl rfl rfl ?_
 refine s_load rfl rfl rfl rfl ty3 rfl (.inr rfl) (by conv => lhs; whnf) rfl rfl rfl ?_
 refine s_of (st_neI rfl rfl rfl) rfl rfl rfl rfl ?_
 refine rt_nil ?_
 refine tri_cond rfl (fun c1 => ?_) (fun c1 => ?_)
 ·replace h := cond_t h c1
  refine tri_sr ?_
  refine s_mv (.inr rfl) (v := .sc (.bool false)) rfl rfl rfl rfl ?_
  refine rt_nil ?_
  refine tri_ret ?_
  have e0 := (some1 h); subst e0
  exact endY [] [] (rvC (resTmp rfl) rvN) trivial trivial rfl rfl rfl rfl (.free rfl)
 ·replace h := cond_f h c1
  refine tri_skip ?_
  refine tri_seq ?_
  refine tri_sr ?_
  refine s_fieldAddr rfl rfl fd28_1 rfl rfl rfl rfl ?_
  refine s_load rfl rfl rfl rfl ty4 rfl (.inr rfl) (by conv => lhs; whnf) rfl rfl rfl ?_
  refine s_fieldAddr rfl rfl fd28_1 rfl rfl rfl rfl ?_
  refine s_load rfl rfl rfl rfl ty4 rfl (.inr rfl) (by conv => lhs; whnf) rfl rfl rfl ?_
  refine s_of (st_neB isb4 rfl rfl rfl) rfl rfl rfl rfl ?_
  refine rt_nil ?_
  refine tri_cond rfl (fun c2 => ?_) (fun c2 => ?_)
  ·replace h := cond_t h c2
   refine tri_sr ?_
   refine s_mv (.inr rfl) (v := .sc (.bool false)) rfl rfl rfl rfl ?_
   refine rt_nil ?_
   refine tri_ret ?_
   have e0 := (some1 h); subst e0
   exact endY [] [] (rvC (resTmp rfl) rvN) trivial trivial rfl rfl rfl rfl (.free rfl)
  ·replace h := cond_f h c2
   refine tri_skip ?_
   refine tri_seq ?_
   refine tri_sr ?_
   refine s_fieldAddr rfl rfl fd28_2 rfl rfl rfl rfl ?_
   refine s_load rfl rfl rfl rfl ty4 rfl (.inr rfl) (by conv => lhs; whnf) rfl rfl rfl ?_
   refine s_fieldAddr rfl rfl fd28_2 rfl rfl rfl rfl ?_
   refine s_load rfl rfl rfl rfl ty4 rfl (.inr rfl) (by conv => lhs; whnf) rfl rfl rfl ?_
   refine s_of (st_neB isb4 rfl rfl rfl) rfl rfl rfl rfl ?_
   refine rt_nil ?_
   refine tri_cond rfl (fun c3 => ?_) (fun c3 => ?_)
   ·replace h := cond_t h c3
    refine tri_sr ?_
    refine s_mv (.inr rfl) (v := .sc (.bool false)) rfl rfl rfl rfl ?_
    refine rt_nil ?_
    refine tri_ret ?_
    have e0 := (some1 h); subst e0
    exact endY [] [] (rvC (resTmp rfl) rvN) trivial trivial rfl rfl rfl rfl (.free rfl)
   ·replace h := cond_f h c3
    refine tri_skip ?_
    refine tri_seq ?_
    refine tri_sr ?_
    refine s_fieldAddr rfl rfl fd28_3 rfl rfl rfl rfl ?_
    refine s_load rfl rfl rfl rfl ty4 rfl (.inr rfl) (by conv => lhs; whnf) rfl rfl rfl ?_
    refine s_fieldAddr rfl rfl fd28_3 rfl rfl rfl rfl ?_
    refine s_load rfl rfl rfl rfl ty4 rfl (.inr rfl) (by conv => lhs; whnf) rfl rfl rfl ?_
    refine s_of (st_neB isb4 rfl rfl rfl) rfl rfl rfl rfl ?_
    refine rt_nil ?_
    refine tri_cond rfl (fun c4 => ?_) (fun c4 => ?_)
    ·replace h := cond_t h c4
     refine tri_sr ?_
     refine s_mv (.inr rfl) (v := .sc (.bool false)) rfl rfl rfl rfl ?_
     refine rt_nil ?_
     refine tri_ret ?_
     have e0 := (some1 h); subst e0
     exact endY [] [] (rvC (resTmp rfl) rvN) trivial trivial rfl rfl rfl rfl (.free rfl)
    ·replace h := cond_f h c4
     refine tri_skip ?_
     refine tri_seq ?_
     refine tri_sr ?_
     refine s_fieldAddr rfl rfl fd28_4 rfl rfl rfl rfl ?_
     refine s_load rfl rfl rfl rfl ty4 rfl (.inr rfl) (by conv => lhs; whnf) rfl rfl rfl ?_
     refine s_fieldAddr rfl rfl fd28_4 rfl rfl rfl rfl ?_
     refine s_load rfl rfl rfl rfl ty4 rfl (.inr rfl) (by conv => lhs; whnf) rfl rfl rfl ?_
     refine s_of (st_neB isb4 rfl rfl rfl) rfl rfl rfl rfl ?_
     refine rt_nil ?_
     refine tri_cond rfl (fun c5 => ?_) (fun c5 => ?_)
     ·replace h := cond_t h c5
      refine tri_sr ?_
      refine s_mv (.inr rfl) (v := .sc (.bool false)) rfl rfl rfl rfl ?_
      refine rt_nil ?_
      refine tri_ret ?_
      have e0 := (some1 h); subst e0
      exact endY [] [] (rvC (resTmp rfl) rvN) trivial trivial rfl rfl rfl rfl (.free rfl)
     ·replace h := cond_f h c5
      refine tri_skip ?_
      refine tri_seq ?_
      refine tri_sr ?_
      refine s_fieldAddr rfl rfl fd28_5 rfl rfl rfl rfl ?_
      refine s_load rfl rfl rfl rfl ty4 rfl (.inr rfl) (by conv => lhs; whnf) rfl rfl rfl ?_
      refine s_fieldAddr rfl rfl fd28_5 rfl rfl rfl rfl ?_
      refine s_load rfl rfl rfl rfl ty4 rfl (.inr rfl) (by conv => lhs; whnf) rfl rfl rfl ?_
      refine s_of (st_neB isb4 rfl rfl rfl) rfl rfl rfl rfl ?_
      refine rt_nil ?_
      refine tri_cond rfl (fun c6 => ?_) (fun c6 => ?_)
      ·replace h := cond_t h c6
       refine tri_sr ?_
       refine s_mv (.inr rfl) (v := .sc (.bool false)) rfl rfl rfl rfl ?_
       refine rt_nil ?_
       refine tri_ret ?_
       have e0 := (some1 h); subst e0
       exact endY [] [] (rvC (resTmp rfl) rvN) trivial trivial rfl rfl rfl rfl (.free rfl)
      ·replace h := cond_f h c6
       refine tri_skip ?_
       refine tri_seq ?_
       refine tri_sr ?_
       refine s_fieldAddr rfl rfl fd28_6 rfl rfl rfl rfl ?_
       refine s_load rfl rfl rfl rfl ty3 rfl (.inr rfl) (by conv => lhs; whnf) rfl rfl rfl ?_
       refine s_fieldAddr rfl rfl fd28_6 rfl rfl rfl rfl ?_
       refine s_load rfl rfl rfl rfl ty3 rfl (.inr rfl) (by conv => lhs; whnf) rfl rfl rfl ?_
       refine s_of (st_neI rfl rfl rfl) rfl rfl rfl rfl ?_
       refine rt_nil ?_
       refine tri_cond rfl (fun c7 => ?_) (fun c7 => ?_)
       ·replace h := cond_t h c7
        refine tri_sr ?_
        refine s_mv (.inr rfl) (v := .sc (.bool false)) rfl rfl rfl rfl ?_
        refine rt_nil ?_
        refine tri_ret ?_
        have e0 := (some1 h); subst e0
        exact endY [] [] (rvC (resTmp rfl) rvN) trivial trivial rfl rfl rfl rfl (.free rfl)
       ·replace h := cond_f h c7
        refine tri_skip ?_
        refine tri_seq ?_
        refine tri_sr ?_
        refine s_fieldAddr rfl rfl fd28_7 rfl rfl rfl rfl ?_
        refine s_load (v := .agg (questV p0.q)) rfl rfl rfl rfl ty25 rfl (.inl rfl) rfl rfl rfl rfl ?_
        refine s_fieldAddr rfl rfl fd28_7 rfl rfl rfl rfl ?_
        refine s_load (v := .agg (questV p1.q)) rfl rfl rfl rfl ty25 rfl (.inl rfl) rfl rfl rfl rfl ?_
        refine bnd1_elim h fun x8 q9 h => ?_
        refine s_callN (kb := []) (ns := []) (v := .sc (.bool x8)) rfl rfl cl66 (ww_eqQuest p0.q p1.q x8 q9) rfl (.cons (relAgg rfl) (.cons (relAgg rfl) .nil)) trivial memNil .nil memNil rfl trivial memNil rfl rfl rfl rfl rfl rfl ?_
        refine s_of (st_not rfl rfl) rfl rfl rfl rfl ?_
        refine rt_nil ?_
        refine tri_cond rfl (fun c10 => ?_) (fun c10 => ?_)
        ·replace h := cond_t h c10
         refine tri_sr ?_
         refine s_mv (.inr rfl) (v := .sc (.bool false)) rfl rfl rfl rfl ?_
         refine rt_nil ?_
         refine tri_ret ?_
         have e0 := (some1 h); subst e0
         exact endY [] [] (rvC (resTmp rfl) rvN) trivial trivial rfl rfl rfl rfl (.free rfl)
        ·replace h := cond_f h c10
         refine tri_skip ?_
         refine tri_seq ?_
         refine tri_sr ?_
         refine s_fieldAddr rfl rfl fd28_8 rfl rfl rfl rfl ?_
         refine s_load rfl rfl rfl rfl ty26 rfl (.inr rfl) (by conv => lhs; whnf) rfl rfl rfl ?_
         refine s_fieldAddr rfl rfl fd28_8 rfl rfl rfl rfl ?_
         refine s_load rfl rfl rfl rfl ty26 rfl (.inr rfl) (by conv => lhs; whnf) rfl rfl rfl ?_
         refine bnd1_elim h fun x11 q12 h => ?_
         refine s_callN (kb := []) (ns := []) (v := .sc (.bool x11)) rfl rfl cl67 (ww_eqRecordS p0.an p1.an x11 q12) rfl (.cons (.free rfl) (.cons (.free rfl) .nil)) trivial memNil .nil memNil rfl trivial memNil rfl rfl rfl rfl rfl rfl ?_
         refine s_of (st_not rfl rfl) rfl rfl rfl rfl ?_
         refine rt_nil ?_
         refine tri_cond rfl (fun c13 => ?_) (fun c13 => ?_)
         ·replace h := cond_t h c13
          refine tri_sr ?_
          refine s_mv (.inr rfl) (v := .sc (.bool false)) rfl rfl rfl rfl ?_
          refine rt_nil ?_
          refine tri_ret ?_
          have e0 := (some1 h); subst e0
          exact endY [] [] (rvC (resTmp rfl) rvN) trivial trivial rfl rfl rfl rfl (.free rfl)
         ·replace h := cond_f h c13
          refine tri_skip ?_
          refine tri_seq ?_
          refine tri_sr ?_
          refine s_fieldAddr rfl rfl fd28_9 rfl rfl rfl rfl ?_
          refine s_load rfl rfl rfl rfl ty26 rfl (.inr rfl) (by conv => lhs; whnf) rfl rfl rfl ?_
          refine s_fieldAddr rfl rfl fd28_9 rfl rfl rfl rfl ?_
          refine s_load rfl rfl rfl rfl ty26 rfl (.inr rfl) (by conv => lhs; whnf) rfl rfl rfl ?_
          refine bnd1_elim h fun x14 q15 h => ?_
          refine s_callN (kb := []) (ns := []) (v := .sc (.bool x14)) rfl rfl cl67 (ww_eqRecordS p0.au p1.au x14 q15) rfl (.cons (.free rfl) (.cons (.free rfl) .nil)) trivial memNil .nil memNil rfl trivial memNil rfl rfl rfl rfl rfl rfl ?_
          refine s_of (st_not rfl rfl) rfl rfl rfl rfl ?_
          refine rt_nil ?_
          refine tri_cond rfl (fun c16 => ?_) (fun c16 => ?_)
          ·replace h := cond_t h c16
           refine tri_sr ?_
           refine s_mv (.inr rfl) (v := .sc (.bool false)) rfl rfl rfl rfl ?_
           refine rt_nil ?_
           refine tri_ret ?_
           have e0 := (some1 h); subst e0
           exact endY [] [] (rvC (resTmp rfl) rvN) trivial trivial rfl rfl rfl rfl (.free rfl)
          ·replace h := cond_f h c16
           refine tri_skip ?_
           refine tri_seq ?_
           refine tri_sr ?_
           refine s_fieldAddr rfl rfl fd28_10 rfl rfl rfl rfl ?_
           refine s_load rfl rfl rfl rfl ty26 rfl (.inr rfl) (by conv => lhs; whnf) rfl rfl rfl ?_
           refine s_fieldAddr rfl rfl fd28_10 rfl rfl rfl rfl ?_
           refine s_load rfl rfl rfl rfl ty26 rfl (.inr rfl) (by conv => lhs; whnf) rfl rfl rfl ?_
           refine bnd1_elim h fun x17 q18 h => ?_
           refine s_callN (kb := []) (ns := []) (v := .sc (.bool x17)) rfl rfl cl67 (ww_eqRecordS p0.ad p1.ad x17 q18) rfl (.cons (.free rfl) (.cons (.free rfl) .nil)) trivial memNil .nil memNil rfl trivial memNil rfl rfl rfl rfl rfl rfl ?_
           refine s_of (st_not rfl rfl) rfl rfl rfl rfl ?_
           refine rt_nil ?_
           refine tri_cond rfl (fun c19 => ?_) (fun c19 => ?_)
           ·replace h := cond_t h c19
            refine tri_sr ?_
            refine s_mv (.inr rfl) (v := .sc (.bool false)) rfl rfl rfl rfl ?_
            refine rt_nil ?_
            refine tri_ret ?_
            have e0 := (some1 h); subst e0
            exact endY [] [] (rvC (resTmp rfl) rvN) trivial trivial rfl rfl rfl rfl (.free rfl)
           ·replace h := cond_f h c19
            refine tri_skip ?_
            refine tri_sr ?_
            refine s_mv (.inr rfl) (v := .sc (.bool true)) rfl rfl rfl rfl ?_
            refine rt_nil ?_
            refine tri_ret ?_
            have e0 := (some1 h); subst e0
            exact endY [] [] (rvC (resTmp rfl) rvN) trivial trivial rfl rfl rfl rfl (.free rfl)

/- laws.FnExactFits -/

set_option maxRecDepth 4000 in
set_option maxHeartbeats 800000 in
theorem ww_FnExactFits (p0 : MMsg) (r0 : Bool) (h : w_FnExactFits p0 = some r0) : Runs Tryz.prog 6 [.agg (mMsgV p0)] [] (.sc (.bool r0)) [] := by
 unfold w_FnExactFits at h
 refine runsR [.tmp 2] Tryz.func6 rfl rfl rfl rfl ?_
 rw [Tryz.ntmps6]
 refine tri_sr ?_
 refine s_box rfl rfl rfl rfl rfl rfl rfl ?_
 refine s_mv (.inr rfl) (v := .sc (.bool false)) rfl rfl rfl rfl ?_
 refine rt_nil ?_
 refine tri_sr ?_
 refine s_mv (.inr rfl) (v := .sc (.int .i64 1048576)) rfl rfl rfl rfl ?_
 refine rt_nil ?_
 refine tri_sr ?_
 refine s_loadR rfl rfl rfl rfl ty47 rfl rfl rfl ?_
 refine m1 ?_
 refine bnd1_elim h fun x1 q2 h => ?_
 refine s_callN (kb := []) (ns := []) (v := .sc (.int .i64 x1)) rfl rfl cl28 (ww_szMsg p0 1048576 x1 q2) rfl (.cons (relAgg rfl) (.cons (.free rfl) .nil)) trivial memNil .nil memNil rfl trivial memNil rfl rfl rfl rfl rfl rfl ?_
 refine m2 ?_
 refine rt_nil ?_
 refine tri_seq ?_
 refine tri_sr ?_
 refine m1 ?_
 refine s_of (st_lss rfl rfl rfl) rfl rfl rfl rfl ?_
 refine rt_nil ?_
 refine tri_cond rfl (fun c3 => ?_) (fun c3 => ?_)
 ·replace h := cond_t h c3
  refine tri_sr ?_
  refine s_mv (.inr rfl) (v := .sc (.bool true)) rfl rfl rfl rfl ?_
  refine rt_nil ?_
  refine tri_ret ?_
  have e0 := (some1 h); subst e0
  exact endY [] [] (rvC (resTmp rfl) rvN) trivial trivial rfl rfl rfl rfl (.free rfl)
 ·replace h := cond_f h c3
  refine tri_skip ?_
  refine tri_sr ?_
  refine s_loadR rfl rfl rfl rfl ty47 rfl rfl rfl ?_
  refine bnd1_elim h fun x4 q5 h => ?_
  refine s_callN (kb := []) (ns := []) (v := .agg [.sc (.int .i64 x4.id), .sc (.bool x4.reply), .sc (.bool x4.auth), .sc (.bool x4.cut), .sc (.bool x4.want), .sc (.bool x4.can), .sc (.int .i64 x4.code), .sc (.string x4.q.name), .sc (.int .i64 x4.q.ty), .ref (13, 9) 0 x4.an.length, .ref (13, 10) 0 x4.au.length, .ref (13, 11) 0 x4.ad.length]) rfl rfl cl30 (ww_toMsg p0 x4 q5) rfl (.cons (relAgg rfl) .nil) trivial memNil .nil memNil rfl ⟨(allSc_map recV_sc), ⟨(allSc_map recV_sc), ⟨(allSc_map recV_sc), trivial⟩⟩⟩ memNil rfl (by simp only [V.mat, V.mat1, V.mat0, matL, matT, List.length_map] <;> rfl) rfl rfl rfl rfl ?_
  refine bnd1_elim h fun x6 q7 h => ?_
  refine s_callN (kb := [(13, 9), (13, 10), (13, 11)]) (ns := []) (v := .sc (.bool x6)) rfl rfl cl32 (ws_Fits x4 x6 q7) rfl (.cons (relAggL (.cons (.free rfl) (.cons (.free rfl) (.cons (.free rfl) (.cons (.free rfl) (.cons (.free rfl) (.cons (.free rfl) (.cons (.free rfl) (.cons (.free rfl) (.cons (.free rfl) (.cons (lendL rfl (.head _) rfl recV_free recV_len) (.cons (lendL rfl (.tail _ (.head _)) rfl recV_free recV_len) (.cons (lendL rfl (.tail _ (.tail _ (.head _))) rfl recV_free recV_len) .nil))))))))))))) .nil) trivial memNil .nil (fun _ _ => List.not_mem_nil) rfl trivial memNil rfl rfl rfl rfl rfl rfl ?_
  refine m2 ?_
  refine rt_nil ?_
  refine tri_sr ?_
  refine s_loadR rfl rfl rfl rfl ty47 rfl rfl rfl ?_
  refine bnd1_elim h fun x8 q9 h => ?_
  refine s_callN (kb := []) (ns := []) (v := .agg [.sc (.int .i64 x8.id), .sc (.bool x8.reply), .sc (.bool x8.auth), .sc (.bool x8.cut), .sc (.bool x8.want), .sc (.bool x8.can), .sc (.int .i64 x8.code), .sc (.string x8.q.name), .sc (.int .i64 x8.q.ty), .ref (16, 9) 0 x8.an.length, .ref (16, 10) 0 x8.au.length, .ref (16, 11) 0 x8.ad.length]) rfl rfl cl30 (ww_toMsg p0 x8 q9) rfl (.cons (relAgg rfl) .nil) trivial memNil .nil memNil rfl ⟨(allSc_map recV_sc), ⟨(allSc_map recV_sc), ⟨(allSc_map recV_sc), trivial⟩⟩⟩ memNil rfl (by simp only [V.mat, V.mat1, V.mat0, matL, matT, List.length_map] <;> rfl) rfl rfl rfl rfl ?_
  refine s_alloc rfl rfl rfl zc28 rfl rfl rfl rfl rfl ?_
  refine s_storeB rfl rfl rfl ty28 rfl rfl rfl rfl rfl ?_
  refine rt_nil ?_
  refine tri_sr ?_
  refine s_loadR rfl rfl rfl rfl ty28 rfl rfl rfl ?_
  refine bnd1_elim h fun x10 q11 h => ?_
  refine s_callN (kb := [(16, 9), (16, 10), (16, 11)]) (ns := []) (v := .sc (.bool x10)) rfl rfl cl14 (wi_Fits x8 x10 q11) rfl (.cons (relAggL (.cons (.free rfl) (.cons (.free rfl) (.cons (.free rfl) (.cons (.free rfl) (.cons (.free rfl) (.cons (.free rfl) (.cons (.free rfl) (.cons (.free rfl) (.cons (.free rfl) (.cons (lendL rfl (.head _) rfl recV_free recV_len) (.cons (lendL rfl (.tail _ (.head _)) rfl recV_free recV_len) (.cons (lendL rfl (.tail _ (.tail _ (.head _))) rfl recV_free recV_len) .nil))))))))))))) .nil) trivial memNil .nil (fun _ _ => List.not_mem_nil) rfl trivial memNil rfl rfl rfl rfl rfl rfl ?_
  refine m2 ?_
  refine rt_nil ?_
  refine tri_seq ?_
  refine tri_sr ?_
  refine m1 ?_
  refine m1 ?_
  refine s_of (st_neB isb4 rfl rfl rfl) rfl rfl rfl rfl ?_
  refine rt_nil ?_
  refine tri_cond rfl (fun c12 => ?_) (fun c12 => ?_)
  ·replace h := cond_t h c12
   refine tri_sr ?_
   refine s_mv (.inr rfl) (v := .sc (.bool false)) rfl rfl rfl rfl ?_
   refine rt_nil ?_
   refine tri_ret ?_
   have e0 := (some1 h); subst e0
   exact endY [] [] (rvC (resTmp rfl) rvN) trivial trivial rfl rfl rfl rfl (.free rfl)
  ·replace h := cond_f h c12
   refine tri_skip ?_
   refine tri_seq ?_
   refine tri_seq ?_
   refine tri_draw mixed ?_
   refine s_loadR rfl rfl rfl rfl ty28 rfl rfl rfl ?_
   refine s_loadR rfl rfl rfl rfl ty47 rfl rfl rfl ?_
   refine bnd1_elim h fun x13 q14 h => ?_
   refine s_callN (kb := []) (ns := []) (v := .agg [.sc (.int .i64 x13.id), .sc (.bool x13.reply), .sc (.bool x13.auth), .sc (.bool x13.cut), .sc (.bool x13.want), .sc (.bool x13.can), .sc (.int .i64 x13.code), .sc (.string x13.q.name), .sc (.int .i64 x13.q.ty), .ref (24, 9) 0 x13.an.length, .ref (24, 10) 0 x13.au.length, .ref (24, 11) 0 x13.ad.length]) rfl rfl cl30 (ww_toMsg p0 x13 q14) rfl (.cons (relAgg rfl) .nil) trivial memNil .nil memNil rfl ⟨(allSc_map recV_sc), ⟨(allSc_map recV_sc), ⟨(allSc_map recV_sc), trivial⟩⟩⟩ memNil rfl (by simp only [V.mat, V.mat1, V.mat0, matL, matT, List.length_map] <;> rfl) rfl rfl rfl rfl ?_
   refine bnd1_elim h fun x15 q16 h => ?_
   refine s_callN (kb := [(16, 9), (16, 10), (16, 11), (24, 9), (24, 10), (24, 11)]) (ns := []) (v := .sc (.bool x15)) rfl rfl cl31 (ww_eqMsg x8 x13 x15 q16) rfl (.cons (relAggL (.cons (.free rfl) (.cons (.free rfl) (.cons (.free rfl) (.cons (.free rfl) (.cons (.free rfl) (.cons (.free rfl) (.cons (.free rfl) (.cons (.free rfl) (.cons (.free rfl) (.cons (lendL rfl (.head _) rfl recV_free recV_len) (.cons (lendL rfl (.tail _ (.head _)) rfl recV_free recV_len) (.cons (lendL rfl (.tail _ (.tail _ (.head _))) rfl recV_free recV_len) .nil))))))))))))) (.cons (relAggL (.cons (.free rfl) (.cons (.free rfl) (.cons (.free rfl) (.cons (.free rfl) (.cons (.free rfl) (.cons (.free rfl) (.cons (.free rfl) (.cons (.free rfl) (.cons (.free rfl) (.cons (lendL rfl (.tail _ (.tail _ (.tail _ (.head _)))) rfl recV_free recV_len) (.cons (lendL rfl (.tail _ (.tail _ (.tail _ (.tail _ (.head _))))) rfl recV_free recV_len) (.cons (lendL rfl (.tail _ (.tail _ (.tail _ (.tail _ (.tail _ (.head _)))))) rfl recV_free recV_len) .nil))))))))))))) .nil)) trivial memNil .nil (fun _ _ => List.not_mem_nil) rfl trivial memNil rfl rfl rfl rfl rfl rfl ?_
   refine s_of (st_not rfl rfl) rfl rfl rfl rfl ?_
   refine rt_nil ⟨by kernel_rfl, ?_⟩
   refine tri_cond rfl (fun c17 => ?_) (fun c17 => ?_)
   ·replace h := cond_t h c17
    refine tri_sr ?_
    refine s_mv (.inr rfl) (v := .sc (.bool false)) rfl rfl rfl rfl ?_
    refine rt_nil ?_
    refine tri_ret ?_
    have e0 := (some1 h); subst e0
    exact endY [] [] (rvC (resTmp rfl) rvN) trivial trivial rfl rfl rfl rfl (.free rfl)
   ·replace h := cond_f h c17
    refine tri_skip ?_
    refine tri_sr ?_
    refine s_mv (.inr rfl) (v := .sc (.bool true)) rfl rfl rfl rfl ?_
    refine rt_nil ?_
    refine tri_ret ?_
    have e0 := (some1 h); subst e0
    exact endY [] [] (rvC (resTmp rfl) rvN) trivial trivial rfl rfl rfl rfl (.free rfl)

end Go.Abs.M
