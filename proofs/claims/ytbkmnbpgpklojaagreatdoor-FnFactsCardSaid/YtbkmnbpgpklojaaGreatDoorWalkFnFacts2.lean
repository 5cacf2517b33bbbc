/- Walks of the functions that the law of FnFacts reaches: what each of them computes, where its pure function does not fail. -/
import Derived.Test.YtbkmnbpgpklojaaGreatDoorWalkFnFacts1
set_option linter.unusedSimpArgs false
set_option linter.unusedVariables false
set_option maxRecDepth 4000
set_option maxHeartbeats 800000
namespace Go.Abs.M
open Go Go.Abs Go.Proofs
theorem byt22 : isBytes Tryz.prog 22 = some 5 := by kernel_rfl
theorem cl107 : callable Tryz.prog 107 = true := by kernel_rfl
theorem cl108 : callable Tryz.prog 108 = true := by kernel_rfl
theorem cl109 : callable Tryz.prog 109 = true := by kernel_rfl
theorem cl110 : callable Tryz.prog 110 = true := by kernel_rfl
theorem cl111 : callable Tryz.prog 111 = true := by kernel_rfl
theorem cl112 : callable Tryz.prog 112 = true := by kernel_rfl
theorem cl148 : callable Tryz.prog 148 = true := by kernel_rfl
theorem cl149 : callable Tryz.prog 149 = true := by kernel_rfl
theorem cl150 : callable Tryz.prog 150 = true := by kernel_rfl
theorem cl151 : callable Tryz.prog 151 = true := by kernel_rfl
theorem cl155 : callable Tryz.prog 155 = true := by kernel_rfl
theorem cl156 : callable Tryz.prog 156 = true := by kernel_rfl
theorem cl157 : callable Tryz.prog 157 = true := by kernel_rfl
theorem cl158 : callable Tryz.prog 158 = true := by kernel_rfl
theorem cl173 : callable Tryz.prog 173 = true := by kernel_rfl
theorem cl174 : callable Tryz.prog 174 = true := by kernel_rfl
theorem cl175 : callable Tryz.prog 175 = true := by kernel_rfl
theorem cl178 : callable Tryz.prog 178 = true := by kernel_rfl
theorem cl179 : callable Tryz.prog 179 = true := by kernel_rfl
theorem cl180 : callable Tryz.prog 180 = true := by kernel_rfl
theorem cl188 : callable Tryz.prog 188 = true := by kernel_rfl
theorem cl193 : callable Tryz.prog 193 = true := by kernel_rfl
theorem cl21 : callable Tryz.prog 21 = true := by kernel_rfl
theorem cl57 : callable Tryz.prog 57 = true := by kernel_rfl
theorem cl58 : callable Tryz.prog 58 = true := by kernel_rfl
theorem cl59 : callable Tryz.prog 59 = true := by kernel_rfl
theorem ik21 : intK Tryz.prog 21 = some .i32 := by kernel_rfl
theorem zc24 : zeroC Tryz.prog 24 = some [.slice none 0 0] := by kernel_rfl
theorem zc5 : zeroC Tryz.prog 5 = some [.int .u8 0] := by kernel_rfl
/- impl.LabelOk -/
def inv_i_LabelOk_2 (p0 : ByteArray) (v1_0 : Int) (j2_0 : Bool) : St := mkT 44 [(0, .sc (.string p0)), (6, .sc (.int .i64 (p0.size : Int))), (7, .sc (.int .i64 v1_0)), (34, .sc (.bool j2_0))] []
def inv_i_LabelOk_1 (p0 : ByteArray) (v1_0 : Int) : St := mkT 44 [(0, .sc (.string p0)), (6, .sc (.int .i64 (p0.size : Int))), (7, .sc (.int .i64 v1_0))] []
def inv_i_LabelOk_0 (p0 : ByteArray) : St := mkT 44 [(0, .sc (.string p0))] []
theorem wi_LabelOk (p0 : ByteArray) (r0 : Bool) (h : i_LabelOk p0 = some r0) : Runs Tryz.prog 175 [.sc (.string p0)] [] (.sc (.bool r0)) [] := by
 unfold i_LabelOk at h;refine runsR [.tmp 2] Tryz.func175 rfl rfl rfl rfl ?_;rw [Tryz.ntmps175];refine tri_sr ?_;refine n2 (.sc (.bool false)) ?_;refine rt_nil ?_;refine tri_cutI (ι := { p : Unit // i_LabelOk_j0 p0 = some r0 }) (fun p => inv_i_LabelOk_0 p0) ?_ ?_
 ·refine tri_sr ?_;refine m1 ?_;refine so (st_lenS rfl rfl iss9) ?_;refine n1 (.sc (.int .i64 0)) ?_;refine rt_nil ?_;refine tri_block ?_;refine tri_loop (ι := { p : Nat × Int // i_LabelOk_l1 p0 p.1 p.2 = some r0 }) (fun p => inv_i_LabelOk_1 p0 p.1.2) (fun p => p.1.1) ⟨(fuel0, 0), h⟩ ?_ ?_
  ·refine eX [] iN ?_;exact ⟨(.free rfl), (.free rfl), (.free rfl), trivial⟩
  ·rintro ⟨⟨f1, v1_0⟩, h⟩;replace h : i_LabelOk_l1 p0 f1 v1_0 = some r0 := h;cases f1 with
   | zero => cases h
   | succ f1 =>
   rw [i_LabelOk_l1] at h;show Tri _ _ _ (inv_i_LabelOk_1 p0 v1_0);refine tri_sr ?_;refine so (st_lss rfl rfl rfl) ?_;refine rt_nil ?_;refine tri_seq ?_;refine tri_cond rfl (fun c1 => ?_) (fun c1 => ?_)
   ·replace h := cond_t h c1;refine tri_skip ?_;refine tri_seq ?_;refine tri_block ?_;refine tri_sr ?_;refine m1 ?_;refine m2 ?_;refine rt_nil ?_;refine tri_sr ?_;refine m1 ?_;refine m1 ?_;refine bnd1_elim h fun x2 q3 h => ?_;refine s_idxS rfl rfl rfl iss9 q3 rfl rfl rfl ?_;refine m2 ?_;refine rt_nil ?_;refine tri_cutI (ι := { p : Bool // i_LabelOk_j2 v1_0 (i_LabelOk_l1 p0 f1) p = some r0 }) (fun p => inv_i_LabelOk_2 p0 v1_0 p.1) ?_ ?_
    ·refine tri_region ?_;refine m1 ?_;refine so (st_lss rfl rfl rfl) ?_;refine m1 ?_;refine s_split (t := 15) rfl (fun b4 => ?_) (fun b4 => ?_)
     ·replace h := cond_t h b4;refine sk ?_;refine sk ?_;refine pT (.sc (.bool true)) ?_;refine m1 ?_;refine m1 ?_;refine so (st_lss rfl rfl rfl) ?_;refine m1 ?_;refine s_split (t := 22) rfl (fun b5 => ?_) (fun b5 => ?_)
      ·replace h := cond_t h b5;refine sk ?_;refine sk ?_;refine pT (.sc (.bool true)) ?_;refine pU ?_;refine m1 ?_;refine m1 ?_;refine so (st_neI rfl rfl rfl) ?_;refine pU ?_;refine m1 ?_;refine s_split (t := 31) rfl (fun b6 => ?_) (fun b6 => ?_)
       ·replace h := cond_t h b6;refine m1 ?_;refine so (st_neI rfl rfl rfl) ?_;refine pU ?_;refine rt_nil ?_;refine Exists.intro ⟨!decide (x2 = 95), h⟩ ?_;refine eX [] iN ?_;exact ⟨(.free rfl), (.free rfl), (.free rfl), (.free rfl), trivial⟩
       ·replace h := cond_f h b6;refine sk ?_;refine sk ?_;refine pF (.sc (.bool false)) ?_;refine rt_nil ?_;refine Exists.intro ⟨false, h⟩ ?_;refine eX [] iN ?_;exact ⟨(.free rfl), (.free rfl), (.free rfl), (.free rfl), trivial⟩
      ·replace h := cond_f h b5;refine m1 ?_;refine so (st_gtr rfl rfl rfl) ?_;refine pG ?_;refine pU ?_;refine m1 ?_;refine s_split (t := 27) rfl (fun b7 => ?_) (fun b7 => ?_)
       ·replace h := cond_t h b7;refine m1 ?_;refine so (st_neI rfl rfl rfl) ?_;refine pU ?_;refine m1 ?_;refine s_split (t := 31) rfl (fun b8 => ?_) (fun b8 => ?_)
        ·replace h := cond_t h b8;refine m1 ?_;refine so (st_neI rfl rfl rfl) ?_;refine pU ?_;refine rt_nil ?_;refine Exists.intro ⟨!decide (x2 = 95), h⟩ ?_;refine eX [] iN ?_;exact ⟨(.free rfl), (.free rfl), (.free rfl), (.free rfl), trivial⟩
        ·replace h := cond_f h b8;refine sk ?_;refine sk ?_;refine pF (.sc (.bool false)) ?_;refine rt_nil ?_;refine Exists.intro ⟨false, h⟩ ?_;refine eX [] iN ?_;exact ⟨(.free rfl), (.free rfl), (.free rfl), (.free rfl), trivial⟩
       ·replace h := cond_f h b7;refine sk ?_;refine sk ?_;refine pF (.sc (.bool false)) ?_;refine m1 ?_;refine sk ?_;refine sk ?_;refine pF (.sc (.bool false)) ?_;refine rt_nil ?_;refine Exists.intro ⟨false, h⟩ ?_;refine eX [] iN ?_;exact ⟨(.free rfl), (.free rfl), (.free rfl), (.free rfl), trivial⟩
     ·replace h := cond_f h b4;refine m1 ?_;refine so (st_gtr rfl rfl rfl) ?_;refine pG ?_;refine m1 ?_;refine s_split (t := 19) rfl (fun b9 => ?_) (fun b9 => ?_)
      ·replace h := cond_t h b9;refine m1 ?_;refine so (st_lss rfl rfl rfl) ?_;refine m1 ?_;refine s_split (t := 22) rfl (fun b10 => ?_) (fun b10 => ?_)
       ·replace h := cond_t h b10;refine sk ?_;refine sk ?_;refine pT (.sc (.bool true)) ?_;refine pU ?_;refine m1 ?_;refine m1 ?_;refine so (st_neI rfl rfl rfl) ?_;refine pU ?_;refine m1 ?_;refine s_split (t := 31) rfl (fun b11 => ?_) (fun b11 => ?_)
        ·replace h := cond_t h b11;refine m1 ?_;refine so (st_neI rfl rfl rfl) ?_;refine pU ?_;refine rt_nil ?_;refine Exists.intro ⟨!decide (x2 = 95), h⟩ ?_;refine eX [] iN ?_;exact ⟨(.free rfl), (.free rfl), (.free rfl), (.free rfl), trivial⟩
        ·replace h := cond_f h b11;refine sk ?_;refine sk ?_;refine pF (.sc (.bool false)) ?_;refine rt_nil ?_;refine Exists.intro ⟨false, h⟩ ?_;refine eX [] iN ?_;exact ⟨(.free rfl), (.free rfl), (.free rfl), (.free rfl), trivial⟩
       ·replace h := cond_f h b10;refine m1 ?_;refine so (st_gtr rfl rfl rfl) ?_;refine pG ?_;refine pU ?_;refine m1 ?_;refine s_split (t := 27) rfl (fun b12 => ?_) (fun b12 => ?_)
        ·replace h := cond_t h b12;refine m1 ?_;refine so (st_neI rfl rfl rfl) ?_;refine pU ?_;refine m1 ?_;refine s_split (t := 31) rfl (fun b13 => ?_) (fun b13 => ?_)
         ·replace h := cond_t h b13;refine m1 ?_;refine so (st_neI rfl rfl rfl) ?_;refine pU ?_;refine rt_nil ?_;refine Exists.intro ⟨!decide (x2 = 95), h⟩ ?_;refine eX [] iN ?_;exact ⟨(.free rfl), (.free rfl), (.free rfl), (.free rfl), trivial⟩
         ·replace h := cond_f h b13;refine sk ?_;refine sk ?_;refine pF (.sc (.bool false)) ?_;refine rt_nil ?_;refine Exists.intro ⟨false, h⟩ ?_;refine eX [] iN ?_;exact ⟨(.free rfl), (.free rfl), (.free rfl), (.free rfl), trivial⟩
        ·replace h := cond_f h b12;refine sk ?_;refine sk ?_;refine pF (.sc (.bool false)) ?_;refine m1 ?_;refine sk ?_;refine sk ?_;refine pF (.sc (.bool false)) ?_;refine rt_nil ?_;refine Exists.intro ⟨false, h⟩ ?_;refine eX [] iN ?_;exact ⟨(.free rfl), (.free rfl), (.free rfl), (.free rfl), trivial⟩
      ·replace h := cond_f h b9;(iterate 6 refine sk ?_);refine pF (.sc (.bool false)) ?_;refine m1 ?_;refine sk ?_;refine sk ?_;refine pF (.sc (.bool false)) ?_;refine m1 ?_;refine sk ?_;refine sk ?_;refine pF (.sc (.bool false)) ?_;refine rt_nil ?_;refine Exists.intro ⟨false, h⟩ ?_;refine eX [] iN ?_;exact ⟨(.free rfl), (.free rfl), (.free rfl), (.free rfl), trivial⟩
    ·rintro ⟨j2_0, h⟩;replace h : i_LabelOk_j2 v1_0 (i_LabelOk_l1 p0 f1) j2_0 = some r0 := h;unfold i_LabelOk_j2 at h;show Tri _ _ _ (inv_i_LabelOk_2 p0 v1_0 j2_0);refine tri_cond rfl (fun c4 => ?_) (fun c4 => ?_)
     ·replace h := cond_t h c4;refine tri_sr ?_;refine n2 (.sc (.bool false)) ?_;refine rt_nil ?_;refine tri_ret ?_;have e0 := (some1 h); subst e0;exact eY [] (rvC (resTmp rfl) rvN) iN (.free rfl)
     ·replace h := cond_f h c4;refine tri_skip ?_;refine tri_region ?_;refine grd_elim h fun g5 h => ?_;refine ai g5 ?_;refine m1 ?_;refine rt_nil ?_;refine Exists.intro ⟨(f1, v1_0 + 1), h⟩ (And.intro (Nat.lt_succ_self _) ?_);refine eX [] iN ?_;exact ⟨(.free rfl), (.free rfl), (.free rfl), trivial⟩
   ·replace h := cond_f h c1;refine tri_exit ?_;refine Exists.intro ⟨(), h⟩ ?_;refine eX [] iN ?_;exact ⟨(.free rfl), trivial⟩
 ·rintro ⟨u, h⟩;replace h : i_LabelOk_j0 p0 = some r0 := h;unfold i_LabelOk_j0 at h;show Tri _ _ _ (inv_i_LabelOk_0 p0);refine tri_sr ?_;refine m1 ?_;refine so (st_lenS rfl rfl iss9) ?_;refine so (st_geq rfl rfl rfl) ?_;refine m1 ?_;refine s_split (t := 39) rfl (fun b1 => ?_) (fun b1 => ?_)
  ·replace h := cond_t h b1;refine m1 ?_;refine so (st_lenS rfl rfl iss9) ?_;refine so (st_leq rfl rfl rfl) ?_;refine pU ?_;refine m2 ?_;refine rt_nil ?_;refine tri_ret ?_;have e0 := (some1 h); subst e0;exact eY [] (rvC (resTmp rfl) rvN) iN (.free rfl)
  ·replace h := cond_f h b1;(iterate 3 refine sk ?_);refine pF (.sc (.bool false)) ?_;refine m2 ?_;refine rt_nil ?_;refine tri_ret ?_;have e0 := (some1 h); subst e0;exact eY [] (rvC (resTmp rfl) rvN) iN (.free rfl)

/- impl.NameOk$1 -/

theorem wi_NameOk_1 (p0 : ByteArray) (r0 : Bool) (h : i_NameOk_1 p0 = some r0) : Runs Tryz.prog 174 [.sc (.string p0)] [] (.sc (.bool r0)) [] := by
 unfold i_NameOk_1 at h;refine runsR [.tmp 2] Tryz.func174 rfl rfl rfl rfl ?_;rw [Tryz.ntmps174];refine tri_sr ?_;refine n2 (.sc (.bool false)) ?_;refine rt_nil ?_;refine tri_sr ?_;refine m1 ?_;refine bnd1_elim h fun x1 q2 h => ?_;refine cS cl175 (wi_LabelOk p0 x1 q2) (aF .nil) ?_;refine so (st_not rfl rfl) ?_;refine m2 ?_;refine rt_nil ?_;refine tri_ret ?_;have e0 := (some1 h); subst e0;exact eY [] (rvC (resTmp rfl) rvN) iN (.free rfl)

/- impl.NameOk -/

theorem wi_NameOk (p0 : ByteArray) (r0 : Bool) (h : i_NameOk p0 = some r0) : Runs Tryz.prog 148 [.sc (.string p0)] [] (.sc (.bool r0)) [] := by
 unfold i_NameOk at h;refine runsR [.tmp 2] Tryz.func148 rfl rfl rfl rfl ?_;rw [Tryz.ntmps148];refine tri_sr ?_;refine n2 (.sc (.bool false)) ?_;refine rt_nil ?_;refine tri_sr ?_;refine m1 ?_;refine bnd1_elim h fun x1 q2 h => ?_;refine cO [] (.ref (5, 0) 0 x1.length) cl141 (wi_Labels p0 x1 q2) (aF .nil) ⟨(allSc_map strV_sc), trivial⟩ ?_;refine m2 ?_;refine rt_nil ?_;refine tri_sr ?_;refine m1 ?_;refine so (st_lenS rfl rfl iss9) ?_;refine so (st_leq rfl rfl rfl) ?_;refine m1 ?_;refine s_split (t := 9) rfl (fun b3 => ?_) (fun b3 => ?_)
 ·replace h := cond_t h b3;refine m1 ?_;refine s_len (m := x1.length) rfl sl112 rfl rfl rfl rfl ?_;refine so (st_leq rfl rfl rfl) ?_;refine pU ?_;refine m1 ?_;refine s_split (t := 14) rfl (fun b4 => ?_) (fun b4 => ?_)
  ·replace h := cond_t h b4;refine m1 ?_;refine bnd1_elim h fun x5 q6 h => ?_;refine cV [(5, 0)] (.sc (.bool x5)) cl173 (wslices_ContainsFunc_string x1 174 [] rfl cl174 (fun a0 => i_NameOk_1 a0) (fun a0 v0 hv => wi_NameOk_1 a0 v0 hv) x5 q6) (.cons (lendL rfl (.head _) rfl strV_free strV_len) (.cons relFn0 .nil)) ?_;refine so (st_not rfl rfl) ?_;refine pU ?_;refine m2 ?_;refine rt_nil ?_;refine tri_ret ?_;have e0 := (some1 h); subst e0;exact eY [] (rvC (resTmp rfl) rvN) iN (.free rfl)
  ·replace h := cond_f h b4;(iterate 3 refine sk ?_);refine pF (.sc (.bool false)) ?_;refine m2 ?_;refine rt_nil ?_;refine tri_ret ?_;have e0 := (some1 h); subst e0;exact eY [] (rvC (resTmp rfl) rvN) iN (.free rfl)
 ·replace h := cond_f h b3;(iterate 3 refine sk ?_);refine pF (.sc (.bool false)) ?_;refine m1 ?_;(iterate 3 refine sk ?_);refine pF (.sc (.bool false)) ?_;refine m2 ?_;refine rt_nil ?_;refine tri_ret ?_;have e0 := (some1 h); subst e0;exact eY [] (rvC (resTmp rfl) rvN) iN (.free rfl)

/- impl.isTtl -/

theorem wi_isTtl (p0 : Int) (r0 : Bool) (h : i_isTtl p0 = some r0) : Runs Tryz.prog 149 [.sc (.int .i64 p0)] [] (.sc (.bool r0)) [] := by
 unfold i_isTtl at h;refine runsR [.tmp 2] Tryz.func149 rfl rfl rfl rfl ?_;rw [Tryz.ntmps149];refine tri_sr ?_;refine n2 (.sc (.bool false)) ?_;refine rt_nil ?_;refine tri_sr ?_;refine m1 ?_;refine so (st_geq rfl rfl rfl) ?_;refine m1 ?_;refine s_split (t := 5) rfl (fun b1 => ?_) (fun b1 => ?_)
 ·replace h := cond_t h b1;refine m1 ?_;refine so (st_leq rfl rfl rfl) ?_;refine pU ?_;refine m2 ?_;refine rt_nil ?_;refine tri_ret ?_;have e0 := (some1 h); subst e0;exact eY [] (rvC (resTmp rfl) rvN) iN (.free rfl)
 ·replace h := cond_f h b1;refine sk ?_;refine sk ?_;refine pF (.sc (.bool false)) ?_;refine m2 ?_;refine rt_nil ?_;refine tri_ret ?_;have e0 := (some1 h); subst e0;exact eY [] (rvC (resTmp rfl) rvN) iN (.free rfl)

/- impl.isFour -/

theorem wi_isFour (p0 : Int) (r0 : Bool) (h : i_isFour p0 = some r0) : Runs Tryz.prog 150 [.sc (.int .i64 p0)] [] (.sc (.bool r0)) [] := by
 unfold i_isFour at h;refine runsR [.tmp 2] Tryz.func150 rfl rfl rfl rfl ?_;rw [Tryz.ntmps150];refine tri_sr ?_;refine n2 (.sc (.bool false)) ?_;refine rt_nil ?_;refine tri_sr ?_;refine m1 ?_;refine so (st_geq rfl rfl rfl) ?_;refine m1 ?_;refine s_split (t := 5) rfl (fun b1 => ?_) (fun b1 => ?_)
 ·replace h := cond_t h b1;refine m1 ?_;refine so (st_leq rfl rfl rfl) ?_;refine pU ?_;refine m2 ?_;refine rt_nil ?_;refine tri_ret ?_;have e0 := (some1 h); subst e0;exact eY [] (rvC (resTmp rfl) rvN) iN (.free rfl)
 ·replace h := cond_f h b1;refine sk ?_;refine sk ?_;refine pF (.sc (.bool false)) ?_;refine m2 ?_;refine rt_nil ?_;refine tri_ret ?_;have e0 := (some1 h); subst e0;exact eY [] (rvC (resTmp rfl) rvN) iN (.free rfl)

/- impl.isText -/
def inv_i_isText_2 (p0 : ByteArray) (v1_0 : Int) (j2_0 : Bool) : St := mkT 23 [(0, .sc (.string p0)), (5, .sc (.int .i64 (p0.size : Int))), (6, .sc (.int .i64 v1_0)), (18, .sc (.bool j2_0))] []
def inv_i_isText_1 (p0 : ByteArray) (v1_0 : Int) : St := mkT 23 [(0, .sc (.string p0)), (5, .sc (.int .i64 (p0.size : Int))), (6, .sc (.int .i64 v1_0))] []
def inv_i_isText_0 (p0 : ByteArray) : St := mkT 23 [(0, .sc (.string p0))] []
theorem wi_isText (p0 : ByteArray) (r0 : Bool) (h : i_isText p0 = some r0) : Runs Tryz.prog 151 [.sc (.string p0)] [] (.sc (.bool r0)) [] := by
 unfold i_isText at h;refine runsR [.tmp 2] Tryz.func151 rfl rfl rfl rfl ?_;rw [Tryz.ntmps151];refine tri_sr ?_;refine n2 (.sc (.bool false)) ?_;refine rt_nil ?_;refine tri_cutI (ι := { p : Unit // i_isText_j0 p0 = some r0 }) (fun p => inv_i_isText_0 p0) ?_ ?_
 ·refine tri_sr ?_;refine m1 ?_;refine so (st_lenS rfl rfl iss9) ?_;refine n1 (.sc (.int .i64 0)) ?_;refine rt_nil ?_;refine tri_block ?_;refine tri_loop (ι := { p : Nat × Int // i_isText_l1 p0 p.1 p.2 = some r0 }) (fun p => inv_i_isText_1 p0 p.1.2) (fun p => p.1.1) ⟨(fuel0, 0), h⟩ ?_ ?_
  ·refine eX [] iN ?_;exact ⟨(.free rfl), (.free rfl), (.free rfl), trivial⟩
  ·rintro ⟨⟨f1, v1_0⟩, h⟩;replace h : i_isText_l1 p0 f1 v1_0 = some r0 := h;cases f1 with
   | zero => cases h
   | succ f1 =>
   rw [i_isText_l1] at h;show Tri _ _ _ (inv_i_isText_1 p0 v1_0);refine tri_sr ?_;refine so (st_lss rfl rfl rfl) ?_;refine rt_nil ?_;refine tri_seq ?_;refine tri_cond rfl (fun c1 => ?_) (fun c1 => ?_)
   ·replace h := cond_t h c1;refine tri_skip ?_;refine tri_seq ?_;refine tri_block ?_;refine tri_sr ?_;refine m1 ?_;refine m2 ?_;refine rt_nil ?_;refine tri_cutI (ι := { p : Bool // i_isText_j2 v1_0 (i_isText_l1 p0 f1) p = some r0 }) (fun p => inv_i_isText_2 p0 v1_0 p.1) ?_ ?_
    ·refine tri_region ?_;refine m1 ?_;refine m1 ?_;refine bnd1_elim h fun x2 q3 h => ?_;refine s_idxS rfl rfl rfl iss9 q3 rfl rfl rfl ?_;refine so (st_lss rfl rfl rfl) ?_;refine m1 ?_;refine s_split (t := 13) rfl (fun b4 => ?_) (fun b4 => ?_)
     ·replace h := cond_t h b4;(iterate 4 refine sk ?_);refine pT (.sc (.bool true)) ?_;refine rt_nil ?_;refine Exists.intro ⟨true, h⟩ ?_;refine eX [] iN ?_;exact ⟨(.free rfl), (.free rfl), (.free rfl), (.free rfl), trivial⟩
     ·replace h := cond_f h b4;refine m1 ?_;refine m1 ?_;refine bnd1_elim h fun x5 q6 h => ?_;refine s_idxS rfl rfl rfl iss9 q6 rfl rfl rfl ?_;refine so (st_gtr rfl rfl rfl) ?_;refine pG ?_;refine rt_nil ?_;refine Exists.intro ⟨decide (126 < x5), h⟩ ?_;refine eX [] iN ?_;exact ⟨(.free rfl), (.free rfl), (.free rfl), (.free rfl), trivial⟩
    ·rintro ⟨j2_0, h⟩;replace h : i_isText_j2 v1_0 (i_isText_l1 p0 f1) j2_0 = some r0 := h;unfold i_isText_j2 at h;show Tri _ _ _ (inv_i_isText_2 p0 v1_0 j2_0);refine tri_cond rfl (fun c2 => ?_) (fun c2 => ?_)
     ·replace h := cond_t h c2;refine tri_sr ?_;refine n2 (.sc (.bool false)) ?_;refine rt_nil ?_;refine tri_ret ?_;have e0 := (some1 h); subst e0;exact eY [] (rvC (resTmp rfl) rvN) iN (.free rfl)
     ·replace h := cond_f h c2;refine tri_skip ?_;refine tri_region ?_;refine grd_elim h fun g3 h => ?_;refine ai g3 ?_;refine m1 ?_;refine rt_nil ?_;refine Exists.intro ⟨(f1, v1_0 + 1), h⟩ (And.intro (Nat.lt_succ_self _) ?_);refine eX [] iN ?_;exact ⟨(.free rfl), (.free rfl), (.free rfl), trivial⟩
   ·replace h := cond_f h c1;refine tri_exit ?_;refine Exists.intro ⟨(), h⟩ ?_;refine eX [] iN ?_;exact ⟨(.free rfl), trivial⟩
 ·rintro ⟨u, h⟩;replace h : i_isText_j0 p0 = some r0 := h;unfold i_isText_j0 at h;show Tri _ _ _ (inv_i_isText_0 p0);refine tri_sr ?_;refine m1 ?_;refine so (st_lenS rfl rfl iss9) ?_;refine so (st_leq rfl rfl rfl) ?_;refine m2 ?_;refine rt_nil ?_;refine tri_ret ?_;have e0 := (some1 h); subst e0;exact eY [] (rvC (resTmp rfl) rvN) iN (.free rfl)

/- impl.RecordOk -/
def inv_i_RecordOk_1 (p0 : Rec) (j1_0 : Bool) : St := mkT 76 [(1, .ptr (1, 0) 0 0), (14, .sc (.int .i64 p0.ty)), (30, .sc (.bool j1_0))] [((1, 0), some ⟨48, 6, [[.sc (.string p0.name), .sc (.int .i64 p0.ty), .sc (.int .i64 p0.ttl), .sc (.int .i64 p0.n), .sc (.string p0.host), .sc (.string p0.text)]], false, true⟩)]
def inv_i_RecordOk_0 (p0 : Rec) (j0_0 : Bool) : St := mkT 76 [(1, .ptr (1, 0) 0 0), (12, .sc (.bool j0_0))] [((1, 0), some ⟨48, 6, [[.sc (.string p0.name), .sc (.int .i64 p0.ty), .sc (.int .i64 p0.ttl), .sc (.int .i64 p0.n), .sc (.string p0.host), .sc (.string p0.text)]], false, true⟩)]
theorem wi_RecordOk (p0 : Rec) (r0 : Bool) (h : i_RecordOk p0 = some r0) : Runs Tryz.prog 107 [.agg (recV p0)] [] (.sc (.bool r0)) [] := by
 unfold i_RecordOk at h;refine runsR [.tmp 2] Tryz.func107 rfl rfl rfl rfl ?_;rw [Tryz.ntmps107];refine tri_sr ?_;refine s_box rfl rfl rfl rfl rfl rfl rfl ?_;refine n2 (.sc (.bool false)) ?_;refine rt_nil ?_;refine tri_seq ?_;refine tri_cutI (ι := { p : Bool // i_RecordOk_j0 p0 p = some r0 }) (fun p => inv_i_RecordOk_0 p0 p.1) ?_ ?_
 ·refine tri_region ?_;refine fa fd48_0 ?_;refine ld ty9 ?_;refine bnd1_elim h fun x1 q2 h => ?_;refine cS cl148 (wi_NameOk p0.name x1 q2) (aF .nil) ?_;refine so (st_not rfl rfl) ?_;refine m1 ?_;refine s_split (t := 7) rfl (fun b3 => ?_) (fun b3 => ?_)
  ·replace h := cond_t h b3;(iterate 4 refine sk ?_);refine pT (.sc (.bool true)) ?_;refine rt_nil ?_;refine Exists.intro ⟨true, h⟩ ?_;refine eX [((1, 0), _, some (1, 0))] (iF rfl iN) ?_;exact ⟨(.ptr rfl), (.free rfl), trivial⟩
  ·replace h := cond_f h b3;refine fa fd48_2 ?_;refine ld ty3 ?_;refine bnd1_elim h fun x4 q5 h => ?_;refine cS cl149 (wi_isTtl p0.ttl x4 q5) (aF .nil) ?_;refine so (st_not rfl rfl) ?_;refine pG ?_;refine rt_nil ?_;refine Exists.intro ⟨!x4, h⟩ ?_;refine eX [((1, 0), _, some (1, 0))] (iF rfl iN) ?_;exact ⟨(.ptr rfl), (.free rfl), trivial⟩
 ·rintro ⟨j0_0, h⟩;replace h : i_RecordOk_j0 p0 j0_0 = some r0 := h;unfold i_RecordOk_j0 at h;show Tri _ _ _ (inv_i_RecordOk_0 p0 j0_0);refine tri_cond rfl (fun c1 => ?_) (fun c1 => ?_)
  ·replace h := cond_t h c1;refine tri_sr ?_;refine n2 (.sc (.bool false)) ?_;refine rt_nil ?_;refine tri_ret ?_;have e0 := (some1 h); subst e0;exact eY [] (rvC (resTmp rfl) rvN) iN (.free rfl)
  ·replace h := cond_f h c1;refine tri_skip ?_;refine tri_seq ?_;refine tri_sr ?_;refine fa fd48_1 ?_;refine ld ty3 ?_;refine rt_nil ?_;refine tri_block ?_;refine tri_sr ?_;refine so (st_eqI rfl rfl rfl) ?_;refine m2 ?_;refine rt_nil ?_;refine tri_cond rfl (fun c2 => ?_) (fun c2 => ?_)
   ·replace h := cond_t h c2;refine tri_sr ?_;refine fa fd48_3 ?_;refine ld ty3 ?_;refine bnd1_elim h fun x3 q4 h => ?_;refine cS cl150 (wi_isFour p0.n x3 q4) (aF .nil) ?_;refine m1 ?_;refine s_split (t := 20) rfl (fun b5 => ?_) (fun b5 => ?_)
    ·replace h := cond_t h b5;refine fa fd48_4 ?_;refine ld ty9 ?_;refine so (st_eqS rfl rfl rfl) ?_;refine pU ?_;refine m1 ?_;refine s_split (t := 25) rfl (fun b6 => ?_) (fun b6 => ?_)
     ·replace h := cond_t h b6;refine fa fd48_5 ?_;refine ld ty9 ?_;refine so (st_eqS rfl rfl rfl) ?_;refine pU ?_;refine m2 ?_;refine rt_nil ?_;refine tri_ret ?_;have e0 := (some1 h); subst e0;exact eY [] (rvC (resTmp rfl) rvN) iN (.free rfl)
     ·replace h := cond_f h b6;(iterate 3 refine sk ?_);refine pF (.sc (.bool false)) ?_;refine m2 ?_;refine rt_nil ?_;refine tri_ret ?_;have e0 := (some1 h); subst e0;exact eY [] (rvC (resTmp rfl) rvN) iN (.free rfl)
    ·replace h := cond_f h b5;(iterate 3 refine sk ?_);refine pF (.sc (.bool false)) ?_;refine m1 ?_;(iterate 3 refine sk ?_);refine pF (.sc (.bool false)) ?_;refine m2 ?_;refine rt_nil ?_;refine tri_ret ?_;have e0 := (some1 h); subst e0;exact eY [] (rvC (resTmp rfl) rvN) iN (.free rfl)
   ·replace h := cond_f h c2;refine tri_cutI (ι := { p : Bool // i_RecordOk_j1 p0 p = some r0 }) (fun p => inv_i_RecordOk_1 p0 p.1) ?_ ?_
    ·refine tri_sr ?_;refine so (st_eqI rfl rfl rfl) ?_;refine m2 ?_;refine rt_nil ?_;refine tri_cond rfl (fun c7 => ?_) (fun c7 => ?_)
     ·replace h := cond_t h c7;refine tri_skip ?_;refine Exists.intro ⟨decide (p0.ty = 2), h⟩ ?_;refine eX [((1, 0), _, some (1, 0))] (iF rfl iN) ?_;exact ⟨(.ptr rfl), (.free rfl), (.free rfl), trivial⟩
     ·replace h := cond_f h c7;refine tri_region ?_;refine so (st_eqI rfl rfl rfl) ?_;refine m2 ?_;refine rt_nil ?_;refine Exists.intro ⟨decide (p0.ty = 5), h⟩ ?_;refine eX [((1, 0), _, some (1, 0))] (iF rfl iN) ?_;exact ⟨(.ptr rfl), (.free rfl), (.free rfl), trivial⟩
    ·rintro ⟨j1_0, h⟩;replace h : i_RecordOk_j1 p0 j1_0 = some r0 := h;unfold i_RecordOk_j1 at h;show Tri _ _ _ (inv_i_RecordOk_1 p0 j1_0);refine tri_cond rfl (fun c7 => ?_) (fun c7 => ?_)
     ·replace h := cond_t h c7;refine tri_sr ?_;refine fa fd48_3 ?_;refine ld ty3 ?_;refine so (st_eqI rfl rfl rfl) ?_;refine m1 ?_;refine s_split (t := 36) rfl (fun b8 => ?_) (fun b8 => ?_)
      ·replace h := cond_t h b8;refine fa fd48_4 ?_;refine ld ty9 ?_;refine bnd1_elim h fun x9 q10 h => ?_;refine cS cl148 (wi_NameOk p0.host x9 q10) (aF .nil) ?_;refine pU ?_;refine m1 ?_;refine s_split (t := 41) rfl (fun b11 => ?_) (fun b11 => ?_)
       ·replace h := cond_t h b11;refine fa fd48_5 ?_;refine ld ty9 ?_;refine so (st_eqS rfl rfl rfl) ?_;refine pU ?_;refine m2 ?_;refine rt_nil ?_;refine tri_ret ?_;have e0 := (some1 h); subst e0;exact eY [] (rvC (resTmp rfl) rvN) iN (.free rfl)
       ·replace h := cond_f h b11;(iterate 3 refine sk ?_);refine pF (.sc (.bool false)) ?_;refine m2 ?_;refine rt_nil ?_;refine tri_ret ?_;have e0 := (some1 h); subst e0;exact eY [] (rvC (resTmp rfl) rvN) iN (.free rfl)
      ·replace h := cond_f h b8;(iterate 3 refine sk ?_);refine pF (.sc (.bool false)) ?_;refine m1 ?_;(iterate 3 refine sk ?_);refine pF (.sc (.bool false)) ?_;refine m2 ?_;refine rt_nil ?_;refine tri_ret ?_;have e0 := (some1 h); subst e0;exact eY [] (rvC (resTmp rfl) rvN) iN (.free rfl)
     ·replace h := cond_f h c7;refine tri_sr ?_;refine so (st_eqI rfl rfl rfl) ?_;refine m2 ?_;refine rt_nil ?_;refine tri_cond rfl (fun c12 => ?_) (fun c12 => ?_)
      ·replace h := cond_t h c12;refine tri_sr ?_;refine fa fd48_3 ?_;refine ld ty3 ?_;refine bnd1_elim h fun x13 q14 h => ?_;refine cS cl149 (wi_isTtl p0.n x13 q14) (aF .nil) ?_;refine m1 ?_;refine s_split (t := 51) rfl (fun b15 => ?_) (fun b15 => ?_)
       ·replace h := cond_t h b15;refine fa fd48_4 ?_;refine ld ty9 ?_;refine bnd1_elim h fun x16 q17 h => ?_;refine cS cl148 (wi_NameOk p0.host x16 q17) (aF .nil) ?_;refine pU ?_;refine m1 ?_;refine s_split (t := 56) rfl (fun b18 => ?_) (fun b18 => ?_)
        ·replace h := cond_t h b18;refine fa fd48_5 ?_;refine ld ty9 ?_;refine so (st_eqS rfl rfl rfl) ?_;refine pU ?_;refine m2 ?_;refine rt_nil ?_;refine tri_ret ?_;have e0 := (some1 h); subst e0;exact eY [] (rvC (resTmp rfl) rvN) iN (.free rfl)
        ·replace h := cond_f h b18;(iterate 3 refine sk ?_);refine pF (.sc (.bool false)) ?_;refine m2 ?_;refine rt_nil ?_;refine tri_ret ?_;have e0 := (some1 h); subst e0;exact eY [] (rvC (resTmp rfl) rvN) iN (.free rfl)
       ·replace h := cond_f h b15;(iterate 3 refine sk ?_);refine pF (.sc (.bool false)) ?_;refine m1 ?_;(iterate 3 refine sk ?_);refine pF (.sc (.bool false)) ?_;refine m2 ?_;refine rt_nil ?_;refine tri_ret ?_;have e0 := (some1 h); subst e0;exact eY [] (rvC (resTmp rfl) rvN) iN (.free rfl)
      ·replace h := cond_f h c12;refine tri_sr ?_;refine so (st_eqI rfl rfl rfl) ?_;refine m2 ?_;refine rt_nil ?_;refine tri_cond rfl (fun c19 => ?_) (fun c19 => ?_)
       ·replace h := cond_t h c19;refine tri_sr ?_;refine fa fd48_3 ?_;refine ld ty3 ?_;refine so (st_eqI rfl rfl rfl) ?_;refine m1 ?_;refine s_split (t := 66) rfl (fun b20 => ?_) (fun b20 => ?_)
        ·replace h := cond_t h b20;refine fa fd48_4 ?_;refine ld ty9 ?_;refine so (st_eqS rfl rfl rfl) ?_;refine pU ?_;refine m1 ?_;refine s_split (t := 71) rfl (fun b21 => ?_) (fun b21 => ?_)
         ·replace h := cond_t h b21;refine fa fd48_5 ?_;refine ld ty9 ?_;refine bnd1_elim h fun x22 q23 h => ?_;refine cS cl151 (wi_isText p0.text x22 q23) (aF .nil) ?_;refine pU ?_;refine m2 ?_;refine rt_nil ?_;refine tri_ret ?_;have e0 := (some1 h); subst e0;exact eY [] (rvC (resTmp rfl) rvN) iN (.free rfl)
         ·replace h := cond_f h b21;(iterate 3 refine sk ?_);refine pF (.sc (.bool false)) ?_;refine m2 ?_;refine rt_nil ?_;refine tri_ret ?_;have e0 := (some1 h); subst e0;exact eY [] (rvC (resTmp rfl) rvN) iN (.free rfl)
        ·replace h := cond_f h b20;(iterate 3 refine sk ?_);refine pF (.sc (.bool false)) ?_;refine m1 ?_;(iterate 3 refine sk ?_);refine pF (.sc (.bool false)) ?_;refine m2 ?_;refine rt_nil ?_;refine tri_ret ?_;have e0 := (some1 h); subst e0;exact eY [] (rvC (resTmp rfl) rvN) iN (.free rfl)
       ·replace h := cond_f h c19;refine tri_skip ?_;refine tri_sr ?_;refine n2 (.sc (.bool false)) ?_;refine rt_nil ?_;refine tri_ret ?_;have e0 := (some1 h); subst e0;exact eY [] (rvC (resTmp rfl) rvN) iN (.free rfl)

/- impl.nameText -/

theorem wi_nameText (p0 : ByteArray) (r0 : ByteArray) (h : i_nameText p0 = some r0) : Runs Tryz.prog 108 [.sc (.string p0)] [] (.sc (.string r0)) [] := by
 unfold i_nameText at h;refine runsR [.tmp 2] Tryz.func108 rfl rfl rfl rfl ?_;rw [Tryz.ntmps108];refine tri_sr ?_;refine n2 (.sc (.string (⟨#[]⟩ : ByteArray))) ?_;refine rt_nil ?_;refine tri_seq ?_;refine tri_sr ?_;refine m1 ?_;refine so (st_eqS rfl rfl rfl) ?_;refine rt_nil ?_;refine tri_cond rfl (fun c1 => ?_) (fun c1 => ?_)
 ·replace h := cond_t h c1;refine tri_sr ?_;refine n2 (.sc (.string (⟨#[46]⟩ : ByteArray))) ?_;refine rt_nil ?_;refine tri_ret ?_;have e0 := (some1 h); subst e0;exact eY [] (rvC (resTmp rfl) rvN) iN (.free rfl)
 ·replace h := cond_f h c1;refine tri_skip ?_;refine tri_sr ?_;refine m1 ?_;refine m2 ?_;refine rt_nil ?_;refine tri_ret ?_;have e0 := (some1 h); subst e0;exact eY [] (rvC (resTmp rfl) rvN) iN (.free rfl)

/- impl.NumText -/
def inv_i_NumText_0 (p0 : Int) (j0_0 : Bool) : St := mkT 41 [(0, .sc (.int .i64 p0)), (3, .sc (.bool j0_0))] []
theorem wi_NumText_r : ∀ (fr : Nat) (p0 : Int) (r0 : ByteArray) (h : i_NumText_r fr p0 = some r0), Runs Tryz.prog 109 [.sc (.int .i64 p0)] [] (.sc (.string r0)) []
 | 0, p0, r0, h => by rw [i_NumText_r] at h; cases h
 | fr + 1, p0, r0, h => by
  rw [i_NumText_r] at h
  refine runsR [.tmp 2] Tryz.func109 rfl rfl rfl rfl ?_
  rw [Tryz.ntmps109]
  refine tri_sr ?_
  refine s_mv (.inr rfl) (v := .sc (.string (⟨#[]⟩ : ByteArray))) rfl rfl rfl rfl ?_
  refine rt_nil ?_
  refine tri_seq ?_
  refine tri_block ?_
  refine tri_cutI (ι := { p : Bool // i_NumText_j0 (i_NumText_r fr) p0 p = some r0 }) (fun p => inv_i_NumText_0 p0 p.1) ?_ ?_
  · skip
    refine tri_region ?_
    refine m1 ?_
    refine s_of (st_lss rfl rfl rfl) rfl rfl rfl rfl ?_
    refine m1 ?_
    refine s_split (t := 6) rfl (fun b1 => ?_) (fun b1 => ?_)
    · replace h := cond_t h b1
      refine m1 ?_
      refine s_of (st_gtr rfl rfl rfl) rfl rfl rfl rfl ?_
      refine s_pickT rfl rfl (by conv => lhs; whnf) rfl rfl rfl ?_
      refine m2 ?_
      refine rt_nil ?_
      refine Exists.intro ⟨decide ((-10) < p0), h⟩ ?_
      refine entX [] [] trivial trivial rfl rfl ?_
      exact ⟨(.free rfl), (.free rfl), trivial⟩
    · replace h := cond_f h b1
      refine s_skip rfl rfl rfl ?_
      refine s_skip rfl rfl rfl ?_
      refine s_pickF rfl rfl (v := .sc (.bool false)) rfl rfl rfl rfl ?_
      refine m2 ?_
      refine rt_nil ?_
      refine Exists.intro ⟨false, h⟩ ?_
      refine entX [] [] trivial trivial rfl rfl ?_
      exact ⟨(.free rfl), (.free rfl), trivial⟩
  · rintro ⟨j0_0, h⟩
    replace h : i_NumText_j0 (i_NumText_r fr) p0 j0_0 = some r0 := h
    unfold i_NumText_j0 at h
    show Tri _ _ _ (inv_i_NumText_0 p0 j0_0)
    refine tri_cond rfl (fun c1 => ?_) (fun c1 => ?_)
    · replace h := cond_t h c1
      refine tri_sr ?_
      refine m1 ?_
      refine s_of (st_neg rfl rfl) rfl rfl rfl rfl ?_
      refine bnd1_elim h fun x2 q3 h => ?_
      refine s_callN (kb := []) (ns := []) (v := .sc (.string x2)) rfl rfl cl109 (wi_NumText_r fr (IntKind.i64.wrap (-p0)) x2 q3) rfl (.cons (.free rfl) .nil) trivial memNil .nil memNil rfl trivial memNil rfl rfl rfl rfl rfl rfl ?_
      refine grd_elim h fun g4 h => ?_
      refine s_of (st_catS g4 rfl rfl rfl) rfl rfl rfl rfl ?_
      refine m2 ?_
      refine rt_nil ?_
      refine tri_ret ?_
      have e0 := (some1 h); subst e0
      exact endY [] [] (rvC (resTmp rfl) rvN) trivial trivial rfl rfl rfl rfl (.free rfl)
    · replace h := cond_f h c1
      refine tri_sr ?_
      refine m1 ?_
      refine s_of (st_lss rfl rfl rfl) rfl rfl rfl rfl ?_
      refine m2 ?_
      refine rt_nil ?_
      refine tri_cond rfl (fun c5 => ?_) (fun c5 => ?_)
      · replace h := cond_t h c5
        refine tri_sr ?_
        refine m1 ?_
        refine s_of (st_quo rfl rfl rfl (by decide)) rfl rfl rfl rfl ?_
        refine bnd1_elim h fun x6 q7 h => ?_
        refine s_callN (kb := []) (ns := []) (v := .sc (.string x6)) rfl rfl cl109 (wi_NumText_r fr (IntKind.i64.wrap (Int.tdiv p0 10)) x6 q7) rfl (.cons (.free rfl) .nil) trivial memNil .nil memNil rfl trivial memNil rfl rfl rfl rfl rfl rfl ?_
        refine m1 ?_
        refine s_of (st_rem rfl rfl rfl (by decide)) rfl rfl rfl rfl ?_
        refine s_of (st_neg rfl rfl) rfl rfl rfl rfl ?_
        refine bnd1_elim h fun x8 q9 h => ?_
        refine s_callN (kb := []) (ns := []) (v := .sc (.string x8)) rfl rfl cl109 (wi_NumText_r fr (IntKind.i64.wrap (-(Int.tmod p0 10))) x8 q9) rfl (.cons (.free rfl) .nil) trivial memNil .nil memNil rfl trivial memNil rfl rfl rfl rfl rfl rfl ?_
        refine grd_elim h fun g10 h => ?_
        refine s_of (st_catS g10 rfl rfl rfl) rfl rfl rfl rfl ?_
        refine m2 ?_
        refine rt_nil ?_
        refine tri_ret ?_
        have e0 := (some1 h); subst e0
        exact endY [] [] (rvC (resTmp rfl) rvN) trivial trivial rfl rfl rfl rfl (.free rfl)
      · replace h := cond_f h c5
        refine tri_sr ?_
        refine m1 ?_
        refine s_of (st_lss rfl rfl rfl) rfl rfl rfl rfl ?_
        refine m2 ?_
        refine rt_nil ?_
        refine tri_cond rfl (fun c11 => ?_) (fun c11 => ?_)
        · replace h := cond_t h c11
          refine tri_sr ?_
          refine m1 ?_
          refine grd_elim h fun g12 h => ?_
          refine s_addI rfl rfl rfl rfl g12 rfl rfl rfl ?_
          refine s_of (st_conv ik3 ik21 rfl rfl) rfl rfl rfl rfl ?_
          refine s_of (st_runeS ik21 iss9 rfl rfl) rfl rfl rfl rfl ?_
          refine m2 ?_
          refine rt_nil ?_
          refine tri_ret ?_
          have e0 := (some1 h); subst e0
          exact endY [] [] (rvC (resTmp rfl) rvN) trivial trivial rfl rfl rfl rfl (.free rfl)
        · replace h := cond_f h c11
          refine tri_skip ?_
          refine tri_sr ?_
          refine m1 ?_
          refine s_of (st_quo rfl rfl rfl (by decide)) rfl rfl rfl rfl ?_
          refine bnd1_elim h fun x13 q14 h => ?_
          refine s_callN (kb := []) (ns := []) (v := .sc (.string x13)) rfl rfl cl109 (wi_NumText_r fr (IntKind.i64.wrap (Int.tdiv p0 10)) x13 q14) rfl (.cons (.free rfl) .nil) trivial memNil .nil memNil rfl trivial memNil rfl rfl rfl rfl rfl rfl ?_
          refine m1 ?_
          refine s_of (st_rem rfl rfl rfl (by decide)) rfl rfl rfl rfl ?_
          refine grd_elim h fun g15 h => ?_
          refine s_addI rfl rfl rfl rfl g15 rfl rfl rfl ?_
          refine s_of (st_conv ik3 ik21 rfl rfl) rfl rfl rfl rfl ?_
          refine s_of (st_runeS ik21 iss9 rfl rfl) rfl rfl rfl rfl ?_
          refine grd_elim h fun g16 h => ?_
          refine s_of (st_catS g16 rfl rfl rfl) rfl rfl rfl rfl ?_
          refine m2 ?_
          refine rt_nil ?_
          refine tri_ret ?_
          have e0 := (some1 h); subst e0
          exact endY [] [] (rvC (resTmp rfl) rvN) trivial trivial rfl rfl rfl rfl (.free rfl)
theorem wi_NumText (p0 : Int) (r0 : ByteArray) (h : i_NumText p0 = some r0) : Runs Tryz.prog 109 [.sc (.int .i64 p0)] [] (.sc (.string r0)) [] := wi_NumText_r fuel0 p0 r0 h

/- impl.TypeText -/

theorem wi_TypeText (p0 : Int) (r0 : ByteArray) (h : i_TypeText p0 = some r0) : Runs Tryz.prog 110 [.sc (.int .i64 p0)] [] (.sc (.string r0)) [] := by
 unfold i_TypeText at h;refine runsR [.tmp 2] Tryz.func110 rfl rfl rfl rfl ?_;rw [Tryz.ntmps110];refine tri_sr ?_;refine n2 (.sc (.string (⟨#[]⟩ : ByteArray))) ?_;refine rt_nil ?_;refine tri_seq ?_;refine tri_sr ?_;refine m1 ?_;refine rt_nil ?_;refine tri_block ?_;refine tri_sr ?_;refine so (st_eqI rfl rfl rfl) ?_;refine m2 ?_;refine rt_nil ?_;refine tri_cond rfl (fun c1 => ?_) (fun c1 => ?_)
 ·replace h := cond_t h c1;refine tri_sr ?_;refine n2 (.sc (.string (⟨#[97, 100, 100, 114]⟩ : ByteArray))) ?_;refine rt_nil ?_;refine tri_ret ?_;have e0 := (some1 h); subst e0;exact eY [] (rvC (resTmp rfl) rvN) iN (.free rfl)
 ·replace h := cond_f h c1;refine tri_sr ?_;refine so (st_eqI rfl rfl rfl) ?_;refine m2 ?_;refine rt_nil ?_;refine tri_cond rfl (fun c2 => ?_) (fun c2 => ?_)
  ·replace h := cond_t h c2;refine tri_sr ?_;refine n2 (.sc (.string (⟨#[115, 101, 114, 118, 101, 114]⟩ : ByteArray))) ?_;refine rt_nil ?_;refine tri_ret ?_;have e0 := (some1 h); subst e0;exact eY [] (rvC (resTmp rfl) rvN) iN (.free rfl)
  ·replace h := cond_f h c2;refine tri_sr ?_;refine so (st_eqI rfl rfl rfl) ?_;refine m2 ?_;refine rt_nil ?_;refine tri_cond rfl (fun c3 => ?_) (fun c3 => ?_)
   ·replace h := cond_t h c3;refine tri_sr ?_;refine n2 (.sc (.string (⟨#[97, 108, 105, 97, 115]⟩ : ByteArray))) ?_;refine rt_nil ?_;refine tri_ret ?_;have e0 := (some1 h); subst e0;exact eY [] (rvC (resTmp rfl) rvN) iN (.free rfl)
   ·replace h := cond_f h c3;refine tri_sr ?_;refine so (st_eqI rfl rfl rfl) ?_;refine m2 ?_;refine rt_nil ?_;refine tri_cond rfl (fun c4 => ?_) (fun c4 => ?_)
    ·replace h := cond_t h c4;refine tri_sr ?_;refine n2 (.sc (.string (⟨#[115, 116, 97, 114, 116]⟩ : ByteArray))) ?_;refine rt_nil ?_;refine tri_ret ?_;have e0 := (some1 h); subst e0;exact eY [] (rvC (resTmp rfl) rvN) iN (.free rfl)
    ·replace h := cond_f h c4;refine tri_sr ?_;refine so (st_eqI rfl rfl rfl) ?_;refine m2 ?_;refine rt_nil ?_;refine tri_cond rfl (fun c5 => ?_) (fun c5 => ?_)
     ·replace h := cond_t h c5;refine tri_sr ?_;refine n2 (.sc (.string (⟨#[116, 101, 120, 116]⟩ : ByteArray))) ?_;refine rt_nil ?_;refine tri_ret ?_;have e0 := (some1 h); subst e0;exact eY [] (rvC (resTmp rfl) rvN) iN (.free rfl)
     ·replace h := cond_f h c5;refine tri_skip ?_;refine tri_sr ?_;refine n2 (.sc (.string (⟨#[]⟩ : ByteArray))) ?_;refine rt_nil ?_;refine tri_ret ?_;have e0 := (some1 h); subst e0;exact eY [] (rvC (resTmp rfl) rvN) iN (.free rfl)

/- strings.Join -/

theorem wstrings_Join (p0 : List ByteArray) (p1 : ByteArray) (r0 : ByteArray) (h : strings_Join p0 p1 = some r0) : Runs Tryz.prog 111 [.lst 1 (List.map strV p0), .sc (.string p1)] [] (.sc (.string r0)) [] := by
 unfold strings_Join at h;refine grd_elim h fun g h => ?_;have e0 := (some1 h); subst e0;exact runs_join (g := joinB) (fun a c w _ => Any.strings_Join_none Tryz.lays156 Tryz.extra156 a c p1 w) (fun bk o c w hc hb hl _ => Any.strings_Join Tryz.lays156 Tryz.extra156 bk o c p0 p1 w hc hb g.1 hl g.2)

/- impl.RecordText -/
def inv_i_RecordText_1 (p0 : Rec) (x4 : ByteArray) (x6 : ByteArray) (x8 : ByteArray) (j1_0 : Bool) : St := mkT 57 [(1, .ptr (1, 0) 0 0), (3, .ref (16, 0) 0 ([x4, x6, x8].length)), (18, .sc (.int .i64 p0.ty)), (27, .sc (.bool j1_0))] [((1, 0), some ⟨48, 6, [[.sc (.string p0.name), .sc (.int .i64 p0.ty), .sc (.int .i64 p0.ttl), .sc (.int .i64 p0.n), .sc (.string p0.host), .sc (.string p0.text)]], false, true⟩), ((16, 0), some ⟨9, 1, List.map strV [x4, x6, x8], false, true⟩)]
def inv_i_RecordText_0  (j0_0 : List ByteArray) : St := mkT 57 [(3, .ref (2003, 0) 0 j0_0.length)] [((2003, 0), some ⟨9, 1, List.map strV j0_0, false, true⟩)]
theorem wi_RecordText (p0 : Rec) (r0 : ByteArray) (h : i_RecordText p0 = some r0) : Runs Tryz.prog 58 [.agg (recV p0)] [] (.sc (.string r0)) [] := by
 unfold i_RecordText at h;refine runsR [.tmp 2] Tryz.func58 rfl rfl rfl rfl ?_;rw [Tryz.ntmps58];refine tri_sr ?_;refine s_box rfl rfl rfl rfl rfl rfl rfl ?_;refine n2 (.sc (.string (⟨#[]⟩ : ByteArray))) ?_;refine rt_nil ?_;refine tri_seq ?_;refine tri_sr ?_;refine s_loadR rfl rfl rfl rfl ty48 rfl rfl rfl ?_;refine bnd1_elim h fun x1 q2 h => ?_;refine cS cl107 (wi_RecordOk p0 x1 q2) (.cons (relAgg rfl) .nil) ?_;refine so (st_not rfl rfl) ?_;refine rt_nil ?_;refine tri_cond rfl (fun c3 => ?_) (fun c3 => ?_)
 ·replace h := cond_t h c3;refine tri_sr ?_;refine n2 (.sc (.string (⟨#[]⟩ : ByteArray))) ?_;refine rt_nil ?_;refine tri_ret ?_;have e0 := (some1 h); subst e0;exact eY [] (rvC (resTmp rfl) rvN) iN (.free rfl)
 ·replace h := cond_f h c3;refine tri_skip ?_;refine tri_seq ?_;refine tri_draw mixed ?_;refine fa fd48_0 ?_;refine ld ty9 ?_;refine bnd1_elim h fun x4 q5 h => ?_;refine cS cl108 (wi_nameText p0.name x4 q5) (aF .nil) ?_;refine fa fd48_2 ?_;refine ld ty3 ?_;refine bnd1_elim h fun x6 q7 h => ?_;refine cS cl109 (wi_NumText p0.ttl x6 q7) (aF .nil) ?_;refine fa fd48_1 ?_;refine ld ty3 ?_;refine bnd1_elim h fun x8 q9 h => ?_;refine cS cl110 (wi_TypeText p0.ty x8 q9) (aF .nil) ?_;refine s_buildSlice (rows' := List.map strV [x4, x6, x8]) rfl rfl rfl sl112 zc9 rfl rfl rfl rfl rfl rfl rfl rfl rfl ?_;refine m2 ?_;refine rt_nil ⟨by kernel_rfl, ?_⟩;refine tri_cutI (ι := { p : (List ByteArray) // i_RecordText_j0 p = some r0 }) (fun p => inv_i_RecordText_0 p.1) ?_ ?_
  ·refine tri_sr ?_;refine fa fd48_1 ?_;refine ld ty3 ?_;refine rt_nil ?_;refine tri_block ?_;refine tri_sr ?_;refine so (st_eqI rfl rfl rfl) ?_;refine m2 ?_;refine rt_nil ?_;refine tri_cond rfl (fun c10 => ?_) (fun c10 => ?_)
   ·replace h := cond_t h c10;refine tri_region ?_;refine m1 ?_;refine fa fd48_3 ?_;refine ld ty3 ?_;refine bnd1_elim h fun x11 q12 h => ?_;refine cS cl109 (wi_NumText p0.n x11 q12) (aF .nil) ?_;refine s_buildSlice (rows' := List.map strV [x11]) rfl rfl rfl sl112 zc9 rfl rfl rfl rfl rfl rfl rfl rfl rfl ?_;refine grd_elim h fun g13 h => ?_;refine s_appL rfl rfl rfl sl112 zc9 rfl rfl rfl rfl rfl rfl (src_refL rfl rfl) g13 rfl rfl ?_;refine m2 ?_;refine rt_nil ?_;refine Exists.intro ⟨[x4, x6, x8] ++ [x11], h⟩ ?_;refine eX [((2003, 0), _, some (26, 0))] (iM rfl strV_free strV_len iN) ?_;exact ⟨(.ref rfl), trivial⟩
   ·replace h := cond_f h c10;refine tri_cutI (ι := { p : Bool // i_RecordText_j1 p0 x4 x6 x8 p = some r0 }) (fun p => inv_i_RecordText_1 p0 x4 x6 x8 p.1) ?_ ?_
    ·refine tri_sr ?_;refine so (st_eqI rfl rfl rfl) ?_;refine m2 ?_;refine rt_nil ?_;refine tri_cond rfl (fun c14 => ?_) (fun c14 => ?_)
     ·replace h := cond_t h c14;refine tri_skip ?_;refine Exists.intro ⟨decide (p0.ty = 2), h⟩ ?_;refine eX [((1, 0), _, some (1, 0)), ((16, 0), _, some (16, 0))] (iF rfl (iM rfl strV_free strV_len iN)) ?_;exact ⟨(.ptr rfl), (.ref rfl), (.free rfl), (.free rfl), trivial⟩
     ·replace h := cond_f h c14;refine tri_region ?_;refine so (st_eqI rfl rfl rfl) ?_;refine m2 ?_;refine rt_nil ?_;refine Exists.intro ⟨decide (p0.ty = 5), h⟩ ?_;refine eX [((1, 0), _, some (1, 0)), ((16, 0), _, some (16, 0))] (iF rfl (iM rfl strV_free strV_len iN)) ?_;exact ⟨(.ptr rfl), (.ref rfl), (.free rfl), (.free rfl), trivial⟩
    ·rintro ⟨j1_0, h⟩;replace h : i_RecordText_j1 p0 x4 x6 x8 j1_0 = some r0 := h;unfold i_RecordText_j1 at h;show Tri _ _ _ (inv_i_RecordText_1 p0 x4 x6 x8 j1_0);refine tri_cond rfl (fun c14 => ?_) (fun c14 => ?_)
     ·replace h := cond_t h c14;refine tri_region ?_;refine m1 ?_;refine fa fd48_4 ?_;refine ld ty9 ?_;refine bnd1_elim h fun x15 q16 h => ?_;refine cS cl108 (wi_nameText p0.host x15 q16) (aF .nil) ?_;refine s_buildSlice (rows' := List.map strV [x15]) rfl rfl rfl sl112 zc9 rfl rfl rfl rfl rfl rfl rfl rfl rfl ?_;refine grd_elim h fun g17 h => ?_;refine s_appL rfl rfl rfl sl112 zc9 rfl rfl rfl rfl rfl rfl (src_refL rfl rfl) g17 rfl rfl ?_;refine m2 ?_;refine rt_nil ?_;refine Exists.intro ⟨[x4, x6, x8] ++ [x15], h⟩ ?_;refine eX [((2003, 0), _, some (35, 0))] (iM rfl strV_free strV_len iN) ?_;exact ⟨(.ref rfl), trivial⟩
     ·replace h := cond_f h c14;refine tri_sr ?_;refine so (st_eqI rfl rfl rfl) ?_;refine m2 ?_;refine rt_nil ?_;refine tri_cond rfl (fun c18 => ?_) (fun c18 => ?_)
      ·replace h := cond_t h c18;refine tri_draw mixed ?_;refine m1 ?_;refine fa fd48_4 ?_;refine ld ty9 ?_;refine bnd1_elim h fun x19 q20 h => ?_;refine cS cl108 (wi_nameText p0.host x19 q20) (aF .nil) ?_;refine fa fd48_3 ?_;refine ld ty3 ?_;refine bnd1_elim h fun x21 q22 h => ?_;refine cS cl109 (wi_NumText p0.n x21 q22) (aF .nil) ?_;refine s_buildSlice (rows' := List.map strV [x19, x21]) rfl rfl rfl sl112 zc9 rfl rfl rfl rfl rfl rfl rfl rfl rfl ?_;refine grd_elim h fun g23 h => ?_;refine s_appL rfl rfl rfl sl112 zc9 rfl rfl rfl rfl rfl rfl (src_refL rfl rfl) g23 rfl rfl ?_;refine m2 ?_;refine rt_nil ⟨by kernel_rfl, ?_⟩;refine Exists.intro ⟨[x4, x6, x8] ++ [x19, x21], h⟩ ?_;refine eX [((2003, 0), _, some (46, 0))] (iM rfl strV_free strV_len iN) ?_;exact ⟨(.ref rfl), trivial⟩
      ·replace h := cond_f h c18;refine tri_sr ?_;refine so (st_eqI rfl rfl rfl) ?_;refine m2 ?_;refine rt_nil ?_;refine tri_cond rfl (fun c24 => ?_) (fun c24 => ?_)
       ·replace h := cond_t h c24;refine tri_region ?_;refine m1 ?_;refine fa fd48_5 ?_;refine ld ty9 ?_;refine grd_elim h fun g25 h => ?_;refine so (st_catS g25 rfl rfl rfl) ?_;refine s_buildSlice (rows' := List.map strV [(⟨#[39]⟩ : ByteArray) ++ p0.text]) rfl rfl rfl sl112 zc9 rfl rfl rfl rfl rfl rfl rfl rfl rfl ?_;refine grd_elim h fun g26 h => ?_;refine s_appL rfl rfl rfl sl112 zc9 rfl rfl rfl rfl rfl rfl (src_refL rfl rfl) g26 rfl rfl ?_;refine m2 ?_;refine rt_nil ?_;refine Exists.intro ⟨[x4, x6, x8] ++ ([(⟨#[39]⟩ : ByteArray) ++ p0.text]), h⟩ ?_;refine eX [((2003, 0), _, some (54, 0))] (iM rfl strV_free strV_len iN) ?_;exact ⟨(.ref rfl), trivial⟩
       ·replace h := cond_f h c24;refine tri_skip ?_;refine Exists.intro ⟨[x4, x6, x8], h⟩ ?_;refine eX [((2003, 0), _, some (16, 0))] (iM rfl strV_free strV_len iN) ?_;exact ⟨(.ref rfl), trivial⟩
  ·rintro ⟨j0_0, h⟩;replace h : i_RecordText_j0 j0_0 = some r0 := h;unfold i_RecordText_j0 at h;show Tri _ _ _ (inv_i_RecordText_0 j0_0);refine tri_sr ?_;refine m1 ?_;refine bnd1_elim h fun x10 q11 h => ?_;refine cV [(2003, 0)] (.sc (.string x10)) cl111 (wstrings_Join j0_0 (⟨#[32]⟩ : ByteArray) x10 q11) (.cons (lendL rfl (.head _) rfl strV_free strV_len) (aF .nil)) ?_;refine m2 ?_;refine rt_nil ?_;refine tri_ret ?_;have e0 := (some1 h); subst e0;exact eY [] (rvC (resTmp rfl) rvN) iN (.free rfl)

/- impl.FactText -/
def inv_i_FactText_1 (x2 : List Rec) (v1_0 : ByteArray) (v1_1 : Nat) : St := mkT 36 [(3, .sc (.string v1_0)), (23, .ref (23, 0) 0 x2.length), (24, .sc (.int .i64 (x2.length : Int))), (25, .sc (.int .i64 (v1_1 : Int)))] [((23, 0), some ⟨48, 6, List.map recV x2, false, true⟩)]
def inv_i_FactText_0 (p0 : MFact) (j0_0 : ByteArray) : St := mkT 36 [(1, .ptr (1, 0) 0 0), (3, .sc (.string j0_0))] [((1, 0), some ⟨26, 4, [[.sc (.int .i64 p0.code), .lst 6 (List.map recV p0.links), .lst 6 (List.map recV p0.l), .sc (.bool p0.fin)]], false, true⟩)]
theorem wi_FactText (p0 : MFact) (r0 : ByteArray) (h : i_FactText p0 = some r0) : Runs Tryz.prog 17 [.agg (mFactV p0)] [] (.sc (.string r0)) [] := by
 unfold i_FactText at h;refine runsR [.tmp 2] Tryz.func17 rfl rfl rfl rfl ?_;rw [Tryz.ntmps17];refine tri_sr ?_;refine s_box rfl rfl rfl rfl rfl rfl rfl ?_;refine n2 (.sc (.string (⟨#[]⟩ : ByteArray))) ?_;refine rt_nil ?_;refine tri_seq ?_;refine tri_sr ?_;refine fa fd26_3 ?_;refine ld ty4 ?_;refine so (st_not rfl rfl) ?_;refine rt_nil ?_;refine tri_cond rfl (fun c1 => ?_) (fun c1 => ?_)
 ·replace h := cond_t h c1;refine tri_sr ?_;refine n2 (.sc (.string (⟨#[114, 111, 117, 110, 100]⟩ : ByteArray))) ?_;refine rt_nil ?_;refine tri_ret ?_;have e0 := (some1 h); subst e0;exact eY [] (rvC (resTmp rfl) rvN) iN (.free rfl)
 ·replace h := cond_f h c1;refine tri_skip ?_;refine tri_sr ?_;refine n2 (.sc (.string (⟨#[115, 101, 116]⟩ : ByteArray))) ?_;refine rt_nil ?_;refine tri_cutI (ι := { p : ByteArray // i_FactText_j0 p0 p = some r0 }) (fun p => inv_i_FactText_0 p0 p.1) ?_ ?_
  ·refine tri_block ?_;refine tri_sr ?_;refine fa fd26_0 ?_;refine ld ty3 ?_;refine so (st_eqI rfl rfl rfl) ?_;refine m2 ?_;refine rt_nil ?_;refine tri_cond rfl (fun c2 => ?_) (fun c2 => ?_)
   ·replace h := cond_t h c2;refine tri_region ?_;refine n2 (.sc (.string (⟨#[110, 111, 110, 97, 109, 101]⟩ : ByteArray))) ?_;refine rt_nil ?_;refine Exists.intro ⟨(⟨#[110, 111, 110, 97, 109, 101]⟩ : ByteArray), h⟩ ?_;refine eX [((1, 0), _, some (1, 0))] (iF rfl iN) ?_;exact ⟨(.ptr rfl), (.free rfl), trivial⟩
   ·replace h := cond_f h c2;refine tri_sr ?_;refine fa fd26_2 ?_;refine ld ty24 ?_;refine s_lenL rfl sl24 rfl rfl rfl rfl ?_;refine so (st_eqI rfl rfl rfl) ?_;refine m2 ?_;refine rt_nil ?_;refine tri_cond rfl (fun c3 => ?_) (fun c3 => ?_)
    ·replace h := cond_t h c3;refine tri_region ?_;refine n2 (.sc (.string (⟨#[110, 111, 100, 97, 116, 97]⟩ : ByteArray))) ?_;refine rt_nil ?_;refine Exists.intro ⟨(⟨#[110, 111, 100, 97, 116, 97]⟩ : ByteArray), h⟩ ?_;refine eX [((1, 0), _, some (1, 0))] (iF rfl iN) ?_;exact ⟨(.ptr rfl), (.free rfl), trivial⟩
    ·replace h := cond_f h c3;refine tri_skip ?_;refine Exists.intro ⟨(⟨#[115, 101, 116]⟩ : ByteArray), h⟩ ?_;refine eX [((1, 0), _, some (1, 0))] (iF rfl iN) ?_;exact ⟨(.ptr rfl), (.free rfl), trivial⟩
  ·rintro ⟨j0_0, h⟩;replace h : i_FactText_j0 p0 j0_0 = some r0 := h;unfold i_FactText_j0 at h;show Tri _ _ _ (inv_i_FactText_0 p0 j0_0);refine tri_seq ?_;refine tri_sr ?_;refine fa fd26_1 ?_;refine ld ty24 ?_;refine fa fd26_2 ?_;refine ld ty24 ?_;refine s_buildSlice (rows' := List.map recLV [p0.links, p0.l]) rfl rfl rfl sl125 zc24 rfl rfl rfl rfl rfl rfl rfl rfl rfl ?_;refine bnd1_elim h fun x2 q3 h => ?_;refine cO [(22, 0)] (.ref (23, 0) 0 x2.length) cl57 (wslices_Concat_Record [p0.links, p0.l] x2 q3) (.cons (lendL rfl (.head _) rfl recLV_free recLV_len) .nil) ⟨(allSc_map recV_sc), trivial⟩ ?_;refine s_len (m := x2.length) rfl sl24 rfl rfl rfl rfl ?_;refine n1 (.sc (.int .i64 0)) ?_;refine rt_nil ?_;refine tri_block ?_;refine tri_ownM (23, 0) rfl (fun hl1 => ?_);refine tri_loop (ι := { p : (List Rec) × ByteArray × Nat // x2.drop p.2.2 = p.1 ∧ i_FactText_l1 p.1 p.2.1 p.2.2 = some r0 }) (fun p => inv_i_FactText_1 x2 p.1.2.1 p.1.2.2) (fun p => p.1.1.length) ⟨(x2, j0_0, 0), rfl, h⟩ ?_ ?_
   ·refine eX [((23, 0), _, some (23, 0))] (iM rfl recV_free recV_len iN) ?_;exact ⟨(.free rfl), (.ref rfl), (.free rfl), (.free rfl), trivial⟩
   ·rintro ⟨⟨lrs1, v1_0, v1_1⟩, hd1, h⟩;replace hd1 : x2.drop v1_1 = lrs1 := hd1;replace h : i_FactText_l1 lrs1 v1_0 v1_1 = some r0 := h;show Tri _ _ _ (inv_i_FactText_1 x2 v1_0 v1_1);refine tri_sr ?_;refine so (st_lss rfl rfl rfl) ?_;refine rt_nil ?_;refine tri_seq ?_;refine tri_cond rfl (fun c4 => ?_) (fun c4 => ?_)
    ·refine drop_elim hd1 c4 fun e1 rs1 he hx1 hn1 => ?_;subst he;rw [i_FactText_l1] at h;refine tri_skip ?_;refine tri_seq ?_;refine tri_block ?_;refine tri_sr ?_;refine s_index0 (i := v1_1) rfl rfl rfl rfl sl24 rfl (get_lt hx1) rfl rfl rfl ?_;refine s_loadR rfl rfl rfl (rowG hx1) ty48 rfl rfl rfl ?_;refine s_alloc rfl rfl rfl zc48 rfl rfl rfl rfl rfl ?_;refine sb ty48 ?_;refine rt_nil ?_;refine tri_region ?_;refine m1 ?_;refine s_loadR rfl rfl rfl rfl ty48 rfl rfl rfl ?_;refine bnd1_elim h fun x5 q6 h => ?_;refine cS cl58 (wi_RecordText e1 x5 q6) (.cons (relAgg rfl) .nil) ?_;refine grd_elim h fun g7 h => ?_;refine so (st_catS g7 rfl rfl rfl) ?_;refine grd_elim h fun g8 h => ?_;refine so (st_catS g8 rfl rfl rfl) ?_;refine m2 ?_;refine rt_nil ?_;refine tri_region ?_;refine s_inc (a := v1_1) (b := 1) rfl rfl rfl rfl (by have := get_lt hx1; have := hl1; omega) rfl rfl rfl ?_;refine m1 ?_;refine rt_nil ?_;refine Exists.intro ⟨(rs1, v1_0 ++ ((⟨#[59, 32]⟩ : ByteArray) ++ x5), (v1_1 + 1)), hn1, h⟩ (And.intro (Nat.lt_succ_self _) ?_);refine eX [((23, 0), _, some (23, 0))] (iM rfl recV_free recV_len iN) ?_;exact ⟨(.free rfl), (.ref rfl), (.free rfl), (.free rfl), trivial⟩
    ·have he := drop_f hd1 c4; subst he;rw [i_FactText_l1] at h;refine tri_exit ?_;refine tri_sr ?_;refine m1 ?_;refine m2 ?_;refine rt_nil ?_;refine tri_ret ?_;have e0 := (some1 h); subst e0;exact eY [] (rvC (resTmp rfl) rvN) iN (.free rfl)

/- spec.l1In -/

theorem ws_l1In (p0 : Int) (p1 : Int) (p2 : Int) (r0 : Bool) (h : s_l1In p0 p1 p2 = some r0) : Runs Tryz.prog 179 [.sc (.int .i64 p0), .sc (.int .i64 p1), .sc (.int .i64 p2)] [] (.sc (.bool r0)) [] := by
 unfold s_l1In at h;refine runsR [.tmp 6] Tryz.func179 rfl rfl rfl rfl ?_;rw [Tryz.ntmps179];refine tri_sr ?_;refine n2 (.sc (.bool false)) ?_;refine rt_nil ?_;refine tri_sr ?_;refine m1 ?_;refine m1 ?_;refine so (st_geq rfl rfl rfl) ?_;refine m1 ?_;refine s_split (t := 10) rfl (fun b1 => ?_) (fun b1 => ?_)
 ·replace h := cond_t h b1;refine m1 ?_;refine m1 ?_;refine so (st_leq rfl rfl rfl) ?_;refine pU ?_;refine m2 ?_;refine rt_nil ?_;refine tri_ret ?_;have e0 := (some1 h); subst e0;exact eY [] (rvC (resTmp rfl) rvN) iN (.free rfl)
 ·replace h := cond_f h b1;(iterate 3 refine sk ?_);refine pF (.sc (.bool false)) ?_;refine m2 ?_;refine rt_nil ?_;refine tri_ret ?_;have e0 := (some1 h); subst e0;exact eY [] (rvC (resTmp rfl) rvN) iN (.free rfl)

/- spec.l2Byte -/

theorem ws_l2Byte (p0 : Int) (r0 : Bool) (h : s_l2Byte p0 = some r0) : Runs Tryz.prog 193 [.sc (.int .u8 p0)] [] (.sc (.bool r0)) [] := by
 unfold s_l2Byte at h;refine runsR [.tmp 2] Tryz.func193 rfl rfl rfl rfl ?_;rw [Tryz.ntmps193];refine tri_sr ?_;refine n2 (.sc (.bool false)) ?_;refine rt_nil ?_;refine tri_sr ?_;refine m1 ?_;refine so (st_conv ik5 ik3 rfl rfl) ?_;refine bnd1_elim h fun x1 q2 h => ?_;refine cS cl179 (ws_l1In (IntKind.i64.wrap p0) 97 122 x1 q2) (aF (aF (aF .nil))) ?_;refine m1 ?_;refine s_split (t := 6) rfl (fun b3 => ?_) (fun b3 => ?_)
 ·replace h := cond_t h b3;(iterate 3 refine sk ?_);refine pT (.sc (.bool true)) ?_;refine m1 ?_;refine sk ?_;refine sk ?_;refine pT (.sc (.bool true)) ?_;refine m1 ?_;refine sk ?_;refine sk ?_;refine pT (.sc (.bool true)) ?_;refine m2 ?_;refine rt_nil ?_;refine tri_ret ?_;have e0 := (some1 h); subst e0;exact eY [] (rvC (resTmp rfl) rvN) iN (.free rfl)
 ·replace h := cond_f h b3;refine m1 ?_;refine so (st_conv ik5 ik3 rfl rfl) ?_;refine bnd1_elim h fun x4 q5 h => ?_;refine cS cl179 (ws_l1In (IntKind.i64.wrap p0) 48 57 x4 q5) (aF (aF (aF .nil))) ?_;refine pG ?_;refine m1 ?_;refine s_split (t := 11) rfl (fun b6 => ?_) (fun b6 => ?_)
  ·replace h := cond_t h b6;refine sk ?_;refine sk ?_;refine pT (.sc (.bool true)) ?_;refine m1 ?_;refine sk ?_;refine sk ?_;refine pT (.sc (.bool true)) ?_;refine m2 ?_;refine rt_nil ?_;refine tri_ret ?_;have e0 := (some1 h); subst e0;exact eY [] (rvC (resTmp rfl) rvN) iN (.free rfl)
  ·replace h := cond_f h b6;refine m1 ?_;refine so (st_eqI rfl rfl rfl) ?_;refine pG ?_;refine m1 ?_;refine s_split (t := 15) rfl (fun b7 => ?_) (fun b7 => ?_)
   ·replace h := cond_t h b7;refine sk ?_;refine sk ?_;refine pT (.sc (.bool true)) ?_;refine m2 ?_;refine rt_nil ?_;refine tri_ret ?_;have e0 := (some1 h); subst e0;exact eY [] (rvC (resTmp rfl) rvN) iN (.free rfl)
   ·replace h := cond_f h b7;refine m1 ?_;refine so (st_eqI rfl rfl rfl) ?_;refine pG ?_;refine m2 ?_;refine rt_nil ?_;refine tri_ret ?_;have e0 := (some1 h); subst e0;exact eY [] (rvC (resTmp rfl) rvN) iN (.free rfl)

/- spec.LabelOk -/
def inv_s_LabelOk_1 (p0 : ByteArray) (v1_0 : Int) : St := mkT 18 [(0, .sc (.string p0)), (3, .sc (.int .i64 v1_0))] []
def inv_s_LabelOk_0 (p0 : ByteArray) : St := mkT 18 [(0, .sc (.string p0))] []
theorem ws_LabelOk (p0 : ByteArray) (r0 : Bool) (h : s_LabelOk p0 = some r0) : Runs Tryz.prog 188 [.sc (.string p0)] [] (.sc (.bool r0)) [] := by
 unfold s_LabelOk at h;refine runsR [.tmp 2] Tryz.func188 rfl rfl rfl rfl ?_;rw [Tryz.ntmps188];refine tri_sr ?_;refine n2 (.sc (.bool false)) ?_;refine rt_nil ?_;refine tri_cutI (ι := { p : Unit // s_LabelOk_j0 p0 = some r0 }) (fun p => inv_s_LabelOk_0 p0) ?_ ?_
 ·refine tri_sr ?_;refine n2 (.sc (.int .i64 0)) ?_;refine rt_nil ?_;refine tri_block ?_;refine tri_loop (ι := { p : Nat × Int // s_LabelOk_l1 p0 p.1 p.2 = some r0 }) (fun p => inv_s_LabelOk_1 p0 p.1.2) (fun p => p.1.1) ⟨(fuel0, 0), h⟩ ?_ ?_
  ·refine eX [] iN ?_;exact ⟨(.free rfl), (.free rfl), trivial⟩
  ·rintro ⟨⟨f1, v1_0⟩, h⟩;replace h : s_LabelOk_l1 p0 f1 v1_0 = some r0 := h;cases f1 with
   | zero => cases h
   | succ f1 =>
   rw [s_LabelOk_l1] at h;show Tri _ _ _ (inv_s_LabelOk_1 p0 v1_0);refine tri_seq ?_;refine tri_sr ?_;refine m1 ?_;refine m1 ?_;refine so (st_lenS rfl rfl iss9) ?_;refine so (st_lss rfl rfl rfl) ?_;refine rt_nil ?_;refine tri_cond rfl (fun c1 => ?_) (fun c1 => ?_)
   ·replace h := cond_t h c1;refine tri_skip ?_;refine tri_seq ?_;refine tri_block ?_;refine tri_sr ?_;refine m1 ?_;refine m1 ?_;refine bnd1_elim h fun x2 q3 h => ?_;refine s_idxS rfl rfl rfl iss9 q3 rfl rfl rfl ?_;refine bnd1_elim h fun x4 q5 h => ?_;refine cS cl193 (ws_l2Byte x2 x4 q5) (aF .nil) ?_;refine so (st_not rfl rfl) ?_;refine rt_nil ?_;refine tri_cond rfl (fun c6 => ?_) (fun c6 => ?_)
    ·replace h := cond_t h c6;refine tri_sr ?_;refine n2 (.sc (.bool false)) ?_;refine rt_nil ?_;refine tri_ret ?_;have e0 := (some1 h); subst e0;exact eY [] (rvC (resTmp rfl) rvN) iN (.free rfl)
    ·replace h := cond_f h c6;refine tri_skip ?_;refine tri_region ?_;refine m1 ?_;refine grd_elim h fun g7 h => ?_;refine ai g7 ?_;refine m2 ?_;refine rt_nil ?_;refine Exists.intro ⟨(f1, v1_0 + 1), h⟩ (And.intro (Nat.lt_succ_self _) ?_);refine eX [] iN ?_;exact ⟨(.free rfl), (.free rfl), trivial⟩
   ·replace h := cond_f h c1;refine tri_exit ?_;refine Exists.intro ⟨(), h⟩ ?_;refine eX [] iN ?_;exact ⟨(.free rfl), trivial⟩
 ·rintro ⟨u, h⟩;replace h : s_LabelOk_j0 p0 = some r0 := h;unfold s_LabelOk_j0 at h;show Tri _ _ _ (inv_s_LabelOk_0 p0);refine tri_sr ?_;refine m1 ?_;refine so (st_lenS rfl rfl iss9) ?_;refine bnd1_elim h fun x1 q2 h => ?_;refine cS cl179 (ws_l1In (p0.size : Int) 1 12 x1 q2) (aF (aF (aF .nil))) ?_;refine m2 ?_;refine rt_nil ?_;refine tri_ret ?_;have e0 := (some1 h); subst e0;exact eY [] (rvC (resTmp rfl) rvN) iN (.free rfl)

/- spec.NameOk -/
def inv_s_NameOk_1 (p0 : ByteArray) (x1 : List ByteArray) (v1_0 : Nat) : St := mkT 27 [(0, .sc (.string p0)), (3, .ref (6, 0) 0 x1.length), (4, .sc (.int .i64 (v1_0 : Int)))] [((6, 0), some ⟨9, 1, List.map strV x1, false, true⟩)]
def inv_s_NameOk_0 (p0 : ByteArray) (x1 : List ByteArray) : St := mkT 27 [(0, .sc (.string p0)), (3, .ref (6, 0) 0 x1.length)] [((6, 0), some ⟨9, 1, List.map strV x1, false, true⟩)]
theorem ws_NameOk (p0 : ByteArray) (r0 : Bool) (h : s_NameOk p0 = some r0) : Runs Tryz.prog 178 [.sc (.string p0)] [] (.sc (.bool r0)) [] := by
 unfold s_NameOk at h;refine runsR [.tmp 2] Tryz.func178 rfl rfl rfl rfl ?_;rw [Tryz.ntmps178];refine tri_sr ?_;refine n2 (.sc (.bool false)) ?_;refine rt_nil ?_;refine tri_sr ?_;refine m1 ?_;refine bnd1_elim h fun x1 q2 h => ?_;refine cO [] (.ref (6, 0) 0 x1.length) cl144 (ws_Labels p0 x1 q2) (aF .nil) ⟨(allSc_map strV_sc), trivial⟩ ?_;refine m2 ?_;refine rt_nil ?_;refine tri_cutI (ι := { p : Unit // s_NameOk_j0 p0 x1 = some r0 }) (fun p => inv_s_NameOk_0 p0 x1) ?_ ?_
 ·refine tri_sr ?_;refine n2 (.sc (.int .i64 0)) ?_;refine rt_nil ?_;refine tri_block ?_;refine tri_ownM (6, 0) rfl (fun hl1 => ?_);refine tri_loop (ι := { p : (List ByteArray) × Nat // x1.drop p.2 = p.1 ∧ s_NameOk_l1 p0 x1 p.1 p.2 = some r0 }) (fun p => inv_s_NameOk_1 p0 x1 p.1.2) (fun p => p.1.1.length) ⟨(x1, 0), rfl, h⟩ ?_ ?_
  ·refine eX [((6, 0), _, some (6, 0))] (iM rfl strV_free strV_len iN) ?_;exact ⟨(.free rfl), (.ref rfl), (.free rfl), trivial⟩
  ·rintro ⟨⟨lrs1, v1_0⟩, hd1, h⟩;replace hd1 : x1.drop v1_0 = lrs1 := hd1;replace h : s_NameOk_l1 p0 x1 lrs1 v1_0 = some r0 := h;show Tri _ _ _ (inv_s_NameOk_1 p0 x1 v1_0);refine tri_seq ?_;refine tri_sr ?_;refine m1 ?_;refine m1 ?_;refine s_len (m := x1.length) rfl sl112 rfl rfl rfl rfl ?_;refine so (st_lss rfl rfl rfl) ?_;refine rt_nil ?_;refine tri_cond rfl (fun c3 => ?_) (fun c3 => ?_)
   ·refine drop_elim hd1 c3 fun e1 rs1 he hx1 hn1 => ?_;subst he;rw [s_NameOk_l1] at h;refine tri_skip ?_;refine tri_seq ?_;refine tri_block ?_;refine tri_sr ?_;refine m1 ?_;refine m1 ?_;refine s_index0 (i := v1_0) rfl rfl rfl rfl sl112 rfl (get_lt hx1) rfl rfl rfl ?_;refine s_load rfl rfl rfl (rowG hx1) ty9 rfl (.inr rfl) (by conv => lhs; whnf) rfl rfl rfl ?_;refine bnd1_elim h fun x4 q5 h => ?_;refine cS cl188 (ws_LabelOk e1 x4 q5) (aF .nil) ?_;refine so (st_not rfl rfl) ?_;refine rt_nil ?_;refine tri_cond rfl (fun c6 => ?_) (fun c6 => ?_)
    ·replace h := cond_t h c6;refine tri_sr ?_;refine n2 (.sc (.bool false)) ?_;refine rt_nil ?_;refine tri_ret ?_;have e0 := (some1 h); subst e0;exact eY [] (rvC (resTmp rfl) rvN) iN (.free rfl)
    ·replace h := cond_f h c6;refine tri_skip ?_;refine tri_region ?_;refine m1 ?_;refine s_inc (a := v1_0) (b := 1) rfl rfl rfl rfl (by have := get_lt hx1; have := hl1; omega) rfl rfl rfl ?_;refine m2 ?_;refine rt_nil ?_;refine Exists.intro ⟨(rs1, (v1_0 + 1)), hn1, h⟩ (And.intro (Nat.lt_succ_self _) ?_);refine eX [((6, 0), _, some (6, 0))] (iM rfl strV_free strV_len iN) ?_;exact ⟨(.free rfl), (.ref rfl), (.free rfl), trivial⟩
   ·have he := drop_f hd1 c3; subst he;rw [s_NameOk_l1] at h;refine tri_exit ?_;refine Exists.intro ⟨(), h⟩ ?_;refine eX [((6, 0), _, some (6, 0))] (iM rfl strV_free strV_len iN) ?_;exact ⟨(.free rfl), (.ref rfl), trivial⟩
 ·rintro ⟨u, h⟩;replace h : s_NameOk_j0 p0 x1 = some r0 := h;unfold s_NameOk_j0 at h;show Tri _ _ _ (inv_s_NameOk_0 p0 x1);refine tri_sr ?_;refine m1 ?_;refine so (st_lenS rfl rfl iss9) ?_;refine so (st_leq rfl rfl rfl) ?_;refine m1 ?_;refine s_split (t := 22) rfl (fun b3 => ?_) (fun b3 => ?_)
  ·replace h := cond_t h b3;refine m1 ?_;refine s_len (m := x1.length) rfl sl112 rfl rfl rfl rfl ?_;refine so (st_leq rfl rfl rfl) ?_;refine pU ?_;refine m2 ?_;refine rt_nil ?_;refine tri_ret ?_;have e0 := (some1 h); subst e0;exact eY [] (rvC (resTmp rfl) rvN) iN (.free rfl)
  ·replace h := cond_f h b3;(iterate 3 refine sk ?_);refine pF (.sc (.bool false)) ?_;refine m2 ?_;refine rt_nil ?_;refine tri_ret ?_;have e0 := (some1 h); subst e0;exact eY [] (rvC (resTmp rfl) rvN) iN (.free rfl)

/- spec.l5Text -/
def inv_s_l5Text_1 (p0 : ByteArray) (v1_0 : Int) : St := mkT 19 [(0, .sc (.string p0)), (3, .sc (.int .i64 v1_0))] []
def inv_s_l5Text_0 (p0 : ByteArray) : St := mkT 19 [(0, .sc (.string p0))] []
theorem ws_l5Text (p0 : ByteArray) (r0 : Bool) (h : s_l5Text p0 = some r0) : Runs Tryz.prog 180 [.sc (.string p0)] [] (.sc (.bool r0)) [] := by
 unfold s_l5Text at h;refine runsR [.tmp 2] Tryz.func180 rfl rfl rfl rfl ?_;rw [Tryz.ntmps180];refine tri_sr ?_;refine n2 (.sc (.bool false)) ?_;refine rt_nil ?_;refine tri_cutI (ι := { p : Unit // s_l5Text_j0 p0 = some r0 }) (fun p => inv_s_l5Text_0 p0) ?_ ?_
 ·refine tri_sr ?_;refine n2 (.sc (.int .i64 0)) ?_;refine rt_nil ?_;refine tri_block ?_;refine tri_loop (ι := { p : Nat × Int // s_l5Text_l1 p0 p.1 p.2 = some r0 }) (fun p => inv_s_l5Text_1 p0 p.1.2) (fun p => p.1.1) ⟨(fuel0, 0), h⟩ ?_ ?_
  ·refine eX [] iN ?_;exact ⟨(.free rfl), (.free rfl), trivial⟩
  ·rintro ⟨⟨f1, v1_0⟩, h⟩;replace h : s_l5Text_l1 p0 f1 v1_0 = some r0 := h;cases f1 with
   | zero => cases h
   | succ f1 =>
   rw [s_l5Text_l1] at h;show Tri _ _ _ (inv_s_l5Text_1 p0 v1_0);refine tri_seq ?_;refine tri_sr ?_;refine m1 ?_;refine m1 ?_;refine so (st_lenS rfl rfl iss9) ?_;refine so (st_lss rfl rfl rfl) ?_;refine rt_nil ?_;refine tri_cond rfl (fun c1 => ?_) (fun c1 => ?_)
   ·replace h := cond_t h c1;refine tri_skip ?_;refine tri_seq ?_;refine tri_block ?_;refine tri_sr ?_;refine m1 ?_;refine m1 ?_;refine bnd1_elim h fun x2 q3 h => ?_;refine s_idxS rfl rfl rfl iss9 q3 rfl rfl rfl ?_;refine so (st_conv ik5 ik3 rfl rfl) ?_;refine bnd1_elim h fun x4 q5 h => ?_;refine cS cl179 (ws_l1In (IntKind.i64.wrap x2) 33 126 x4 q5) (aF (aF (aF .nil))) ?_;refine so (st_not rfl rfl) ?_;refine rt_nil ?_;refine tri_cond rfl (fun c6 => ?_) (fun c6 => ?_)
    ·replace h := cond_t h c6;refine tri_sr ?_;refine n2 (.sc (.bool false)) ?_;refine rt_nil ?_;refine tri_ret ?_;have e0 := (some1 h); subst e0;exact eY [] (rvC (resTmp rfl) rvN) iN (.free rfl)
    ·replace h := cond_f h c6;refine tri_skip ?_;refine tri_region ?_;refine m1 ?_;refine grd_elim h fun g7 h => ?_;refine ai g7 ?_;refine m2 ?_;refine rt_nil ?_;refine Exists.intro ⟨(f1, v1_0 + 1), h⟩ (And.intro (Nat.lt_succ_self _) ?_);refine eX [] iN ?_;exact ⟨(.free rfl), (.free rfl), trivial⟩
   ·replace h := cond_f h c1;refine tri_exit ?_;refine Exists.intro ⟨(), h⟩ ?_;refine eX [] iN ?_;exact ⟨(.free rfl), trivial⟩
 ·rintro ⟨u, h⟩;replace h : s_l5Text_j0 p0 = some r0 := h;unfold s_l5Text_j0 at h;show Tri _ _ _ (inv_s_l5Text_0 p0);refine tri_sr ?_;refine m1 ?_;refine so (st_lenS rfl rfl iss9) ?_;refine so (st_leq rfl rfl rfl) ?_;refine m2 ?_;refine rt_nil ?_;refine tri_ret ?_;have e0 := (some1 h); subst e0;exact eY [] (rvC (resTmp rfl) rvN) iN (.free rfl)

/- spec.RecordOk -/
def inv_s_RecordOk_1 (p0 : Rec) (j1_0 : Bool) : St := mkT 79 [(1, .ptr (1, 0) 0 0), (14, .sc (.int .i64 p0.ty)), (30, .sc (.bool j1_0))] [((1, 0), some ⟨48, 6, [[.sc (.string p0.name), .sc (.int .i64 p0.ty), .sc (.int .i64 p0.ttl), .sc (.int .i64 p0.n), .sc (.string p0.host), .sc (.string p0.text)]], false, true⟩)]
def inv_s_RecordOk_0 (p0 : Rec) (j0_0 : Bool) : St := mkT 79 [(1, .ptr (1, 0) 0 0), (12, .sc (.bool j0_0))] [((1, 0), some ⟨48, 6, [[.sc (.string p0.name), .sc (.int .i64 p0.ty), .sc (.int .i64 p0.ttl), .sc (.int .i64 p0.n), .sc (.string p0.host), .sc (.string p0.text)]], false, true⟩)]
theorem ws_RecordOk (p0 : Rec) (r0 : Bool) (h : s_RecordOk p0 = some r0) : Runs Tryz.prog 155 [.agg (recV p0)] [] (.sc (.bool r0)) [] := by
 unfold s_RecordOk at h;refine runsR [.tmp 2] Tryz.func155 rfl rfl rfl rfl ?_;rw [Tryz.ntmps155];refine tri_sr ?_;refine s_box rfl rfl rfl rfl rfl rfl rfl ?_;refine n2 (.sc (.bool false)) ?_;refine rt_nil ?_;refine tri_seq ?_;refine tri_cutI (ι := { p : Bool // s_RecordOk_j0 p0 p = some r0 }) (fun p => inv_s_RecordOk_0 p0 p.1) ?_ ?_
 ·refine tri_region ?_;refine fa fd48_0 ?_;refine ld ty9 ?_;refine bnd1_elim h fun x1 q2 h => ?_;refine cS cl178 (ws_NameOk p0.name x1 q2) (aF .nil) ?_;refine so (st_not rfl rfl) ?_;refine m1 ?_;refine s_split (t := 7) rfl (fun b3 => ?_) (fun b3 => ?_)
  ·replace h := cond_t h b3;(iterate 4 refine sk ?_);refine pT (.sc (.bool true)) ?_;refine rt_nil ?_;refine Exists.intro ⟨true, h⟩ ?_;refine eX [((1, 0), _, some (1, 0))] (iF rfl iN) ?_;exact ⟨(.ptr rfl), (.free rfl), trivial⟩
  ·replace h := cond_f h b3;refine fa fd48_2 ?_;refine ld ty3 ?_;refine bnd1_elim h fun x4 q5 h => ?_;refine cS cl179 (ws_l1In p0.ttl 0 100000 x4 q5) (aF (aF (aF .nil))) ?_;refine so (st_not rfl rfl) ?_;refine pG ?_;refine rt_nil ?_;refine Exists.intro ⟨!x4, h⟩ ?_;refine eX [((1, 0), _, some (1, 0))] (iF rfl iN) ?_;exact ⟨(.ptr rfl), (.free rfl), trivial⟩
 ·rintro ⟨j0_0, h⟩;replace h : s_RecordOk_j0 p0 j0_0 = some r0 := h;unfold s_RecordOk_j0 at h;show Tri _ _ _ (inv_s_RecordOk_0 p0 j0_0);refine tri_cond rfl (fun c1 => ?_) (fun c1 => ?_)
  ·replace h := cond_t h c1;refine tri_sr ?_;refine n2 (.sc (.bool false)) ?_;refine rt_nil ?_;refine tri_ret ?_;have e0 := (some1 h); subst e0;exact eY [] (rvC (resTmp rfl) rvN) iN (.free rfl)
  ·replace h := cond_f h c1;refine tri_skip ?_;refine tri_seq ?_;refine tri_sr ?_;refine fa fd48_1 ?_;refine ld ty3 ?_;refine rt_nil ?_;refine tri_block ?_;refine tri_sr ?_;refine so (st_eqI rfl rfl rfl) ?_;refine m2 ?_;refine rt_nil ?_;refine tri_cond rfl (fun c2 => ?_) (fun c2 => ?_)
   ·replace h := cond_t h c2;refine tri_sr ?_;refine fa fd48_3 ?_;refine ld ty3 ?_;refine bnd1_elim h fun x3 q4 h => ?_;refine cS cl179 (ws_l1In p0.n 0 2147483647 x3 q4) (aF (aF (aF .nil))) ?_;refine m1 ?_;refine s_split (t := 20) rfl (fun b5 => ?_) (fun b5 => ?_)
    ·replace h := cond_t h b5;refine fa fd48_4 ?_;refine ld ty9 ?_;refine so (st_eqS rfl rfl rfl) ?_;refine pU ?_;refine m1 ?_;refine s_split (t := 25) rfl (fun b6 => ?_) (fun b6 => ?_)
     ·replace h := cond_t h b6;refine fa fd48_5 ?_;refine ld ty9 ?_;refine so (st_eqS rfl rfl rfl) ?_;refine pU ?_;refine m2 ?_;refine rt_nil ?_;refine tri_ret ?_;have e0 := (some1 h); subst e0;exact eY [] (rvC (resTmp rfl) rvN) iN (.free rfl)
     ·replace h := cond_f h b6;(iterate 3 refine sk ?_);refine pF (.sc (.bool false)) ?_;refine m2 ?_;refine rt_nil ?_;refine tri_ret ?_;have e0 := (some1 h); subst e0;exact eY [] (rvC (resTmp rfl) rvN) iN (.free rfl)
    ·replace h := cond_f h b5;(iterate 3 refine sk ?_);refine pF (.sc (.bool false)) ?_;refine m1 ?_;(iterate 3 refine sk ?_);refine pF (.sc (.bool false)) ?_;refine m2 ?_;refine rt_nil ?_;refine tri_ret ?_;have e0 := (some1 h); subst e0;exact eY [] (rvC (resTmp rfl) rvN) iN (.free rfl)
   ·replace h := cond_f h c2;refine tri_cutI (ι := { p : Bool // s_RecordOk_j1 p0 p = some r0 }) (fun p => inv_s_RecordOk_1 p0 p.1) ?_ ?_
    ·refine tri_sr ?_;refine so (st_eqI rfl rfl rfl) ?_;refine m2 ?_;refine rt_nil ?_;refine tri_cond rfl (fun c7 => ?_) (fun c7 => ?_)
     ·replace h := cond_t h c7;refine tri_skip ?_;refine Exists.intro ⟨decide (p0.ty = 2), h⟩ ?_;refine eX [((1, 0), _, some (1, 0))] (iF rfl iN) ?_;exact ⟨(.ptr rfl), (.free rfl), (.free rfl), trivial⟩
     ·replace h := cond_f h c7;refine tri_region ?_;refine so (st_eqI rfl rfl rfl) ?_;refine m2 ?_;refine rt_nil ?_;refine Exists.intro ⟨decide (p0.ty = 5), h⟩ ?_;refine eX [((1, 0), _, some (1, 0))] (iF rfl iN) ?_;exact ⟨(.ptr rfl), (.free rfl), (.free rfl), trivial⟩
    ·rintro ⟨j1_0, h⟩;replace h : s_RecordOk_j1 p0 j1_0 = some r0 := h;unfold s_RecordOk_j1 at h;show Tri _ _ _ (inv_s_RecordOk_1 p0 j1_0);refine tri_cond rfl (fun c7 => ?_) (fun c7 => ?_)
     ·replace h := cond_t h c7;refine tri_sr ?_;refine fa fd48_3 ?_;refine ld ty3 ?_;refine so (st_eqI rfl rfl rfl) ?_;refine m1 ?_;refine s_split (t := 36) rfl (fun b8 => ?_) (fun b8 => ?_)
      ·replace h := cond_t h b8;refine fa fd48_4 ?_;refine ld ty9 ?_;refine bnd1_elim h fun x9 q10 h => ?_;refine cS cl178 (ws_NameOk p0.host x9 q10) (aF .nil) ?_;refine pU ?_;refine m1 ?_;refine s_split (t := 41) rfl (fun b11 => ?_) (fun b11 => ?_)
       ·replace h := cond_t h b11;refine fa fd48_5 ?_;refine ld ty9 ?_;refine so (st_eqS rfl rfl rfl) ?_;refine pU ?_;refine m2 ?_;refine rt_nil ?_;refine tri_ret ?_;have e0 := (some1 h); subst e0;exact eY [] (rvC (resTmp rfl) rvN) iN (.free rfl)
       ·replace h := cond_f h b11;(iterate 3 refine sk ?_);refine pF (.sc (.bool false)) ?_;refine m2 ?_;refine rt_nil ?_;refine tri_ret ?_;have e0 := (some1 h); subst e0;exact eY [] (rvC (resTmp rfl) rvN) iN (.free rfl)
      ·replace h := cond_f h b8;(iterate 3 refine sk ?_);refine pF (.sc (.bool false)) ?_;refine m1 ?_;(iterate 3 refine sk ?_);refine pF (.sc (.bool false)) ?_;refine m2 ?_;refine rt_nil ?_;refine tri_ret ?_;have e0 := (some1 h); subst e0;exact eY [] (rvC (resTmp rfl) rvN) iN (.free rfl)
     ·replace h := cond_f h c7;refine tri_sr ?_;refine so (st_eqI rfl rfl rfl) ?_;refine m2 ?_;refine rt_nil ?_;refine tri_cond rfl (fun c12 => ?_) (fun c12 => ?_)
      ·replace h := cond_t h c12;refine tri_sr ?_;refine fa fd48_3 ?_;refine ld ty3 ?_;refine bnd1_elim h fun x13 q14 h => ?_;refine cS cl179 (ws_l1In p0.n 0 100000 x13 q14) (aF (aF (aF .nil))) ?_;refine m1 ?_;refine s_split (t := 51) rfl (fun b15 => ?_) (fun b15 => ?_)
       ·replace h := cond_t h b15;refine fa fd48_4 ?_;refine ld ty9 ?_;refine bnd1_elim h fun x16 q17 h => ?_;refine cS cl178 (ws_NameOk p0.host x16 q17) (aF .nil) ?_;refine pU ?_;refine m1 ?_;refine s_split (t := 56) rfl (fun b18 => ?_) (fun b18 => ?_)
        ·replace h := cond_t h b18;refine fa fd48_5 ?_;refine ld ty9 ?_;refine so (st_eqS rfl rfl rfl) ?_;refine pU ?_;refine m2 ?_;refine rt_nil ?_;refine tri_ret ?_;have e0 := (some1 h); subst e0;exact eY [] (rvC (resTmp rfl) rvN) iN (.free rfl)
        ·replace h := cond_f h b18;(iterate 3 refine sk ?_);refine pF (.sc (.bool false)) ?_;refine m2 ?_;refine rt_nil ?_;refine tri_ret ?_;have e0 := (some1 h); subst e0;exact eY [] (rvC (resTmp rfl) rvN) iN (.free rfl)
       ·replace h := cond_f h b15;(iterate 3 refine sk ?_);refine pF (.sc (.bool false)) ?_;refine m1 ?_;(iterate 3 refine sk ?_);refine pF (.sc (.bool false)) ?_;refine m2 ?_;refine rt_nil ?_;refine tri_ret ?_;have e0 := (some1 h); subst e0;exact eY [] (rvC (resTmp rfl) rvN) iN (.free rfl)
      ·replace h := cond_f h c12;refine tri_skip ?_;refine tri_sr ?_;refine fa fd48_1 ?_;refine ld ty3 ?_;refine so (st_eqI rfl rfl rfl) ?_;refine m1 ?_;refine s_split (t := 64) rfl (fun b19 => ?_) (fun b19 => ?_)
       ·replace h := cond_t h b19;refine fa fd48_3 ?_;refine ld ty3 ?_;refine so (st_eqI rfl rfl rfl) ?_;refine pU ?_;refine m1 ?_;refine s_split (t := 69) rfl (fun b20 => ?_) (fun b20 => ?_)
        ·replace h := cond_t h b20;refine fa fd48_4 ?_;refine ld ty9 ?_;refine so (st_eqS rfl rfl rfl) ?_;refine pU ?_;refine m1 ?_;refine s_split (t := 74) rfl (fun b21 => ?_) (fun b21 => ?_)
         ·replace h := cond_t h b21;refine fa fd48_5 ?_;refine ld ty9 ?_;refine bnd1_elim h fun x22 q23 h => ?_;refine cS cl180 (ws_l5Text p0.text x22 q23) (aF .nil) ?_;refine pU ?_;refine m2 ?_;refine rt_nil ?_;refine tri_ret ?_;have e0 := (some1 h); subst e0;exact eY [] (rvC (resTmp rfl) rvN) iN (.free rfl)
         ·replace h := cond_f h b21;(iterate 3 refine sk ?_);refine pF (.sc (.bool false)) ?_;refine m2 ?_;refine rt_nil ?_;refine tri_ret ?_;have e0 := (some1 h); subst e0;exact eY [] (rvC (resTmp rfl) rvN) iN (.free rfl)
        ·replace h := cond_f h b20;(iterate 3 refine sk ?_);refine pF (.sc (.bool false)) ?_;refine m1 ?_;(iterate 3 refine sk ?_);refine pF (.sc (.bool false)) ?_;refine m2 ?_;refine rt_nil ?_;refine tri_ret ?_;have e0 := (some1 h); subst e0;exact eY [] (rvC (resTmp rfl) rvN) iN (.free rfl)
       ·replace h := cond_f h b19;(iterate 3 refine sk ?_);refine pF (.sc (.bool false)) ?_;refine m1 ?_;(iterate 3 refine sk ?_);refine pF (.sc (.bool false)) ?_;refine m1 ?_;(iterate 3 refine sk ?_);refine pF (.sc (.bool false)) ?_;refine m2 ?_;refine rt_nil ?_;refine tri_ret ?_;have e0 := (some1 h); subst e0;exact eY [] (rvC (resTmp rfl) rvN) iN (.free rfl)

/- spec.l5Dot -/

theorem ws_l5Dot (p0 : ByteArray) (r0 : ByteArray) (h : s_l5Dot p0 = some r0) : Runs Tryz.prog 156 [.sc (.string p0)] [] (.sc (.string r0)) [] := by
 unfold s_l5Dot at h;refine runsR [.tmp 2] Tryz.func156 rfl rfl rfl rfl ?_;rw [Tryz.ntmps156];refine tri_sr ?_;refine n2 (.sc (.string (⟨#[]⟩ : ByteArray))) ?_;refine rt_nil ?_;refine tri_seq ?_;refine tri_sr ?_;refine m1 ?_;refine so (st_eqS rfl rfl rfl) ?_;refine rt_nil ?_;refine tri_cond rfl (fun c1 => ?_) (fun c1 => ?_)
 ·replace h := cond_t h c1;refine tri_sr ?_;refine n2 (.sc (.string (⟨#[46]⟩ : ByteArray))) ?_;refine rt_nil ?_;refine tri_ret ?_;have e0 := (some1 h); subst e0;exact eY [] (rvC (resTmp rfl) rvN) iN (.free rfl)
 ·replace h := cond_f h c1;refine tri_skip ?_;refine tri_sr ?_;refine m1 ?_;refine m2 ?_;refine rt_nil ?_;refine tri_ret ?_;have e0 := (some1 h); subst e0;exact eY [] (rvC (resTmp rfl) rvN) iN (.free rfl)

/- spec.NumText -/
def inv_s_NumText_2 (p0 : Int) (v1_0 : ByteArray) (v1_1 : Int) (j2_0 : Int) : St := mkT 31 [(0, .sc (.int .i64 p0)), (3, .sc (.string v1_0)), (4, .sc (.int .i64 v1_1)), (5, .sc (.int .i64 j2_0))] []
def inv_s_NumText_1 (p0 : Int) (v1_0 : ByteArray) (v1_1 : Int) : St := mkT 31 [(0, .sc (.int .i64 p0)), (3, .sc (.string v1_0)), (4, .sc (.int .i64 v1_1))] []
def inv_s_NumText_0 (p0 : Int) (j0_0 : ByteArray) : St := mkT 31 [(0, .sc (.int .i64 p0)), (3, .sc (.string j0_0))] []
theorem ws_NumText (p0 : Int) (r0 : ByteArray) (h : s_NumText p0 = some r0) : Runs Tryz.prog 157 [.sc (.int .i64 p0)] [] (.sc (.string r0)) [] := by
 unfold s_NumText at h;refine runsR [.tmp 2] Tryz.func157 rfl rfl rfl rfl ?_;rw [Tryz.ntmps157];refine tri_sr ?_;refine n2 (.sc (.string (⟨#[]⟩ : ByteArray))) ?_;refine rt_nil ?_;refine tri_seq ?_;refine tri_sr ?_;refine m1 ?_;refine so (st_eqI rfl rfl rfl) ?_;refine rt_nil ?_;refine tri_cond rfl (fun c1 => ?_) (fun c1 => ?_)
 ·replace h := cond_t h c1;refine tri_sr ?_;refine n2 (.sc (.string (⟨#[48]⟩ : ByteArray))) ?_;refine rt_nil ?_;refine tri_ret ?_;have e0 := (some1 h); subst e0;exact eY [] (rvC (resTmp rfl) rvN) iN (.free rfl)
 ·replace h := cond_f h c1;refine tri_skip ?_;refine tri_sr ?_;refine n2 (.sc (.string (⟨#[]⟩ : ByteArray))) ?_;refine rt_nil ?_;refine tri_cutI (ι := { p : ByteArray // s_NumText_j0 p0 p = some r0 }) (fun p => inv_s_NumText_0 p0 p.1) ?_ ?_
  ·refine tri_sr ?_;refine m1 ?_;refine m2 ?_;refine rt_nil ?_;refine tri_block ?_;refine tri_loop (ι := { p : Nat × ByteArray × Int // s_NumText_l1 p0 p.1 p.2.1 p.2.2 = some r0 }) (fun p => inv_s_NumText_1 p0 p.1.2.1 p.1.2.2) (fun p => p.1.1) ⟨(fuel0, (⟨#[]⟩ : ByteArray), p0), h⟩ ?_ ?_
   ·refine eX [] iN ?_;exact ⟨(.free rfl), (.free rfl), (.free rfl), trivial⟩
   ·rintro ⟨⟨f1, v1_0, v1_1⟩, h⟩;replace h : s_NumText_l1 p0 f1 v1_0 v1_1 = some r0 := h;cases f1 with
    | zero => cases h
    | succ f1 =>
    rw [s_NumText_l1] at h;show Tri _ _ _ (inv_s_NumText_1 p0 v1_0 v1_1);refine tri_seq ?_;refine tri_sr ?_;refine m1 ?_;refine so (st_neI rfl rfl rfl) ?_;refine rt_nil ?_;refine tri_cond rfl (fun c2 => ?_) (fun c2 => ?_)
    ·replace h := cond_t h c2;refine tri_skip ?_;refine tri_seq ?_;refine tri_block ?_;refine tri_sr ?_;refine m1 ?_;refine so (st_rem rfl rfl rfl (by decide)) ?_;refine m2 ?_;refine rt_nil ?_;refine tri_cutI (ι := { p : Int // s_NumText_j2 v1_0 v1_1 (s_NumText_l1 p0 f1) p = some r0 }) (fun p => inv_s_NumText_2 p0 v1_0 v1_1 p.1) ?_ ?_
     ·refine tri_sr ?_;refine m1 ?_;refine so (st_lss rfl rfl rfl) ?_;refine rt_nil ?_;refine tri_cond rfl (fun c3 => ?_) (fun c3 => ?_)
      ·replace h := cond_t h c3;refine tri_region ?_;refine m1 ?_;refine so (st_neg rfl rfl) ?_;refine m2 ?_;refine rt_nil ?_;refine Exists.intro ⟨IntKind.i64.wrap (-(Int.tmod v1_1 10)), h⟩ ?_;refine eX [] iN ?_;exact ⟨(.free rfl), (.free rfl), (.free rfl), (.free rfl), trivial⟩
      ·replace h := cond_f h c3;refine tri_skip ?_;refine Exists.intro ⟨Int.tmod v1_1 10, h⟩ ?_;refine eX [] iN ?_;exact ⟨(.free rfl), (.free rfl), (.free rfl), (.free rfl), trivial⟩
     ·rintro ⟨j2_0, h⟩;replace h : s_NumText_j2 v1_0 v1_1 (s_NumText_l1 p0 f1) j2_0 = some r0 := h;unfold s_NumText_j2 at h;show Tri _ _ _ (inv_s_NumText_2 p0 v1_0 v1_1 j2_0);refine tri_region ?_;refine m1 ?_;refine grd_elim h fun g3 h => ?_;refine ai g3 ?_;refine so (st_conv ik3 ik5 rfl rfl) ?_;refine s_buildSlice (rows' := List.map byteV [IntKind.u8.wrap (48 + j2_0)]) rfl rfl rfl sl22 zc5 rfl rfl rfl rfl rfl rfl rfl rfl rfl ?_;refine s_toString rfl (src_refL rfl rfl) byt22 iss9 rfl rfl rfl rfl ?_;refine m1 ?_;refine grd_elim h fun g4 h => ?_;refine so (st_catS g4 rfl rfl rfl) ?_;refine m2 ?_;refine rt_nil ?_;refine tri_region ?_;refine m1 ?_;refine so (st_quo rfl rfl rfl (by decide)) ?_;refine m2 ?_;refine rt_nil ?_;refine Exists.intro ⟨(f1, (strOfNums [IntKind.u8.wrap (48 + j2_0)]) ++ v1_0, IntKind.i64.wrap (Int.tdiv v1_1 10)), h⟩ (And.intro (Nat.lt_succ_self _) ?_);refine eX [] iN ?_;exact ⟨(.free rfl), (.free rfl), (.free rfl), trivial⟩
    ·replace h := cond_f h c2;refine tri_exit ?_;refine Exists.intro ⟨v1_0, h⟩ ?_;refine eX [] iN ?_;exact ⟨(.free rfl), (.free rfl), trivial⟩
  ·rintro ⟨j0_0, h⟩;replace h : s_NumText_j0 p0 j0_0 = some r0 := h;unfold s_NumText_j0 at h;show Tri _ _ _ (inv_s_NumText_0 p0 j0_0);refine tri_seq ?_;refine tri_sr ?_;refine m1 ?_;refine so (st_lss rfl rfl rfl) ?_;refine rt_nil ?_;refine tri_cond rfl (fun c2 => ?_) (fun c2 => ?_)
   ·replace h := cond_t h c2;refine tri_sr ?_;refine m1 ?_;refine grd_elim h fun g3 h => ?_;refine so (st_catS g3 rfl rfl rfl) ?_;refine m2 ?_;refine rt_nil ?_;refine tri_ret ?_;have e0 := (some1 h); subst e0;exact eY [] (rvC (resTmp rfl) rvN) iN (.free rfl)
   ·replace h := cond_f h c2;refine tri_skip ?_;refine tri_sr ?_;refine m1 ?_;refine m2 ?_;refine rt_nil ?_;refine tri_ret ?_;have e0 := (some1 h); subst e0;exact eY [] (rvC (resTmp rfl) rvN) iN (.free rfl)

/- spec.TypeText -/

theorem ws_TypeText (p0 : Int) (r0 : ByteArray) (h : s_TypeText p0 = some r0) : Runs Tryz.prog 158 [.sc (.int .i64 p0)] [] (.sc (.string r0)) [] := by
 unfold s_TypeText at h;refine runsR [.tmp 2] Tryz.func158 rfl rfl rfl rfl ?_;rw [Tryz.ntmps158];refine tri_sr ?_;refine n2 (.sc (.string (⟨#[]⟩ : ByteArray))) ?_;refine rt_nil ?_;refine tri_seq ?_;refine tri_sr ?_;refine m1 ?_;refine rt_nil ?_;refine tri_block ?_;refine tri_sr ?_;refine so (st_eqI rfl rfl rfl) ?_;refine m2 ?_;refine rt_nil ?_;refine tri_cond rfl (fun c1 => ?_) (fun c1 => ?_)
 ·replace h := cond_t h c1;refine tri_sr ?_;refine n2 (.sc (.string (⟨#[97, 100, 100, 114]⟩ : ByteArray))) ?_;refine rt_nil ?_;refine tri_ret ?_;have e0 := (some1 h); subst e0;exact eY [] (rvC (resTmp rfl) rvN) iN (.free rfl)
 ·replace h := cond_f h c1;refine tri_sr ?_;refine so (st_eqI rfl rfl rfl) ?_;refine m2 ?_;refine rt_nil ?_;refine tri_cond rfl (fun c2 => ?_) (fun c2 => ?_)
  ·replace h := cond_t h c2;refine tri_sr ?_;refine n2 (.sc (.string (⟨#[115, 101, 114, 118, 101, 114]⟩ : ByteArray))) ?_;refine rt_nil ?_;refine tri_ret ?_;have e0 := (some1 h); subst e0;exact eY [] (rvC (resTmp rfl) rvN) iN (.free rfl)
  ·replace h := cond_f h c2;refine tri_sr ?_;refine so (st_eqI rfl rfl rfl) ?_;refine m2 ?_;refine rt_nil ?_;refine tri_cond rfl (fun c3 => ?_) (fun c3 => ?_)
   ·replace h := cond_t h c3;refine tri_sr ?_;refine n2 (.sc (.string (⟨#[97, 108, 105, 97, 115]⟩ : ByteArray))) ?_;refine rt_nil ?_;refine tri_ret ?_;have e0 := (some1 h); subst e0;exact eY [] (rvC (resTmp rfl) rvN) iN (.free rfl)
   ·replace h := cond_f h c3;refine tri_sr ?_;refine so (st_eqI rfl rfl rfl) ?_;refine m2 ?_;refine rt_nil ?_;refine tri_cond rfl (fun c4 => ?_) (fun c4 => ?_)
    ·replace h := cond_t h c4;refine tri_sr ?_;refine n2 (.sc (.string (⟨#[115, 116, 97, 114, 116]⟩ : ByteArray))) ?_;refine rt_nil ?_;refine tri_ret ?_;have e0 := (some1 h); subst e0;exact eY [] (rvC (resTmp rfl) rvN) iN (.free rfl)
    ·replace h := cond_f h c4;refine tri_sr ?_;refine so (st_eqI rfl rfl rfl) ?_;refine m2 ?_;refine rt_nil ?_;refine tri_cond rfl (fun c5 => ?_) (fun c5 => ?_)
     ·replace h := cond_t h c5;refine tri_sr ?_;refine n2 (.sc (.string (⟨#[116, 101, 120, 116]⟩ : ByteArray))) ?_;refine rt_nil ?_;refine tri_ret ?_;have e0 := (some1 h); subst e0;exact eY [] (rvC (resTmp rfl) rvN) iN (.free rfl)
     ·replace h := cond_f h c5;refine tri_skip ?_;refine tri_sr ?_;refine n2 (.sc (.string (⟨#[]⟩ : ByteArray))) ?_;refine rt_nil ?_;refine tri_ret ?_;have e0 := (some1 h); subst e0;exact eY [] (rvC (resTmp rfl) rvN) iN (.free rfl)

/- spec.RecordText -/

theorem ws_RecordText (p0 : Rec) (r0 : ByteArray) (h : s_RecordText p0 = some r0) : Runs Tryz.prog 112 [.agg (recV p0)] [] (.sc (.string r0)) [] := by
 unfold s_RecordText at h;refine runsR [.tmp 2] Tryz.func112 rfl rfl rfl rfl ?_;rw [Tryz.ntmps112];refine tri_sr ?_;refine s_box rfl rfl rfl rfl rfl rfl rfl ?_;refine n2 (.sc (.string (⟨#[]⟩ : ByteArray))) ?_;refine rt_nil ?_;refine tri_seq ?_;refine tri_sr ?_;refine s_loadR rfl rfl rfl rfl ty48 rfl rfl rfl ?_;refine bnd1_elim h fun x1 q2 h => ?_;refine cS cl155 (ws_RecordOk p0 x1 q2) (.cons (relAgg rfl) .nil) ?_;refine so (st_not rfl rfl) ?_;refine rt_nil ?_;refine tri_cond rfl (fun c3 => ?_) (fun c3 => ?_)
 ·replace h := cond_t h c3;refine tri_sr ?_;refine n2 (.sc (.string (⟨#[]⟩ : ByteArray))) ?_;refine rt_nil ?_;refine tri_ret ?_;have e0 := (some1 h); subst e0;exact eY [] (rvC (resTmp rfl) rvN) iN (.free rfl)
 ·replace h := cond_f h c3;refine tri_skip ?_;refine tri_seq ?_;refine tri_draw mixed ?_;refine fa fd48_0 ?_;refine ld ty9 ?_;refine bnd1_elim h fun x4 q5 h => ?_;refine cS cl156 (ws_l5Dot p0.name x4 q5) (aF .nil) ?_;refine grd_elim h fun g6 h => ?_;refine so (st_catS g6 rfl rfl rfl) ?_;refine fa fd48_2 ?_;refine ld ty3 ?_;refine bnd1_elim h fun x7 q8 h => ?_;refine cS cl157 (ws_NumText p0.ttl x7 q8) (aF .nil) ?_;refine grd_elim h fun g9 h => ?_;refine so (st_catS g9 rfl rfl rfl) ?_;refine grd_elim h fun g10 h => ?_;refine so (st_catS g10 rfl rfl rfl) ?_;refine fa fd48_1 ?_;refine ld ty3 ?_;refine bnd1_elim h fun x11 q12 h => ?_;refine cS cl158 (ws_TypeText p0.ty x11 q12) (aF .nil) ?_;refine grd_elim h fun g13 h => ?_;refine so (st_catS g13 rfl rfl rfl) ?_;refine grd_elim h fun g14 h => ?_;refine so (st_catS g14 rfl rfl rfl) ?_;refine m2 ?_;refine rt_nil ⟨by kernel_rfl, ?_⟩;refine tri_seq ?_;refine tri_sr ?_;refine fa fd48_1 ?_;refine ld ty3 ?_;refine rt_nil ?_;refine tri_block ?_;refine tri_sr ?_;refine so (st_eqI rfl rfl rfl) ?_;refine m2 ?_;refine rt_nil ?_;refine tri_cond rfl (fun c15 => ?_) (fun c15 => ?_)
  ·replace h := cond_t h c15;refine tri_sr ?_;refine m1 ?_;refine fa fd48_3 ?_;refine ld ty3 ?_;refine bnd1_elim h fun x16 q17 h => ?_;refine cS cl157 (ws_NumText p0.n x16 q17) (aF .nil) ?_;refine grd_elim h fun g18 h => ?_;refine so (st_catS g18 rfl rfl rfl) ?_;refine m2 ?_;refine rt_nil ?_;refine tri_ret ?_;have e0 := (some1 h); subst e0;exact eY [] (rvC (resTmp rfl) rvN) iN (.free rfl)
  ·replace h := cond_f h c15;refine tri_sr ?_;refine so (st_eqI rfl rfl rfl) ?_;refine m2 ?_;refine rt_nil ?_;refine tri_cond rfl (fun c19 => ?_) (fun c19 => ?_)
   ·replace h := cond_t h c19;refine tri_seq ?_;refine tri_draw mixed ?_;refine m1 ?_;refine fa fd48_4 ?_;refine ld ty9 ?_;refine bnd1_elim h fun x20 q21 h => ?_;refine cS cl156 (ws_l5Dot p0.host x20 q21) (aF .nil) ?_;refine grd_elim h fun g22 h => ?_;refine so (st_catS g22 rfl rfl rfl) ?_;refine grd_elim h fun g23 h => ?_;refine so (st_catS g23 rfl rfl rfl) ?_;refine fa fd48_3 ?_;refine ld ty3 ?_;refine bnd1_elim h fun x24 q25 h => ?_;refine cS cl157 (ws_NumText p0.n x24 q25) (aF .nil) ?_;refine grd_elim h fun g26 h => ?_;refine so (st_catS g26 rfl rfl rfl) ?_;refine m2 ?_;refine rt_nil ⟨by kernel_rfl, ?_⟩;refine tri_ret ?_;have e0 := (some1 h); subst e0;exact eY [] (rvC (resTmp rfl) rvN) iN (.free rfl)
   ·replace h := cond_f h c19;refine tri_sr ?_;refine so (st_eqI rfl rfl rfl) ?_;refine m2 ?_;refine rt_nil ?_;refine tri_cond rfl (fun c27 => ?_) (fun c27 => ?_)
    ·replace h := cond_t h c27;refine tri_sr ?_;refine m1 ?_;refine grd_elim h fun g28 h => ?_;refine so (st_catS g28 rfl rfl rfl) ?_;refine fa fd48_5 ?_;refine ld ty9 ?_;refine grd_elim h fun g29 h => ?_;refine so (st_catS g29 rfl rfl rfl) ?_;refine m2 ?_;refine rt_nil ?_;refine tri_ret ?_;have e0 := (some1 h); subst e0;exact eY [] (rvC (resTmp rfl) rvN) iN (.free rfl)
    ·replace h := cond_f h c27;refine tri_skip ?_;refine tri_sr ?_;refine m1 ?_;refine fa fd48_4 ?_;refine ld ty9 ?_;refine bnd1_elim h fun x30 q31 h => ?_;refine cS cl156 (ws_l5Dot p0.host x30 q31) (aF .nil) ?_;refine grd_elim h fun g32 h => ?_;refine so (st_catS g32 rfl rfl rfl) ?_;refine m2 ?_;refine rt_nil ?_;refine tri_ret ?_;have e0 := (some1 h); subst e0;exact eY [] (rvC (resTmp rfl) rvN) iN (.free rfl)

/- spec.l7Texts -/
def inv_s_l7Texts_0 (p0 : List Rec) (v0_0 : ByteArray) (v0_1 : Nat) : St := mkT 20 [(0, .lst 6 (List.map recV p0)), (3, .sc (.string v0_0)), (4, .sc (.int .i64 (v0_1 : Int)))] []
theorem ws_l7Texts (p0 : List Rec) (r0 : ByteArray) (h : s_l7Texts p0 = some r0) : Runs Tryz.prog 59 [.lst 6 (List.map recV p0)] [] (.sc (.string r0)) [] := by
 unfold s_l7Texts at h;refine runsR [.tmp 2] Tryz.func59 rfl rfl rfl rfl ?_;rw [Tryz.ntmps59];refine tri_sr ?_;refine n2 (.sc (.string (⟨#[]⟩ : ByteArray))) ?_;refine rt_nil ?_;refine tri_sr ?_;refine n2 (.sc (.string (⟨#[]⟩ : ByteArray))) ?_;refine rt_nil ?_;refine tri_seq ?_;refine tri_sr ?_;refine n2 (.sc (.int .i64 0)) ?_;refine rt_nil ?_;refine tri_block ?_;refine tri_lstM 0 rfl (fun hl0 => ?_);refine tri_loop (ι := { p : (List Rec) × ByteArray × Nat // p0.drop p.2.2 = p.1 ∧ s_l7Texts_l0 p.1 p.2.1 p.2.2 = some r0 }) (fun p => inv_s_l7Texts_0 p0 p.1.2.1 p.1.2.2) (fun p => p.1.1.length) ⟨(p0, (⟨#[]⟩ : ByteArray), 0), rfl, h⟩ ?_ ?_
 ·refine eX [] iN ?_;exact ⟨(.free rfl), (.free rfl), (.free rfl), trivial⟩
 ·rintro ⟨⟨lrs0, v0_0, v0_1⟩, hd0, h⟩;replace hd0 : p0.drop v0_1 = lrs0 := hd0;replace h : s_l7Texts_l0 lrs0 v0_0 v0_1 = some r0 := h;show Tri _ _ _ (inv_s_l7Texts_0 p0 v0_0 v0_1);refine tri_seq ?_;refine tri_sr ?_;refine m1 ?_;refine m1 ?_;refine s_lenL rfl sl24 rfl rfl rfl rfl ?_;refine so (st_lss rfl rfl rfl) ?_;refine rt_nil ?_;refine tri_cond rfl (fun c1 => ?_) (fun c1 => ?_)
  ·refine drop_elim hd0 c1 fun e0 rs0 he hx0 hn0 => ?_;subst he;rw [s_l7Texts_l0] at h;refine tri_skip ?_;refine tri_seq ?_;refine tri_block ?_;refine tri_region ?_;refine m1 ?_;refine grd_elim h fun g2 h => ?_;refine so (st_catS g2 rfl rfl rfl) ?_;refine m1 ?_;refine m1 ?_;refine s_indexF (i := v0_1) rfl rfl rfl sl24 (get_ltM hx0) rfl rfl rfl ?_;refine s_loadFR rfl rfl (rowG hx0) ty48 rfl rfl rfl ?_;refine bnd1_elim h fun x3 q4 h => ?_;refine cS cl112 (ws_RecordText e0 x3 q4) (.cons (relAgg rfl) .nil) ?_;refine grd_elim h fun g5 h => ?_;refine so (st_catS g5 rfl rfl rfl) ?_;refine m2 ?_;refine rt_nil ?_;refine tri_region ?_;refine m1 ?_;refine s_inc (a := v0_1) (b := 1) rfl rfl rfl rfl (by have := get_lt hx0; have := hl0; omega) rfl rfl rfl ?_;refine m2 ?_;refine rt_nil ?_;refine Exists.intro ⟨(rs0, (v0_0 ++ (⟨#[59, 32]⟩ : ByteArray)) ++ x3, (v0_1 + 1)), hn0, h⟩ (And.intro (Nat.lt_succ_self _) ?_);refine eX [] iN ?_;exact ⟨(.free rfl), (.free rfl), (.free rfl), trivial⟩
  ·have he := drop_f hd0 c1; subst he;rw [s_l7Texts_l0] at h;refine tri_exit ?_;refine tri_sr ?_;refine m1 ?_;refine m2 ?_;refine rt_nil ?_;refine tri_ret ?_;have e0 := (some1 h); subst e0;exact eY [] (rvC (resTmp rfl) rvN) iN (.free rfl)

/- spec.FactText -/
def inv_s_FactText_0 (p0 : MFact) (j0_0 : ByteArray) : St := mkT 25 [(1, .ptr (1, 0) 0 0), (3, .sc (.string j0_0))] [((1, 0), some ⟨26, 4, [[.sc (.int .i64 p0.code), .lst 6 (List.map recV p0.links), .lst 6 (List.map recV p0.l), .sc (.bool p0.fin)]], false, true⟩)]
theorem ws_FactText (p0 : MFact) (r0 : ByteArray) (h : s_FactText p0 = some r0) : Runs Tryz.prog 18 [.agg (mFactV p0)] [] (.sc (.string r0)) [] := by
 unfold s_FactText at h;refine runsR [.tmp 2] Tryz.func18 rfl rfl rfl rfl ?_;rw [Tryz.ntmps18];refine tri_sr ?_;refine s_box rfl rfl rfl rfl rfl rfl rfl ?_;refine n2 (.sc (.string (⟨#[]⟩ : ByteArray))) ?_;refine rt_nil ?_;refine tri_seq ?_;refine tri_sr ?_;refine fa fd26_3 ?_;refine ld ty4 ?_;refine so (st_not rfl rfl) ?_;refine rt_nil ?_;refine tri_cond rfl (fun c1 => ?_) (fun c1 => ?_)
 ·replace h := cond_t h c1;refine tri_sr ?_;refine n2 (.sc (.string (⟨#[114, 111, 117, 110, 100]⟩ : ByteArray))) ?_;refine rt_nil ?_;refine tri_ret ?_;have e0 := (some1 h); subst e0;exact eY [] (rvC (resTmp rfl) rvN) iN (.free rfl)
 ·replace h := cond_f h c1;refine tri_skip ?_;refine tri_sr ?_;refine n2 (.sc (.string (⟨#[115, 101, 116]⟩ : ByteArray))) ?_;refine rt_nil ?_;refine tri_cutI (ι := { p : ByteArray // s_FactText_j0 p0 p = some r0 }) (fun p => inv_s_FactText_0 p0 p.1) ?_ ?_
  ·refine tri_block ?_;refine tri_sr ?_;refine fa fd26_0 ?_;refine ld ty3 ?_;refine so (st_eqI rfl rfl rfl) ?_;refine m2 ?_;refine rt_nil ?_;refine tri_cond rfl (fun c2 => ?_) (fun c2 => ?_)
   ·replace h := cond_t h c2;refine tri_region ?_;refine n2 (.sc (.string (⟨#[110, 111, 110, 97, 109, 101]⟩ : ByteArray))) ?_;refine rt_nil ?_;refine Exists.intro ⟨(⟨#[110, 111, 110, 97, 109, 101]⟩ : ByteArray), h⟩ ?_;refine eX [((1, 0), _, some (1, 0))] (iF rfl iN) ?_;exact ⟨(.ptr rfl), (.free rfl), trivial⟩
   ·replace h := cond_f h c2;refine tri_sr ?_;refine fa fd26_2 ?_;refine ld ty24 ?_;refine s_lenL rfl sl24 rfl rfl rfl rfl ?_;refine so (st_eqI rfl rfl rfl) ?_;refine m2 ?_;refine rt_nil ?_;refine tri_cond rfl (fun c3 => ?_) (fun c3 => ?_)
    ·replace h := cond_t h c3;refine tri_region ?_;refine n2 (.sc (.string (⟨#[110, 111, 100, 97, 116, 97]⟩ : ByteArray))) ?_;refine rt_nil ?_;refine Exists.intro ⟨(⟨#[110, 111, 100, 97, 116, 97]⟩ : ByteArray), h⟩ ?_;refine eX [((1, 0), _, some (1, 0))] (iF rfl iN) ?_;exact ⟨(.ptr rfl), (.free rfl), trivial⟩
    ·replace h := cond_f h c3;refine tri_skip ?_;refine Exists.intro ⟨(⟨#[115, 101, 116]⟩ : ByteArray), h⟩ ?_;refine eX [((1, 0), _, some (1, 0))] (iF rfl iN) ?_;exact ⟨(.ptr rfl), (.free rfl), trivial⟩
  ·rintro ⟨j0_0, h⟩;replace h : s_FactText_j0 p0 j0_0 = some r0 := h;unfold s_FactText_j0 at h;show Tri _ _ _ (inv_s_FactText_0 p0 j0_0);refine tri_seq ?_;refine tri_draw mixed ?_;refine m1 ?_;refine fa fd26_1 ?_;refine ld ty24 ?_;refine bnd1_elim h fun x2 q3 h => ?_;refine cS cl59 (ws_l7Texts p0.links x2 q3) (aF .nil) ?_;refine grd_elim h fun g4 h => ?_;refine so (st_catS g4 rfl rfl rfl) ?_;refine fa fd26_2 ?_;refine ld ty24 ?_;refine bnd1_elim h fun x5 q6 h => ?_;refine cS cl59 (ws_l7Texts p0.l x5 q6) (aF .nil) ?_;refine grd_elim h fun g7 h => ?_;refine so (st_catS g7 rfl rfl rfl) ?_;refine m2 ?_;refine rt_nil ⟨by kernel_rfl, ?_⟩;refine tri_ret ?_;have e0 := (some1 h); subst e0;exact eY [] (rvC (resTmp rfl) rvN) iN (.free rfl)

/- impl.EndOf -/

theorem wi_EndOf (p0 : MForest) (p1 : Quest) (r0 : ByteArray) (h : i_EndOf p0 p1 = some r0) : Runs Tryz.prog 24 [.agg (mForestV p0), .agg (questV p1)] [] (.sc (.string r0)) [] := by
 unfold i_EndOf at h;refine runsR [.tmp 4] Tryz.func24 rfl rfl rfl rfl ?_;rw [Tryz.ntmps24];refine tri_sr ?_;refine s_box rfl rfl rfl rfl rfl rfl rfl ?_;refine s_box rfl rfl rfl rfl rfl rfl rfl ?_;refine n2 (.sc (.string (⟨#[]⟩ : ByteArray))) ?_;refine rt_nil ?_;refine tri_sr ?_;refine s_loadR rfl rfl rfl rfl ty34 rfl rfl rfl ?_;refine s_loadR rfl rfl rfl rfl ty36 rfl rfl rfl ?_;refine bnd1_elim h fun x1 q2 h => ?_;refine cO [] (.agg [.sc (.int .i64 x1.code), .ref (8, 1) 0 x1.links.length, .ref (8, 2) 0 x1.l.length, .sc (.bool x1.fin)]) cl21 (wi_FactOf p0 p1 x1 q2) (.cons (relAgg rfl) (.cons (relAgg rfl) .nil)) ⟨(allSc_map recV_sc), ⟨(allSc_map recV_sc), trivial⟩⟩ ?_;refine s_field rfl rfl fd26_1 rfl (.inr rfl) (by conv => lhs; whnf) rfl rfl rfl ?_;refine m2 ?_;refine rt_nil ?_;refine tri_seq ?_;refine tri_sr ?_;refine m1 ?_;refine s_len (m := x1.links.length) rfl sl24 rfl rfl rfl rfl ?_;refine so (st_eqI rfl rfl rfl) ?_;refine rt_nil ?_;refine tri_cond rfl (fun c3 => ?_) (fun c3 => ?_)
 ·replace h := cond_t h c3;refine tri_sr ?_;refine fa fd36_0 ?_;refine ld ty9 ?_;refine m2 ?_;refine rt_nil ?_;refine tri_ret ?_;have e0 := (some1 h); subst e0;exact eY [] (rvC (resTmp rfl) rvN) iN (.free rfl)
 ·replace h := cond_f h c3;refine tri_skip ?_;refine tri_sr ?_;refine m1 ?_;refine m1 ?_;refine s_len (m := x1.links.length) rfl sl24 rfl rfl rfl rfl ?_;refine grd_elim h fun g4 h => ?_;refine s_subI rfl rfl rfl rfl g4 rfl rfl rfl ?_;refine bnd1_elim h fun x5 q6 h => ?_;have q6a := (idx_some q6).1; have q6b := (idx_some q6).2;refine s_indexZ rfl rfl rfl rfl sl24 rfl q6a (get_lt q6b) rfl rfl rfl ?_;refine fa fd48_4 ?_;refine s_load rfl rfl rfl (rowG q6b) ty9 rfl (.inr rfl) (by conv => lhs; whnf) rfl rfl rfl ?_;refine m2 ?_;refine rt_nil ?_;refine tri_ret ?_;have e0 := (some1 h); subst e0;exact eY [] (rvC (resTmp rfl) rvN) iN (.free rfl)

end Go.Abs.M
