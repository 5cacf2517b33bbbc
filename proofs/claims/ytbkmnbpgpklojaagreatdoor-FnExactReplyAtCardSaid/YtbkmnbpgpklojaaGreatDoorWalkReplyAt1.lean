/- Walks of the functions that the law of ReplyAt reaches: what each of them computes, where its pure function does not fail. -/
import Derived.Test.YtbkmnbpgpklojaaGreatDoorWalkReplyAt0
set_option linter.unusedSimpArgs false
set_option linter.unusedVariables false
namespace Go.Abs.M
open Go Go.Abs Go.Proofs
theorem cl105 : callable Tryz.prog 105 = true := by kernel_rfl
theorem cl122 : callable Tryz.prog 122 = true := by kernel_rfl
theorem cl123 : callable Tryz.prog 123 = true := by kernel_rfl
theorem cl124 : callable Tryz.prog 124 = true := by kernel_rfl
theorem cl128 : callable Tryz.prog 128 = true := by kernel_rfl
theorem cl129 : callable Tryz.prog 129 = true := by kernel_rfl
theorem cl130 : callable Tryz.prog 130 = true := by kernel_rfl
theorem cl132 : callable Tryz.prog 132 = true := by kernel_rfl
theorem cl139 : callable Tryz.prog 139 = true := by kernel_rfl
theorem cl140 : callable Tryz.prog 140 = true := by kernel_rfl
theorem cl141 : callable Tryz.prog 141 = true := by kernel_rfl
theorem cl142 : callable Tryz.prog 142 = true := by kernel_rfl
theorem cl143 : callable Tryz.prog 143 = true := by kernel_rfl
theorem cl162 : callable Tryz.prog 162 = true := by kernel_rfl
theorem cl163 : callable Tryz.prog 163 = true := by kernel_rfl
theorem cl164 : callable Tryz.prog 164 = true := by kernel_rfl
theorem cl165 : callable Tryz.prog 165 = true := by kernel_rfl
theorem cl166 : callable Tryz.prog 166 = true := by kernel_rfl
theorem cl167 : callable Tryz.prog 167 = true := by kernel_rfl
theorem cl169 : callable Tryz.prog 169 = true := by kernel_rfl
theorem cl170 : callable Tryz.prog 170 = true := by kernel_rfl
theorem cl182 : callable Tryz.prog 182 = true := by kernel_rfl
theorem cl183 : callable Tryz.prog 183 = true := by kernel_rfl
theorem cl184 : callable Tryz.prog 184 = true := by kernel_rfl
theorem cl191 : callable Tryz.prog 191 = true := by kernel_rfl
theorem cl192 : callable Tryz.prog 192 = true := by kernel_rfl
theorem cl197 : callable Tryz.prog 197 = true := by kernel_rfl
theorem cl199 : callable Tryz.prog 199 = true := by kernel_rfl
theorem cl46 : callable Tryz.prog 46 = true := by kernel_rfl
theorem cl50 : callable Tryz.prog 50 = true := by kernel_rfl
theorem cl55 : callable Tryz.prog 55 = true := by kernel_rfl
theorem cl60 : callable Tryz.prog 60 = true := by kernel_rfl
theorem cl67 : callable Tryz.prog 67 = true := by kernel_rfl
theorem cl68 : callable Tryz.prog 68 = true := by kernel_rfl
theorem cl69 : callable Tryz.prog 69 = true := by kernel_rfl
theorem cl91 : callable Tryz.prog 91 = true := by kernel_rfl
theorem cl93 : callable Tryz.prog 93 = true := by kernel_rfl
theorem cl94 : callable Tryz.prog 94 = true := by kernel_rfl
theorem cl95 : callable Tryz.prog 95 = true := by kernel_rfl
theorem cl96 : callable Tryz.prog 96 = true := by kernel_rfl
theorem fk133 : flatK Tryz.prog 133 = some [1, 2] := by kernel_rfl
theorem stc133 : strTy Tryz.prog 133 = some ([(0, 1), (1, 1)], [.int .i64 0, .string ⟨#[]⟩]) := by kernel_rfl
/- spec.HelpIn -/

set_option maxRecDepth 4000 in
set_option maxHeartbeats 800000 in
theorem ws_HelpIn (p0 : MZone) (p1 : Quest) (r0 : List Rec) (h : s_HelpIn p0 p1 = some r0) : Runs Tryz.prog 124 [.agg (mZoneV p0), .agg (questV p1)] [] (.own 48 6 (List.map recV r0)) [] := by
  unfold s_HelpIn at h
  refine runsR [.tmp 4] Tryz.func124 rfl rfl rfl rfl ?_
  rw [Tryz.ntmps124]
  refine tri_seq ?_
  refine tri_region ?_
  refine s_box rfl rfl rfl rfl rfl rfl rfl ?_
  refine s_box rfl rfl rfl rfl rfl rfl rfl ?_
  refine s_mv (.inr rfl) (v := .nils) rfl rfl rfl rfl ?_
  refine rt_nil ?_
  refine tri_seq ?_
  refine tri_seq ?_
  refine tri_region ?_
  refine s_loadR rfl rfl rfl rfl ty83 rfl rfl rfl ?_
  refine s_loadR rfl rfl rfl rfl ty36 rfl rfl rfl ?_
  refine bnd1_elim h fun x1 q2 h => ?_
  refine s_callN (kb := []) (ns := []) (v := .sc (.int .i64 x1)) rfl rfl cl49 (ws_KindIn p0 p1 x1 q2) rfl (.cons (relAgg rfl) (.cons (relAgg rfl) .nil)) trivial memNil .nil memNil rfl trivial memNil rfl rfl rfl rfl rfl rfl ?_
  refine s_of (st_neI rfl rfl rfl) rfl rfl rfl rfl ?_
  refine rt_nil ?_
  refine tri_cond rfl (fun c3 => ?_) (fun c3 => ?_)
  · replace h := cond_t h c3
    refine tri_seq ?_
    refine tri_region ?_
    refine s_buildSlice (rows' := List.map recV ([] : List Rec)) rfl rfl rfl sl24 zc48 rfl rfl rfl rfl rfl rfl rfl rfl rfl ?_
    refine s_mv (.inr rfl) (by conv => lhs; whnf) rfl rfl rfl ?_
    refine rt_nil ?_
    refine tri_ret ?_
    have e0 := (some1 h); subst e0
    exact endY (v' := .ref (2000, 0) 0 (([] : List Rec).length)) [((2000, 0), ⟨48, 6, List.map recV ([] : List Rec), false, true⟩, some (9, 0))] [] (rvC (resTmp rfl) rvN) ⟨⟨rfl, _, rfl, rfl, rfl, rfl, id, rowsCv_eq rfl (allFree_map recV_free), rowsZ_map recV_len⟩, trivial⟩ trivial rfl rfl (by kernel_rfl) (by first | (simp only [V.mat, V.mat1, V.mat0, matL, matT, List.length_map]; done) | (simp only [V.mat, V.mat1, V.mat0, matL, matT, List.length_map]; rfl)) (.ref rfl)
  · replace h := cond_f h c3
    refine tri_skip ?_
    refine tri_seq ?_
    refine tri_draw mixed ?_
    refine s_loadR rfl rfl rfl rfl ty83 rfl rfl rfl ?_
    refine s_loadR rfl rfl rfl rfl ty83 rfl rfl rfl ?_
    refine s_loadR rfl rfl rfl rfl ty36 rfl rfl rfl ?_
    refine bnd1_elim h fun x4 q5 h => ?_
    refine s_callN (kb := []) (ns := []) (v := .ref (13, 0) 0 x4.length) rfl rfl cl123 (ws_MoreIn p0 p1 x4 q5) rfl (.cons (relAgg rfl) (.cons (relAgg rfl) .nil)) trivial memNil .nil memNil rfl ⟨(allSc_map recV_sc), trivial⟩ memNil rfl (by first | (simp only [V.mat, V.mat1, V.mat0, matL, matT, List.length_map]; done) | (simp only [V.mat, V.mat1, V.mat0, matL, matT, List.length_map]; rfl)) rfl rfl rfl rfl ?_
    refine bnd1_elim h fun x6 q7 h => ?_
    refine s_callN (kb := [(13, 0)]) (ns := []) (v := .ref (14, 0) 0 x6.length) rfl rfl cl163 (ws_Hosts x4 x6 q7) rfl (.cons (lendL rfl (.head _) rfl recV_free recV_len) .nil) trivial memNil .nil (fun _ _ => List.not_mem_nil) rfl ⟨(allSc_map strV_sc), trivial⟩ memNil rfl (by first | (simp only [V.mat, V.mat1, V.mat0, matL, matT, List.length_map]; done) | (simp only [V.mat, V.mat1, V.mat0, matL, matT, List.length_map]; rfl)) rfl rfl rfl rfl ?_
    refine bnd1_elim h fun x8 q9 h => ?_
    refine s_callN (kb := [(14, 0)]) (ns := []) (v := .ref (15, 0) 0 x8.length) rfl rfl cl162 (ws_Glue p0 x6 x8 q9) rfl (.cons (relAgg rfl) (.cons (lendL rfl (.head _) rfl strV_free strV_len) .nil)) trivial memNil .nil (fun _ _ => List.not_mem_nil) rfl ⟨(allSc_map recV_sc), trivial⟩ memNil rfl (by first | (simp only [V.mat, V.mat1, V.mat0, matL, matT, List.length_map]; done) | (simp only [V.mat, V.mat1, V.mat0, matL, matT, List.length_map]; rfl)) rfl rfl rfl rfl ?_
    refine s_mv (.inr rfl) (by conv => lhs; whnf) rfl rfl rfl ?_
    refine rt_nil ⟨by kernel_rfl, ?_⟩
    refine tri_ret ?_
    have e0 := (some1 h); subst e0
    exact endY (v' := .ref (2000, 0) 0 x8.length) [((2000, 0), ⟨48, 6, List.map recV x8, false, true⟩, some (15, 0))] [] (rvC (resTmp rfl) rvN) ⟨⟨rfl, _, rfl, rfl, rfl, rfl, id, rowsCv_eq rfl (allFree_map recV_free), rowsZ_map recV_len⟩, trivial⟩ trivial rfl rfl (by kernel_rfl) (by first | (simp only [V.mat, V.mat1, V.mat0, matL, matT, List.length_map]; done) | (simp only [V.mat, V.mat1, V.mat0, matL, matT, List.length_map]; rfl)) (.ref rfl)

/- spec.Serve -/
def inv_s_Serve_1 (p0 : MZone) (p1 : MMsg) (j0_0 : Int) (j1_0 : Bool) : St := mkT 42 [(2, .ptr (2, 0) 0 0), (3, .ptr (3, 0) 0 0), (4, .ptr (4, 0) 0 0), (6, .sc (.int .i64 j0_0)), (7, .sc (.bool j1_0))] [((2, 0), some ⟨83, 2, [[.sc (.string p0.apex), .lst 6 (List.map recV p0.l)]], false, true⟩), ((3, 0), some ⟨60, 12, [[.sc (.int .i64 p1.id), .sc (.bool p1.reply), .sc (.bool p1.auth), .sc (.bool p1.cut), .sc (.bool p1.want), .sc (.bool p1.can), .sc (.int .i64 p1.code), .sc (.string p1.q.name), .sc (.int .i64 p1.q.ty), .lst 6 (List.map recV p1.an), .lst 6 (List.map recV p1.au), .lst 6 (List.map recV p1.ad)]], false, true⟩), ((4, 0), some ⟨60, 12, [[.sc (.int .i64 0), .sc (.bool false), .sc (.bool false), .sc (.bool false), .sc (.bool false), .sc (.bool false), .sc (.int .i64 0), .sc (.string (⟨#[]⟩ : ByteArray)), .sc (.int .i64 0), .nils, .nils, .nils]], false, true⟩)]
def inv_s_Serve_0 (p0 : MZone) (p1 : MMsg) (x1 : Int) (j0_0 : Int) : St := mkT 42 [(2, .ptr (2, 0) 0 0), (3, .ptr (3, 0) 0 0), (4, .ptr (4, 0) 0 0), (5, .sc (.int .i64 x1)), (6, .sc (.int .i64 j0_0))] [((2, 0), some ⟨83, 2, [[.sc (.string p0.apex), .lst 6 (List.map recV p0.l)]], false, true⟩), ((3, 0), some ⟨60, 12, [[.sc (.int .i64 p1.id), .sc (.bool p1.reply), .sc (.bool p1.auth), .sc (.bool p1.cut), .sc (.bool p1.want), .sc (.bool p1.can), .sc (.int .i64 p1.code), .sc (.string p1.q.name), .sc (.int .i64 p1.q.ty), .lst 6 (List.map recV p1.an), .lst 6 (List.map recV p1.au), .lst 6 (List.map recV p1.ad)]], false, true⟩), ((4, 0), some ⟨60, 12, [[.sc (.int .i64 0), .sc (.bool false), .sc (.bool false), .sc (.bool false), .sc (.bool false), .sc (.bool false), .sc (.int .i64 0), .sc (.string (⟨#[]⟩ : ByteArray)), .sc (.int .i64 0), .nils, .nils, .nils]], false, true⟩)]
set_option maxRecDepth 4000 in
set_option maxHeartbeats 800000 in
theorem ws_Serve (p0 : MZone) (p1 : MMsg) (r0 : MMsg) (h : s_Serve p0 p1 = some r0) : Runs Tryz.prog 69 [.agg (mZoneV p0), .agg (mMsgV p1)] [] (.agg [.sc (.int .i64 r0.id), .sc (.bool r0.reply), .sc (.bool r0.auth), .sc (.bool r0.cut), .sc (.bool r0.want), .sc (.bool r0.can), .sc (.int .i64 r0.code), .sc (.string r0.q.name), .sc (.int .i64 r0.q.ty), .own 48 6 (List.map recV r0.an), .own 48 6 (List.map recV r0.au), .own 48 6 (List.map recV r0.ad)]) [] := by
  unfold s_Serve at h
  refine runsR [.cell 4 60] Tryz.func69 rfl rfl rfl rfl ?_
  rw [Tryz.ntmps69]
  refine tri_seq ?_
  refine tri_region ?_
  refine s_box rfl rfl rfl rfl rfl rfl rfl ?_
  refine s_box rfl rfl rfl rfl rfl rfl rfl ?_
  refine s_alloc rfl rfl rfl zc60 rfl rfl rfl rfl rfl ?_
  refine rt_nil ?_
  refine tri_seq ?_
  refine tri_region ?_
  refine s_loadR rfl rfl rfl rfl ty83 rfl rfl rfl ?_
  refine s_fieldAddr rfl rfl fd60_7 rfl rfl rfl rfl ?_
  refine s_load (v := .agg (questV p1.q)) rfl rfl rfl rfl ty36 rfl (.inl rfl) rfl rfl rfl rfl ?_
  refine bnd1_elim h fun x1 q2 h => ?_
  refine s_callN (kb := []) (ns := []) (v := .sc (.int .i64 x1)) rfl rfl cl49 (ws_KindIn p0 p1.q x1 q2) rfl (.cons (relAgg rfl) (.cons (relAgg rfl) .nil)) trivial memNil .nil memNil rfl trivial memNil rfl rfl rfl rfl rfl rfl ?_
  refine s_mv (.inr rfl) (by conv => lhs; whnf) rfl rfl rfl ?_
  refine rt_nil ?_
  refine tri_seq ?_
  refine tri_region ?_
  refine s_mv (.inr rfl) (v := .sc (.int .i64 0)) rfl rfl rfl rfl ?_
  refine rt_nil ?_
  refine tri_cutI (ι := { p : Int // s_Serve_j0 p0 p1 x1 p = some r0 }) (fun p => inv_s_Serve_0 p0 p1 x1 p.1) ?_ ?_
  · skip
    refine tri_seq ?_
    refine tri_region ?_
    refine s_mv (.inl rfl) (by conv => lhs; whnf) rfl rfl rfl ?_
    refine rt_nil ?_
    refine tri_block ?_
    refine tri_seq ?_
    refine tri_region ?_
    refine s_of (st_eqI rfl rfl rfl) rfl rfl rfl rfl ?_
    refine s_mv (.inr rfl) (by conv => lhs; whnf) rfl rfl rfl ?_
    refine rt_nil ?_
    refine tri_cond rfl (fun c3 => ?_) (fun c3 => ?_)
    · replace h := cond_t h c3
      refine tri_region ?_
      refine s_mv (.inr rfl) (v := .sc (.int .i64 5)) rfl rfl rfl rfl ?_
      refine rt_nil ?_
      refine Exists.intro ⟨5, h⟩ ?_
      refine entX [((2, 0), ⟨83, 2, [[.sc (.string p0.apex), .lst 6 (List.map recV p0.l)]], false, true⟩, some (2, 0)), ((3, 0), ⟨60, 12, [[.sc (.int .i64 p1.id), .sc (.bool p1.reply), .sc (.bool p1.auth), .sc (.bool p1.cut), .sc (.bool p1.want), .sc (.bool p1.can), .sc (.int .i64 p1.code), .sc (.string p1.q.name), .sc (.int .i64 p1.q.ty), .lst 6 (List.map recV p1.an), .lst 6 (List.map recV p1.au), .lst 6 (List.map recV p1.ad)]], false, true⟩, some (3, 0)), ((4, 0), ⟨60, 12, [[.sc (.int .i64 0), .sc (.bool false), .sc (.bool false), .sc (.bool false), .sc (.bool false), .sc (.bool false), .sc (.int .i64 0), .sc (.string (⟨#[]⟩ : ByteArray)), .sc (.int .i64 0), .nils, .nils, .nils]], false, true⟩, some (4, 0))] [] ⟨⟨rfl, _, rfl, rfl, rfl, rfl, id, rowsCv_one (.cons (.free rfl) (.cons (.free rfl) .nil)), rowsZ_one rfl⟩, ⟨rfl, _, rfl, rfl, rfl, rfl, id, rowsCv_one (.cons (.free rfl) (.cons (.free rfl) (.cons (.free rfl) (.cons (.free rfl) (.cons (.free rfl) (.cons (.free rfl) (.cons (.free rfl) (.cons (.free rfl) (.cons (.free rfl) (.cons (.free rfl) (.cons (.free rfl) (.cons (.free rfl) .nil)))))))))))), rowsZ_one rfl⟩, ⟨rfl, _, rfl, rfl, rfl, rfl, id, rowsCv_one (.cons (.free rfl) (.cons (.free rfl) (.cons (.free rfl) (.cons (.free rfl) (.cons (.free rfl) (.cons (.free rfl) (.cons (.free rfl) (.cons (.free rfl) (.cons (.free rfl) (.cons (.free rfl) (.cons (.free rfl) (.cons (.free rfl) .nil)))))))))))), rowsZ_one rfl⟩, trivial⟩ trivial rfl rfl ?_
      exact ⟨(.ptr rfl), (.ptr rfl), (.ptr rfl), (.free rfl), (.free rfl), trivial⟩
    · replace h := cond_f h c3
      refine tri_seq ?_
      refine tri_region ?_
      refine s_of (st_eqI rfl rfl rfl) rfl rfl rfl rfl ?_
      refine s_mv (.inr rfl) (by conv => lhs; whnf) rfl rfl rfl ?_
      refine rt_nil ?_
      refine tri_cond rfl (fun c4 => ?_) (fun c4 => ?_)
      · replace h := cond_t h c4
        refine tri_region ?_
        refine s_mv (.inr rfl) (v := .sc (.int .i64 3)) rfl rfl rfl rfl ?_
        refine rt_nil ?_
        refine Exists.intro ⟨3, h⟩ ?_
        refine entX [((2, 0), ⟨83, 2, [[.sc (.string p0.apex), .lst 6 (List.map recV p0.l)]], false, true⟩, some (2, 0)), ((3, 0), ⟨60, 12, [[.sc (.int .i64 p1.id), .sc (.bool p1.reply), .sc (.bool p1.auth), .sc (.bool p1.cut), .sc (.bool p1.want), .sc (.bool p1.can), .sc (.int .i64 p1.code), .sc (.string p1.q.name), .sc (.int .i64 p1.q.ty), .lst 6 (List.map recV p1.an), .lst 6 (List.map recV p1.au), .lst 6 (List.map recV p1.ad)]], false, true⟩, some (3, 0)), ((4, 0), ⟨60, 12, [[.sc (.int .i64 0), .sc (.bool false), .sc (.bool false), .sc (.bool false), .sc (.bool false), .sc (.bool false), .sc (.int .i64 0), .sc (.string (⟨#[]⟩ : ByteArray)), .sc (.int .i64 0), .nils, .nils, .nils]], false, true⟩, some (4, 0))] [] ⟨⟨rfl, _, rfl, rfl, rfl, rfl, id, rowsCv_one (.cons (.free rfl) (.cons (.free rfl) .nil)), rowsZ_one rfl⟩, ⟨rfl, _, rfl, rfl, rfl, rfl, id, rowsCv_one (.cons (.free rfl) (.cons (.free rfl) (.cons (.free rfl) (.cons (.free rfl) (.cons (.free rfl) (.cons (.free rfl) (.cons (.free rfl) (.cons (.free rfl) (.cons (.free rfl) (.cons (.free rfl) (.cons (.free rfl) (.cons (.free rfl) .nil)))))))))))), rowsZ_one rfl⟩, ⟨rfl, _, rfl, rfl, rfl, rfl, id, rowsCv_one (.cons (.free rfl) (.cons (.free rfl) (.cons (.free rfl) (.cons (.free rfl) (.cons (.free rfl) (.cons (.free rfl) (.cons (.free rfl) (.cons (.free rfl) (.cons (.free rfl) (.cons (.free rfl) (.cons (.free rfl) (.cons (.free rfl) .nil)))))))))))), rowsZ_one rfl⟩, trivial⟩ trivial rfl rfl ?_
        exact ⟨(.ptr rfl), (.ptr rfl), (.ptr rfl), (.free rfl), (.free rfl), trivial⟩
      · replace h := cond_f h c4
        refine tri_skip ?_
        refine Exists.intro ⟨0, h⟩ ?_
        refine entX [((2, 0), ⟨83, 2, [[.sc (.string p0.apex), .lst 6 (List.map recV p0.l)]], false, true⟩, some (2, 0)), ((3, 0), ⟨60, 12, [[.sc (.int .i64 p1.id), .sc (.bool p1.reply), .sc (.bool p1.auth), .sc (.bool p1.cut), .sc (.bool p1.want), .sc (.bool p1.can), .sc (.int .i64 p1.code), .sc (.string p1.q.name), .sc (.int .i64 p1.q.ty), .lst 6 (List.map recV p1.an), .lst 6 (List.map recV p1.au), .lst 6 (List.map recV p1.ad)]], false, true⟩, some (3, 0)), ((4, 0), ⟨60, 12, [[.sc (.int .i64 0), .sc (.bool false), .sc (.bool false), .sc (.bool false), .sc (.bool false), .sc (.bool false), .sc (.int .i64 0), .sc (.string (⟨#[]⟩ : ByteArray)), .sc (.int .i64 0), .nils, .nils, .nils]], false, true⟩, some (4, 0))] [] ⟨⟨rfl, _, rfl, rfl, rfl, rfl, id, rowsCv_one (.cons (.free rfl) (.cons (.free rfl) .nil)), rowsZ_one rfl⟩, ⟨rfl, _, rfl, rfl, rfl, rfl, id, rowsCv_one (.cons (.free rfl) (.cons (.free rfl) (.cons (.free rfl) (.cons (.free rfl) (.cons (.free rfl) (.cons (.free rfl) (.cons (.free rfl) (.cons (.free rfl) (.cons (.free rfl) (.cons (.free rfl) (.cons (.free rfl) (.cons (.free rfl) .nil)))))))))))), rowsZ_one rfl⟩, ⟨rfl, _, rfl, rfl, rfl, rfl, id, rowsCv_one (.cons (.free rfl) (.cons (.free rfl) (.cons (.free rfl) (.cons (.free rfl) (.cons (.free rfl) (.cons (.free rfl) (.cons (.free rfl) (.cons (.free rfl) (.cons (.free rfl) (.cons (.free rfl) (.cons (.free rfl) (.cons (.free rfl) .nil)))))))))))), rowsZ_one rfl⟩, trivial⟩ trivial rfl rfl ?_
        exact ⟨(.ptr rfl), (.ptr rfl), (.ptr rfl), (.free rfl), (.free rfl), trivial⟩
  · rintro ⟨j0_0, h⟩
    replace h : s_Serve_j0 p0 p1 x1 j0_0 = some r0 := h
    unfold s_Serve_j0 at h
    show Tri _ _ _ (inv_s_Serve_0 p0 p1 x1 j0_0)
    refine tri_cutI (ι := { p : Bool // s_Serve_j1 p0 p1 j0_0 p = some r0 }) (fun p => inv_s_Serve_1 p0 p1 j0_0 p.1) ?_ ?_
    · skip
      refine tri_region ?_
      refine s_mv (.inl rfl) (by conv => lhs; whnf) rfl rfl rfl ?_
      refine s_of (st_neI rfl rfl rfl) rfl rfl rfl rfl ?_
      refine s_mv (.inl rfl) (by conv => lhs; whnf) rfl rfl rfl ?_
      refine s_split (t := 19) rfl (fun b3 => ?_) (fun b3 => ?_)
      · replace h := cond_t h b3
        refine s_mv (.inl rfl) (by conv => lhs; whnf) rfl rfl rfl ?_
        refine s_of (st_neI rfl rfl rfl) rfl rfl rfl rfl ?_
        refine s_pickT rfl rfl (by conv => lhs; whnf) rfl rfl rfl ?_
        refine s_mv (.inr rfl) (by conv => lhs; whnf) rfl rfl rfl ?_
        refine rt_nil ?_
        refine Exists.intro ⟨!decide (x1 = 1), h⟩ ?_
        refine entX [((2, 0), ⟨83, 2, [[.sc (.string p0.apex), .lst 6 (List.map recV p0.l)]], false, true⟩, some (2, 0)), ((3, 0), ⟨60, 12, [[.sc (.int .i64 p1.id), .sc (.bool p1.reply), .sc (.bool p1.auth), .sc (.bool p1.cut), .sc (.bool p1.want), .sc (.bool p1.can), .sc (.int .i64 p1.code), .sc (.string p1.q.name), .sc (.int .i64 p1.q.ty), .lst 6 (List.map recV p1.an), .lst 6 (List.map recV p1.au), .lst 6 (List.map recV p1.ad)]], false, true⟩, some (3, 0)), ((4, 0), ⟨60, 12, [[.sc (.int .i64 0), .sc (.bool false), .sc (.bool false), .sc (.bool false), .sc (.bool false), .sc (.bool false), .sc (.int .i64 0), .sc (.string (⟨#[]⟩ : ByteArray)), .sc (.int .i64 0), .nils, .nils, .nils]], false, true⟩, some (4, 0))] [] ⟨⟨rfl, _, rfl, rfl, rfl, rfl, id, rowsCv_one (.cons (.free rfl) (.cons (.free rfl) .nil)), rowsZ_one rfl⟩, ⟨rfl, _, rfl, rfl, rfl, rfl, id, rowsCv_one (.cons (.free rfl) (.cons (.free rfl) (.cons (.free rfl) (.cons (.free rfl) (.cons (.free rfl) (.cons (.free rfl) (.cons (.free rfl) (.cons (.free rfl) (.cons (.free rfl) (.cons (.free rfl) (.cons (.free rfl) (.cons (.free rfl) .nil)))))))))))), rowsZ_one rfl⟩, ⟨rfl, _, rfl, rfl, rfl, rfl, id, rowsCv_one (.cons (.free rfl) (.cons (.free rfl) (.cons (.free rfl) (.cons (.free rfl) (.cons (.free rfl) (.cons (.free rfl) (.cons (.free rfl) (.cons (.free rfl) (.cons (.free rfl) (.cons (.free rfl) (.cons (.free rfl) (.cons (.free rfl) .nil)))))))))))), rowsZ_one rfl⟩, trivial⟩ trivial rfl rfl ?_
        exact ⟨(.ptr rfl), (.ptr rfl), (.ptr rfl), (.free rfl), (.free rfl), trivial⟩
      · replace h := cond_f h b3
        refine s_skip rfl rfl rfl ?_
        refine s_skip rfl rfl rfl ?_
        refine s_pickF rfl rfl (v := .sc (.bool false)) rfl rfl rfl rfl ?_
        refine s_mv (.inr rfl) (by conv => lhs; whnf) rfl rfl rfl ?_
        refine rt_nil ?_
        refine Exists.intro ⟨false, h⟩ ?_
        refine entX [((2, 0), ⟨83, 2, [[.sc (.string p0.apex), .lst 6 (List.map recV p0.l)]], false, true⟩, some (2, 0)), ((3, 0), ⟨60, 12, [[.sc (.int .i64 p1.id), .sc (.bool p1.reply), .sc (.bool p1.auth), .sc (.bool p1.cut), .sc (.bool p1.want), .sc (.bool p1.can), .sc (.int .i64 p1.code), .sc (.string p1.q.name), .sc (.int .i64 p1.q.ty), .lst 6 (List.map recV p1.an), .lst 6 (List.map recV p1.au), .lst 6 (List.map recV p1.ad)]], false, true⟩, some (3, 0)), ((4, 0), ⟨60, 12, [[.sc (.int .i64 0), .sc (.bool false), .sc (.bool false), .sc (.bool false), .sc (.bool false), .sc (.bool false), .sc (.int .i64 0), .sc (.string (⟨#[]⟩ : ByteArray)), .sc (.int .i64 0), .nils, .nils, .nils]], false, true⟩, some (4, 0))] [] ⟨⟨rfl, _, rfl, rfl, rfl, rfl, id, rowsCv_one (.cons (.free rfl) (.cons (.free rfl) .nil)), rowsZ_one rfl⟩, ⟨rfl, _, rfl, rfl, rfl, rfl, id, rowsCv_one (.cons (.free rfl) (.cons (.free rfl) (.cons (.free rfl) (.cons (.free rfl) (.cons (.free rfl) (.cons (.free rfl) (.cons (.free rfl) (.cons (.free rfl) (.cons (.free rfl) (.cons (.free rfl) (.cons (.free rfl) (.cons (.free rfl) .nil)))))))))))), rowsZ_one rfl⟩, ⟨rfl, _, rfl, rfl, rfl, rfl, id, rowsCv_one (.cons (.free rfl) (.cons (.free rfl) (.cons (.free rfl) (.cons (.free rfl) (.cons (.free rfl) (.cons (.free rfl) (.cons (.free rfl) (.cons (.free rfl) (.cons (.free rfl) (.cons (.free rfl) (.cons (.free rfl) (.cons (.free rfl) .nil)))))))))))), rowsZ_one rfl⟩, trivial⟩ trivial rfl rfl ?_
        exact ⟨(.ptr rfl), (.ptr rfl), (.ptr rfl), (.free rfl), (.free rfl), trivial⟩
    · rintro ⟨j1_0, h⟩
      replace h : s_Serve_j1 p0 p1 j0_0 j1_0 = some r0 := h
      unfold s_Serve_j1 at h
      show Tri _ _ _ (inv_s_Serve_1 p0 p1 j0_0 j1_0)
      refine tri_seq ?_
      refine tri_draw mixed ?_
      refine s_loadR rfl rfl rfl rfl ty60 rfl rfl rfl ?_
      refine s_mv (.inl rfl) (by conv => lhs; whnf) rfl rfl rfl ?_
      refine s_mv (.inl rfl) (by conv => lhs; whnf) rfl rfl rfl ?_
      refine s_loadR rfl rfl rfl rfl ty83 rfl rfl rfl ?_
      refine s_fieldAddr rfl rfl fd60_7 rfl rfl rfl rfl ?_
      refine s_load (v := .agg (questV p1.q)) rfl rfl rfl rfl ty36 rfl (.inl rfl) rfl rfl rfl rfl ?_
      refine bnd1_elim h fun x3 q4 h => ?_
      refine s_callN (kb := []) (ns := []) (v := .ref (29, 0) 0 x3.length) rfl rfl cl50 (ws_AnswerIn p0 p1.q x3 q4) rfl (.cons (relAgg rfl) (.cons (relAgg rfl) .nil)) trivial memNil .nil memNil rfl ⟨(allSc_map recV_sc), trivial⟩ memNil rfl (by first | (simp only [V.mat, V.mat1, V.mat0, matL, matT, List.length_map]; done) | (simp only [V.mat, V.mat1, V.mat0, matL, matT, List.length_map]; rfl)) rfl rfl rfl rfl ?_
      refine bnd1_elim h fun x5 q6 h => ?_
      refine s_callN (kb := [(29, 0)]) (ns := []) (v := .ref (30, 0) 0 x5.length) rfl rfl cl122 (ws_l11First x3 x5 q6) rfl (.cons (lendL rfl (.head _) rfl recV_free recV_len) .nil) trivial memNil .nil (fun _ _ => List.not_mem_nil) rfl ⟨(allSc_map recV_sc), trivial⟩ memNil rfl (by first | (simp only [V.mat, V.mat1, V.mat0, matL, matT, List.length_map]; done) | (simp only [V.mat, V.mat1, V.mat0, matL, matT, List.length_map]; rfl)) rfl rfl rfl rfl ?_
      refine s_loadR rfl rfl rfl rfl ty83 rfl rfl rfl ?_
      refine s_fieldAddr rfl rfl fd60_7 rfl rfl rfl rfl ?_
      refine s_load (v := .agg (questV p1.q)) rfl rfl rfl rfl ty36 rfl (.inl rfl) rfl rfl rfl rfl ?_
      refine bnd1_elim h fun x7 q8 h => ?_
      refine s_callN (kb := []) (ns := []) (v := .ref (34, 0) 0 x7.length) rfl rfl cl123 (ws_MoreIn p0 p1.q x7 q8) rfl (.cons (relAgg rfl) (.cons (relAgg rfl) .nil)) trivial memNil .nil memNil rfl ⟨(allSc_map recV_sc), trivial⟩ memNil rfl (by first | (simp only [V.mat, V.mat1, V.mat0, matL, matT, List.length_map]; done) | (simp only [V.mat, V.mat1, V.mat0, matL, matT, List.length_map]; rfl)) rfl rfl rfl rfl ?_
      refine bnd1_elim h fun x9 q10 h => ?_
      refine s_callN (kb := [(34, 0)]) (ns := []) (v := .ref (35, 0) 0 x9.length) rfl rfl cl122 (ws_l11First x7 x9 q10) rfl (.cons (lendL rfl (.head _) rfl recV_free recV_len) .nil) trivial memNil .nil (fun _ _ => List.not_mem_nil) rfl ⟨(allSc_map recV_sc), trivial⟩ memNil rfl (by first | (simp only [V.mat, V.mat1, V.mat0, matL, matT, List.length_map]; done) | (simp only [V.mat, V.mat1, V.mat0, matL, matT, List.length_map]; rfl)) rfl rfl rfl rfl ?_
      refine s_loadR rfl rfl rfl rfl ty83 rfl rfl rfl ?_
      refine s_fieldAddr rfl rfl fd60_7 rfl rfl rfl rfl ?_
      refine s_load (v := .agg (questV p1.q)) rfl rfl rfl rfl ty36 rfl (.inl rfl) rfl rfl rfl rfl ?_
      refine bnd1_elim h fun x11 q12 h => ?_
      refine s_callN (kb := []) (ns := []) (v := .ref (39, 0) 0 x11.length) rfl rfl cl124 (ws_HelpIn p0 p1.q x11 q12) rfl (.cons (relAgg rfl) (.cons (relAgg rfl) .nil)) trivial memNil .nil memNil rfl ⟨(allSc_map recV_sc), trivial⟩ memNil rfl (by first | (simp only [V.mat, V.mat1, V.mat0, matL, matT, List.length_map]; done) | (simp only [V.mat, V.mat1, V.mat0, matL, matT, List.length_map]; rfl)) rfl rfl rfl rfl ?_
      refine bnd1_elim h fun x13 q14 h => ?_
      refine s_callN (kb := [(39, 0)]) (ns := []) (v := .ref (40, 0) 0 x13.length) rfl rfl cl122 (ws_l11First x11 x13 q14) rfl (.cons (lendL rfl (.head _) rfl recV_free recV_len) .nil) trivial memNil .nil (fun _ _ => List.not_mem_nil) rfl ⟨(allSc_map recV_sc), trivial⟩ memNil rfl (by first | (simp only [V.mat, V.mat1, V.mat0, matL, matT, List.length_map]; done) | (simp only [V.mat, V.mat1, V.mat0, matL, matT, List.length_map]; rfl)) rfl rfl rfl rfl ?_
      refine bnd1_elim h fun x15 q16 h => ?_
      refine s_callN (kb := [(30, 0), (35, 0), (40, 0)]) (ns := []) (v := .agg [.sc (.int .i64 x15.id), .sc (.bool x15.reply), .sc (.bool x15.auth), .sc (.bool x15.cut), .sc (.bool x15.want), .sc (.bool x15.can), .sc (.int .i64 x15.code), .sc (.string x15.q.name), .sc (.int .i64 x15.q.ty), .ref (41, 9) 0 x15.an.length, .ref (41, 10) 0 x15.au.length, .ref (41, 11) 0 x15.ad.length]) rfl rfl cl68 (ws_ReplyTo p1 j0_0 j1_0 x5 x9 x13 x15 q16) rfl (.cons (relAgg rfl) (.cons (.free rfl) (.cons (.free rfl) (.cons (lendL rfl (.head _) rfl recV_free recV_len) (.cons (lendL rfl (.tail _ (.head _)) rfl recV_free recV_len) (.cons (lendL rfl (.tail _ (.tail _ (.head _))) rfl recV_free recV_len) .nil)))))) trivial memNil .nil (fun _ _ => List.not_mem_nil) rfl ⟨(allSc_map recV_sc), ⟨(allSc_map recV_sc), ⟨(allSc_map recV_sc), trivial⟩⟩⟩ memNil rfl (by first | (simp only [V.mat, V.mat1, V.mat0, matL, matT, List.length_map]; done) | (simp only [V.mat, V.mat1, V.mat0, matL, matT, List.length_map]; rfl)) rfl rfl rfl rfl ?_
      refine s_storeB rfl rfl rfl ty60 rfl rfl rfl rfl rfl ?_
      refine rt_nil ⟨by kernel_rfl, ?_⟩
      refine tri_ret ?_
      have e0 := (some1 h); subst e0
      exact endY (v' := .agg [.sc (.int .i64 x15.id), .sc (.bool x15.reply), .sc (.bool x15.auth), .sc (.bool x15.cut), .sc (.bool x15.want), .sc (.bool x15.can), .sc (.int .i64 x15.code), .sc (.string x15.q.name), .sc (.int .i64 x15.q.ty), .ref (2000, 9) 0 x15.an.length, .ref (2000, 10) 0 x15.au.length, .ref (2000, 11) 0 x15.ad.length]) [((2000, 9), ⟨48, 6, List.map recV x15.an, false, true⟩, some (41, 9)), ((2000, 10), ⟨48, 6, List.map recV x15.au, false, true⟩, some (41, 10)), ((2000, 11), ⟨48, 6, List.map recV x15.ad, false, true⟩, some (41, 11))] [] (rvC (resCell rfl rfl ty60) rvN) ⟨⟨rfl, _, rfl, rfl, rfl, rfl, id, rowsCv_eq rfl (allFree_map recV_free), rowsZ_map recV_len⟩, ⟨rfl, _, rfl, rfl, rfl, rfl, id, rowsCv_eq rfl (allFree_map recV_free), rowsZ_map recV_len⟩, ⟨rfl, _, rfl, rfl, rfl, rfl, id, rowsCv_eq rfl (allFree_map recV_free), rowsZ_map recV_len⟩, trivial⟩ trivial rfl rfl (by kernel_rfl) (by first | (simp only [V.mat, V.mat1, V.mat0, matL, matT, List.length_map]; done) | (simp only [V.mat, V.mat1, V.mat0, matL, matT, List.length_map]; rfl)) (CvL.agg (.cons (.free rfl) (.cons (.free rfl) (.cons (.free rfl) (.cons (.free rfl) (.cons (.free rfl) (.cons (.free rfl) (.cons (.free rfl) (.cons (.free rfl) (.cons (.free rfl) (.cons (.ref rfl) (.cons (.ref rfl) (.cons (.ref rfl) .nil)))))))))))))

/- spec.ReplyAt -/

set_option maxRecDepth 4000 in
set_option maxHeartbeats 800000 in
theorem ws_ReplyAt (p0 : MForest) (p1 : Int) (p2 : MMsg) (r0 : MMsg) (h : s_ReplyAt p0 p1 p2 = some r0) : Runs Tryz.prog 27 [.agg (mForestV p0), .sc (.int .i64 p1), .agg (mMsgV p2)] [] (.agg [.sc (.int .i64 r0.id), .sc (.bool r0.reply), .sc (.bool r0.auth), .sc (.bool r0.cut), .sc (.bool r0.want), .sc (.bool r0.can), .sc (.int .i64 r0.code), .sc (.string r0.q.name), .sc (.int .i64 r0.q.ty), .own 48 6 (List.map recV r0.an), .own 48 6 (List.map recV r0.au), .own 48 6 (List.map recV r0.ad)]) [] := by
  unfold s_ReplyAt at h
  refine runsR [.cell 6 60] Tryz.func27 rfl rfl rfl rfl ?_
  rw [Tryz.ntmps27]
  refine tri_seq ?_
  refine tri_region ?_
  refine s_box rfl rfl rfl rfl rfl rfl rfl ?_
  refine s_box rfl rfl rfl rfl rfl rfl rfl ?_
  refine s_alloc rfl rfl rfl zc60 rfl rfl rfl rfl rfl ?_
  refine rt_nil ?_
  refine tri_seq ?_
  refine tri_region ?_
  refine s_loadR rfl rfl rfl rfl ty34 rfl rfl rfl ?_
  refine s_mv (.inl rfl) (by conv => lhs; whnf) rfl rfl rfl ?_
  refine s_fieldAddr rfl rfl fd60_7 rfl rfl rfl rfl ?_
  refine s_fieldAddr rfl rfl fd36_0 rfl rfl rfl rfl ?_
  refine s_load rfl rfl rfl rfl ty9 rfl (.inr rfl) (by conv => lhs; whnf) rfl rfl rfl ?_
  refine bnd1_elim h fun x1 q2 h => ?_
  refine s_callN (kb := []) (ns := []) (v := .sc (.int .i64 x1)) rfl rfl cl67 (ws_ZoneAt p0 p1 p2.q.name x1 q2) rfl (.cons (relAgg rfl) (.cons (.free rfl) (.cons (.free rfl) .nil))) trivial memNil .nil memNil rfl trivial memNil rfl rfl rfl rfl rfl rfl ?_
  refine s_mv (.inr rfl) (by conv => lhs; whnf) rfl rfl rfl ?_
  refine rt_nil ?_
  refine tri_seq ?_
  refine tri_seq ?_
  refine tri_region ?_
  refine s_mv (.inl rfl) (by conv => lhs; whnf) rfl rfl rfl ?_
  refine s_of (st_lss rfl rfl rfl) rfl rfl rfl rfl ?_
  refine rt_nil ?_
  refine tri_cond rfl (fun c3 => ?_) (fun c3 => ?_)
  · replace h := cond_t h c3
    refine tri_seq ?_
    refine tri_region ?_
    refine s_loadR rfl rfl rfl rfl ty60 rfl rfl rfl ?_
    refine s_buildSlice (rows' := List.map recV ([] : List Rec)) rfl rfl rfl sl24 zc48 rfl rfl rfl rfl rfl rfl rfl rfl rfl ?_
    refine s_buildSlice (rows' := List.map recV ([] : List Rec)) rfl rfl rfl sl24 zc48 rfl rfl rfl rfl rfl rfl rfl rfl rfl ?_
    refine s_buildSlice (rows' := List.map recV ([] : List Rec)) rfl rfl rfl sl24 zc48 rfl rfl rfl rfl rfl rfl rfl rfl rfl ?_
    refine bnd1_elim h fun x4 q5 h => ?_
    refine s_callN (kb := [(17, 0), (18, 0), (19, 0)]) (ns := []) (v := .agg [.sc (.int .i64 x4.id), .sc (.bool x4.reply), .sc (.bool x4.auth), .sc (.bool x4.cut), .sc (.bool x4.want), .sc (.bool x4.can), .sc (.int .i64 x4.code), .sc (.string x4.q.name), .sc (.int .i64 x4.q.ty), .ref (20, 9) 0 x4.an.length, .ref (20, 10) 0 x4.au.length, .ref (20, 11) 0 x4.ad.length]) rfl rfl cl68 (ws_ReplyTo p2 5 false ([] : List Rec) ([] : List Rec) ([] : List Rec) x4 q5) rfl (.cons (relAgg rfl) (.cons (.free rfl) (.cons (.free rfl) (.cons (lendL rfl (.head _) rfl recV_free recV_len) (.cons (lendL rfl (.tail _ (.head _)) rfl recV_free recV_len) (.cons (lendL rfl (.tail _ (.tail _ (.head _))) rfl recV_free recV_len) .nil)))))) trivial memNil .nil (fun _ _ => List.not_mem_nil) rfl ⟨(allSc_map recV_sc), ⟨(allSc_map recV_sc), ⟨(allSc_map recV_sc), trivial⟩⟩⟩ memNil rfl (by first | (simp only [V.mat, V.mat1, V.mat0, matL, matT, List.length_map]; done) | (simp only [V.mat, V.mat1, V.mat0, matL, matT, List.length_map]; rfl)) rfl rfl rfl rfl ?_
    refine s_storeB rfl rfl rfl ty60 rfl rfl rfl rfl rfl ?_
    refine rt_nil ?_
    refine tri_ret ?_
    have e0 := (some1 h); subst e0
    exact endY (v' := .agg [.sc (.int .i64 x4.id), .sc (.bool x4.reply), .sc (.bool x4.auth), .sc (.bool x4.cut), .sc (.bool x4.want), .sc (.bool x4.can), .sc (.int .i64 x4.code), .sc (.string x4.q.name), .sc (.int .i64 x4.q.ty), .ref (2000, 9) 0 x4.an.length, .ref (2000, 10) 0 x4.au.length, .ref (2000, 11) 0 x4.ad.length]) [((2000, 9), ⟨48, 6, List.map recV x4.an, false, true⟩, some (20, 9)), ((2000, 10), ⟨48, 6, List.map recV x4.au, false, true⟩, some (20, 10)), ((2000, 11), ⟨48, 6, List.map recV x4.ad, false, true⟩, some (20, 11))] [] (rvC (resCell rfl rfl ty60) rvN) ⟨⟨rfl, _, rfl, rfl, rfl, rfl, id, rowsCv_eq rfl (allFree_map recV_free), rowsZ_map recV_len⟩, ⟨rfl, _, rfl, rfl, rfl, rfl, id, rowsCv_eq rfl (allFree_map recV_free), rowsZ_map recV_len⟩, ⟨rfl, _, rfl, rfl, rfl, rfl, id, rowsCv_eq rfl (allFree_map recV_free), rowsZ_map recV_len⟩, trivial⟩ trivial rfl rfl (by kernel_rfl) (by first | (simp only [V.mat, V.mat1, V.mat0, matL, matT, List.length_map]; done) | (simp only [V.mat, V.mat1, V.mat0, matL, matT, List.length_map]; rfl)) (CvL.agg (.cons (.free rfl) (.cons (.free rfl) (.cons (.free rfl) (.cons (.free rfl) (.cons (.free rfl) (.cons (.free rfl) (.cons (.free rfl) (.cons (.free rfl) (.cons (.free rfl) (.cons (.ref rfl) (.cons (.ref rfl) (.cons (.ref rfl) .nil)))))))))))))
  · replace h := cond_f h c3
    refine tri_skip ?_
    refine tri_seq ?_
    refine tri_draw mixed ?_
    refine s_fieldAddr rfl rfl fd34_0 rfl rfl rfl rfl ?_
    refine s_load rfl rfl rfl rfl ty31 rfl (.inr rfl) (by conv => lhs; whnf) rfl rfl rfl ?_
    refine s_mv (.inl rfl) (by conv => lhs; whnf) rfl rfl rfl ?_
    refine bnd1_elim h fun x6 q7 h => ?_
    have q7a := (idx_some q7).1; have q7b := (idx_some q7).2
    refine s_indexFZ rfl rfl rfl sl31 q7a (get_ltM q7b) rfl rfl rfl ?_
    refine s_loadFR rfl rfl (rowG q7b) ty83 rfl rfl rfl ?_
    refine s_loadR rfl rfl rfl rfl ty60 rfl rfl rfl ?_
    refine bnd1_elim h fun x8 q9 h => ?_
    refine s_callN (kb := []) (ns := []) (v := .agg [.sc (.int .i64 x8.id), .sc (.bool x8.reply), .sc (.bool x8.auth), .sc (.bool x8.cut), .sc (.bool x8.want), .sc (.bool x8.can), .sc (.int .i64 x8.code), .sc (.string x8.q.name), .sc (.int .i64 x8.q.ty), .ref (27, 9) 0 x8.an.length, .ref (27, 10) 0 x8.au.length, .ref (27, 11) 0 x8.ad.length]) rfl rfl cl69 (ws_Serve x6 p2 x8 q9) rfl (.cons (relAgg rfl) (.cons (relAgg rfl) .nil)) trivial memNil .nil memNil rfl ⟨(allSc_map recV_sc), ⟨(allSc_map recV_sc), ⟨(allSc_map recV_sc), trivial⟩⟩⟩ memNil rfl (by first | (simp only [V.mat, V.mat1, V.mat0, matL, matT, List.length_map]; done) | (simp only [V.mat, V.mat1, V.mat0, matL, matT, List.length_map]; rfl)) rfl rfl rfl rfl ?_
    refine s_storeB rfl rfl rfl ty60 rfl rfl rfl rfl rfl ?_
    refine rt_nil ⟨by kernel_rfl, ?_⟩
    refine tri_ret ?_
    have e0 := (some1 h); subst e0
    exact endY (v' := .agg [.sc (.int .i64 x8.id), .sc (.bool x8.reply), .sc (.bool x8.auth), .sc (.bool x8.cut), .sc (.bool x8.want), .sc (.bool x8.can), .sc (.int .i64 x8.code), .sc (.string x8.q.name), .sc (.int .i64 x8.q.ty), .ref (2000, 9) 0 x8.an.length, .ref (2000, 10) 0 x8.au.length, .ref (2000, 11) 0 x8.ad.length]) [((2000, 9), ⟨48, 6, List.map recV x8.an, false, true⟩, some (27, 9)), ((2000, 10), ⟨48, 6, List.map recV x8.au, false, true⟩, some (27, 10)), ((2000, 11), ⟨48, 6, List.map recV x8.ad, false, true⟩, some (27, 11))] [] (rvC (resCell rfl rfl ty60) rvN) ⟨⟨rfl, _, rfl, rfl, rfl, rfl, id, rowsCv_eq rfl (allFree_map recV_free), rowsZ_map recV_len⟩, ⟨rfl, _, rfl, rfl, rfl, rfl, id, rowsCv_eq rfl (allFree_map recV_free), rowsZ_map recV_len⟩, ⟨rfl, _, rfl, rfl, rfl, rfl, id, rowsCv_eq rfl (allFree_map recV_free), rowsZ_map recV_len⟩, trivial⟩ trivial rfl rfl (by kernel_rfl) (by first | (simp only [V.mat, V.mat1, V.mat0, matL, matT, List.length_map]; done) | (simp only [V.mat, V.mat1, V.mat0, matL, matT, List.length_map]; rfl)) (CvL.agg (.cons (.free rfl) (.cons (.free rfl) (.cons (.free rfl) (.cons (.free rfl) (.cons (.free rfl) (.cons (.free rfl) (.cons (.free rfl) (.cons (.free rfl) (.cons (.free rfl) (.cons (.ref rfl) (.cons (.ref rfl) (.cons (.ref rfl) .nil)))))))))))))

/- stringslite.IndexByte -/

set_option maxRecDepth 4000 in
set_option maxHeartbeats 800000 in
theorem winternal_stringslite_IndexByte (p0 : ByteArray) (p1 : Int) (r0 : Int) (h : internal_stringslite_IndexByte p0 p1 = some r0) : Runs Tryz.prog 199 [.sc (.string p0), .sc (.int .u8 p1)] [] (.sc (.int .i64 r0)) [] := by
  unfold internal_stringslite_IndexByte at h
  refine runsR [.tmp 4] Tryz.func199 rfl rfl rfl rfl ?_
  rw [Tryz.ntmps199]
  refine tri_seq ?_
  refine tri_region ?_
  refine s_mv (.inr rfl) (v := .sc (.int .i64 0)) rfl rfl rfl rfl ?_
  refine rt_nil ?_
  refine tri_seq ?_
  refine tri_region ?_
  refine s_mv (.inl rfl) (by conv => lhs; whnf) rfl rfl rfl ?_
  refine s_mv (.inl rfl) (by conv => lhs; whnf) rfl rfl rfl ?_
  refine s_idxByteString rfl rfl rfl Tryz.func203 (by kernel_rfl) (by kernel_rfl) (by kernel_rfl) (by kernel_rfl) rfl rfl rfl ?_
  refine s_mv (.inr rfl) (by conv => lhs; whnf) rfl rfl rfl ?_
  refine rt_nil ?_
  refine tri_ret ?_
  have e0 := (some1 h); subst e0
  exact endY [] [] (rvC (resTmp rfl) rvN) trivial trivial rfl rfl rfl rfl (.free rfl)

/- stringslite.Index -/
def inv_internal_stringslite_Index_0 (p0 : ByteArray) (p1 : ByteArray) (j0_0 : Bool) : St := mkT 143 [(0, .sc (.string p0)), (1, .sc (.string p1)), (5, .sc (.int .i64 (p1.size : Int))), (16, .sc (.bool j0_0))] []
set_option maxRecDepth 4000 in
set_option maxHeartbeats 800000 in
theorem winternal_stringslite_Index (p0 : ByteArray) (p1 : ByteArray) (r0 : Int) (h : internal_stringslite_Index p0 p1 = some r0) : Runs Tryz.prog 197 [.sc (.string p0), .sc (.string p1)] [] (.sc (.int .i64 r0)) [] := by
  unfold internal_stringslite_Index at h
  refine runsR [.tmp 4] Tryz.func197 rfl rfl rfl rfl ?_
  rw [Tryz.ntmps197]
  refine tri_seq ?_
  refine tri_region ?_
  refine s_mv (.inr rfl) (v := .sc (.int .i64 0)) rfl rfl rfl rfl ?_
  refine rt_nil ?_
  refine tri_seq ?_
  refine tri_region ?_
  refine s_mv (.inl rfl) (by conv => lhs; whnf) rfl rfl rfl ?_
  refine s_of (st_lenS rfl rfl iss9) rfl rfl rfl rfl ?_
  refine s_mv (.inr rfl) (by conv => lhs; whnf) rfl rfl rfl ?_
  refine rt_nil ?_
  refine tri_seq ?_
  refine tri_block ?_
  refine tri_cutI (ι := { p : Bool // internal_stringslite_Index_j0 p0 p1 p = some r0 }) (fun p => inv_internal_stringslite_Index_0 p0 p1 p.1) ?_ ?_
  · skip
    refine tri_region ?_
    refine s_mv (.inl rfl) (by conv => lhs; whnf) rfl rfl rfl ?_
    refine s_of (st_eqI rfl rfl rfl) rfl rfl rfl rfl ?_
    refine s_mv (.inl rfl) (by conv => lhs; whnf) rfl rfl rfl ?_
    refine s_split (t := 19) rfl (fun b1 => ?_) (fun b1 => ?_)
    · replace h := cond_t h b1
      refine s_skip rfl rfl rfl ?_
      refine s_skip rfl rfl rfl ?_
      refine s_skip rfl rfl rfl ?_
      refine s_pickT rfl rfl (v := .sc (.bool true)) rfl rfl rfl rfl ?_
      refine s_mv (.inr rfl) (by conv => lhs; whnf) rfl rfl rfl ?_
      refine rt_nil ?_
      refine Exists.intro ⟨true, h⟩ ?_
      refine entX [] [] trivial trivial rfl rfl ?_
      exact ⟨(.free rfl), (.free rfl), (.free rfl), (.free rfl), trivial⟩
    · replace h := cond_f h b1
      refine s_mv (.inl rfl) (by conv => lhs; whnf) rfl rfl rfl ?_
      refine s_mv (.inl rfl) (by conv => lhs; whnf) rfl rfl rfl ?_
      refine s_of (st_eqS rfl rfl rfl) rfl rfl rfl rfl ?_
      refine s_pickF rfl rfl (by conv => lhs; whnf) rfl rfl rfl ?_
      refine s_mv (.inr rfl) (by conv => lhs; whnf) rfl rfl rfl ?_
      refine rt_nil ?_
      refine Exists.intro ⟨decide (p1 = p0), h⟩ ?_
      refine entX [] [] trivial trivial rfl rfl ?_
      exact ⟨(.free rfl), (.free rfl), (.free rfl), (.free rfl), trivial⟩
  · rintro ⟨j0_0, h⟩
    replace h : internal_stringslite_Index_j0 p0 p1 j0_0 = some r0 := h
    unfold internal_stringslite_Index_j0 at h
    show Tri _ _ _ (inv_internal_stringslite_Index_0 p0 p1 j0_0)
    refine tri_cond rfl (fun c1 => ?_) (fun c1 => ?_)
    · replace h := cond_t h c1
      refine tri_seq ?_
      refine tri_region ?_
      refine s_mv (.inr rfl) (v := .sc (.int .i64 0)) rfl rfl rfl rfl ?_
      refine rt_nil ?_
      refine tri_ret ?_
      have e0 := (some1 h); subst e0
      exact endY [] [] (rvC (resTmp rfl) rvN) trivial trivial rfl rfl rfl rfl (.free rfl)
    · replace h := cond_f h c1
      refine tri_seq ?_
      refine tri_region ?_
      refine s_mv (.inl rfl) (by conv => lhs; whnf) rfl rfl rfl ?_
      refine s_of (st_eqI rfl rfl rfl) rfl rfl rfl rfl ?_
      refine s_mv (.inr rfl) (by conv => lhs; whnf) rfl rfl rfl ?_
      refine rt_nil ?_
      refine tri_cond rfl (fun c2 => ?_) (fun c2 => ?_)
      · replace h := cond_t h c2
        refine tri_seq ?_
        refine tri_region ?_
        refine s_mv (.inl rfl) (by conv => lhs; whnf) rfl rfl rfl ?_
        refine s_mv (.inl rfl) (by conv => lhs; whnf) rfl rfl rfl ?_
        refine bnd1_elim h fun x3 q4 h => ?_
        refine s_idxS rfl rfl rfl iss9 q4 rfl rfl rfl ?_
        refine bnd1_elim h fun x5 q6 h => ?_
        refine s_callN (kb := []) (ns := []) (v := .sc (.int .i64 x5)) rfl rfl cl199 (winternal_stringslite_IndexByte p0 x3 x5 q6) rfl (.cons (.free rfl) (.cons (.free rfl) .nil)) trivial memNil .nil memNil rfl trivial memNil rfl rfl rfl rfl rfl rfl ?_
        refine s_mv (.inr rfl) (by conv => lhs; whnf) rfl rfl rfl ?_
        refine rt_nil ?_
        refine tri_ret ?_
        have e0 := (some1 h); subst e0
        exact endY [] [] (rvC (resTmp rfl) rvN) trivial trivial rfl rfl rfl rfl (.free rfl)
      · replace h := cond_f h c2
        refine tri_seq ?_
        refine tri_region ?_
        refine s_mv (.inl rfl) (by conv => lhs; whnf) rfl rfl rfl ?_
        refine s_mv (.inl rfl) (by conv => lhs; whnf) rfl rfl rfl ?_
        refine s_of (st_lenS rfl rfl iss9) rfl rfl rfl rfl ?_
        refine s_of (st_geq rfl rfl rfl) rfl rfl rfl rfl ?_
        refine s_mv (.inr rfl) (by conv => lhs; whnf) rfl rfl rfl ?_
        refine rt_nil ?_
        refine tri_cond rfl (fun c7 => ?_) (fun c7 => ?_)
        · replace h := cond_t h c7
          refine tri_seq ?_
          refine tri_region ?_
          refine s_mv (.inr rfl) (v := .sc (.int .i64 (-1))) rfl rfl rfl rfl ?_
          refine rt_nil ?_
          refine tri_ret ?_
          have e0 := (some1 h); subst e0
          exact endY [] [] (rvC (resTmp rfl) rvN) trivial trivial rfl rfl rfl rfl (.free rfl)
        · replace h := cond_f h c7
          refine tri_seq ?_
          refine tri_region ?_
          refine s_mv (.inl rfl) (by conv => lhs; whnf) rfl rfl rfl ?_
          cases h

/- strings.Index -/

set_option maxRecDepth 4000 in
set_option maxHeartbeats 800000 in
theorem wstrings_Index (p0 : ByteArray) (p1 : ByteArray) (r0 : Int) (h : strings_Index p0 p1 = some r0) : Runs Tryz.prog 192 [.sc (.string p0), .sc (.string p1)] [] (.sc (.int .i64 r0)) [] := by
  unfold strings_Index at h
  refine runsR [.tmp 4] Tryz.func192 rfl rfl rfl rfl ?_
  rw [Tryz.ntmps192]
  refine tri_seq ?_
  refine tri_region ?_
  refine s_mv (.inr rfl) (v := .sc (.int .i64 0)) rfl rfl rfl rfl ?_
  refine rt_nil ?_
  refine tri_seq ?_
  refine tri_region ?_
  refine s_mv (.inl rfl) (by conv => lhs; whnf) rfl rfl rfl ?_
  refine s_mv (.inl rfl) (by conv => lhs; whnf) rfl rfl rfl ?_
  refine bnd1_elim h fun x1 q2 h => ?_
  refine s_callN (kb := []) (ns := []) (v := .sc (.int .i64 x1)) rfl rfl cl197 (winternal_stringslite_Index p0 p1 x1 q2) rfl (.cons (.free rfl) (.cons (.free rfl) .nil)) trivial memNil .nil memNil rfl trivial memNil rfl rfl rfl rfl rfl rfl ?_
  refine s_mv (.inr rfl) (by conv => lhs; whnf) rfl rfl rfl ?_
  refine rt_nil ?_
  refine tri_ret ?_
  have e0 := (some1 h); subst e0
  exact endY [] [] (rvC (resTmp rfl) rvN) trivial trivial rfl rfl rfl rfl (.free rfl)

/- strings.Count -/
def inv_strings_Count_0 (p1 : ByteArray) (v0_0 : ByteArray) (v0_1 : Int) : St := mkT 34 [(0, .sc (.string v0_0)), (1, .sc (.string p1)), (5, .sc (.int .i64 v0_1))] []
set_option maxRecDepth 4000 in
set_option maxHeartbeats 800000 in
theorem wstrings_Count (p0 : ByteArray) (p1 : ByteArray) (r0 : Int) (h : strings_Count p0 p1 = some r0) : Runs Tryz.prog 191 [.sc (.string p0), .sc (.string p1)] [] (.sc (.int .i64 r0)) [] := by
  unfold strings_Count at h
  refine runsR [.tmp 4] Tryz.func191 rfl rfl rfl rfl ?_
  rw [Tryz.ntmps191]
  refine tri_seq ?_
  refine tri_region ?_
  refine s_mv (.inr rfl) (v := .sc (.int .i64 0)) rfl rfl rfl rfl ?_
  refine rt_nil ?_
  refine tri_seq ?_
  refine tri_seq ?_
  refine tri_region ?_
  refine s_mv (.inl rfl) (by conv => lhs; whnf) rfl rfl rfl ?_
  refine s_of (st_lenS rfl rfl iss9) rfl rfl rfl rfl ?_
  refine s_of (st_eqI rfl rfl rfl) rfl rfl rfl rfl ?_
  refine rt_nil ?_
  refine tri_cond rfl (fun c1 => ?_) (fun c1 => ?_)
  · replace h := cond_t h c1
    refine tri_seq ?_
    refine tri_region ?_
    refine s_mv (.inl rfl) (by conv => lhs; whnf) rfl rfl rfl ?_
    cases h
  · replace h := cond_f h c1
    refine tri_skip ?_
    refine tri_seq ?_
    refine tri_seq ?_
    refine tri_region ?_
    refine s_mv (.inl rfl) (by conv => lhs; whnf) rfl rfl rfl ?_
    refine s_of (st_lenS rfl rfl iss9) rfl rfl rfl rfl ?_
    refine s_of (st_eqI rfl rfl rfl) rfl rfl rfl rfl ?_
    refine rt_nil ?_
    refine tri_cond rfl (fun c2 => ?_) (fun c2 => ?_)
    · replace h := cond_t h c2
      refine tri_seq ?_
      refine tri_region ?_
      refine s_mv (.inl rfl) (by conv => lhs; whnf) rfl rfl rfl ?_
      refine s_mv (.inl rfl) (by conv => lhs; whnf) rfl rfl rfl ?_
      refine bnd1_elim h fun x3 q4 h => ?_
      refine s_idxS rfl rfl rfl iss9 q4 rfl rfl rfl ?_
      refine s_countString rfl rfl rfl Tryz.func196 (by kernel_rfl) (by kernel_rfl) (by kernel_rfl) (by kernel_rfl) rfl rfl rfl ?_
      refine s_mv (.inr rfl) (by conv => lhs; whnf) rfl rfl rfl ?_
      refine rt_nil ?_
      refine tri_ret ?_
      have e0 := (some1 h); subst e0
      exact endY [] [] (rvC (resTmp rfl) rvN) trivial trivial rfl rfl rfl rfl (.free rfl)
    · replace h := cond_f h c2
      refine tri_skip ?_
      refine tri_seq ?_
      refine tri_region ?_
      refine s_mv (.inr rfl) (v := .sc (.int .i64 0)) rfl rfl rfl rfl ?_
      refine rt_nil ?_
      refine tri_block ?_
      refine tri_loop (ι := { p : Nat × ByteArray × Int // strings_Count_l0 p1 p.1 p.2.1 p.2.2 = some r0 }) (fun p => inv_strings_Count_0 p1 p.1.2.1 p.1.2.2) (fun p => p.1.1) ⟨(fuel0, p0, 0), h⟩ ?_ ?_
      · skip
        refine entX [] [] trivial trivial rfl rfl ?_
        exact ⟨(.free rfl), (.free rfl), (.free rfl), trivial⟩
      · rintro ⟨⟨f0, v0_0, v0_1⟩, h⟩
        replace h : strings_Count_l0 p1 f0 v0_0 v0_1 = some r0 := h
        cases f0 with
        | zero => cases h
        | succ f0 =>
        rw [strings_Count_l0] at h
        show Tri _ _ _ (inv_strings_Count_0 p1 v0_0 v0_1)
        refine tri_block ?_
        refine tri_seq ?_
        refine tri_region ?_
        refine s_mv (.inl rfl) (by conv => lhs; whnf) rfl rfl rfl ?_
        refine s_mv (.inl rfl) (by conv => lhs; whnf) rfl rfl rfl ?_
        refine bnd1_elim h fun x5 q6 h => ?_
        refine s_callN (kb := []) (ns := []) (v := .sc (.int .i64 x5)) rfl rfl cl192 (wstrings_Index v0_0 p1 x5 q6) rfl (.cons (.free rfl) (.cons (.free rfl) .nil)) trivial memNil .nil memNil rfl trivial memNil rfl rfl rfl rfl rfl rfl ?_
        refine s_mv (.inr rfl) (by conv => lhs; whnf) rfl rfl rfl ?_
        refine rt_nil ?_
        refine tri_seq ?_
        refine tri_seq ?_
        refine tri_region ?_
        refine s_mv (.inl rfl) (by conv => lhs; whnf) rfl rfl rfl ?_
        refine s_of (st_eqI rfl rfl rfl) rfl rfl rfl rfl ?_
        refine rt_nil ?_
        refine tri_cond rfl (fun c7 => ?_) (fun c7 => ?_)
        · replace h := cond_t h c7
          refine tri_seq ?_
          refine tri_region ?_
          refine s_mv (.inl rfl) (by conv => lhs; whnf) rfl rfl rfl ?_
          refine s_mv (.inr rfl) (by conv => lhs; whnf) rfl rfl rfl ?_
          refine rt_nil ?_
          refine tri_ret ?_
          have e0 := (some1 h); subst e0
          exact endY [] [] (rvC (resTmp rfl) rvN) trivial trivial rfl rfl rfl rfl (.free rfl)
        · replace h := cond_f h c7
          refine tri_skip ?_
          refine tri_seq ?_
          refine tri_region ?_
          refine s_mv (.inl rfl) (by conv => lhs; whnf) rfl rfl rfl ?_
          refine grd_elim h fun g8 h => ?_
          refine s_addI rfl rfl rfl rfl g8 rfl rfl rfl ?_
          refine s_mv (.inr rfl) (by conv => lhs; whnf) rfl rfl rfl ?_
          refine rt_nil ?_
          refine tri_region ?_
          refine s_mv (.inl rfl) (by conv => lhs; whnf) rfl rfl rfl ?_
          refine s_mv (.inl rfl) (by conv => lhs; whnf) rfl rfl rfl ?_
          refine s_mv (.inl rfl) (by conv => lhs; whnf) rfl rfl rfl ?_
          refine s_of (st_lenS rfl rfl iss9) rfl rfl rfl rfl ?_
          refine grd_elim h fun g9 h => ?_
          refine s_addI rfl rfl rfl rfl g9 rfl rfl rfl ?_
          refine grd_elim h fun g10 h => ?_
          refine s_sliceS (a := x5 + (p1.size : Int)) (b := (v0_0.size : Int)) rfl rfl iss9 ⟨_, rfl⟩ rfl g10 rfl rfl rfl ?_
          refine s_mv (.inr rfl) (by conv => lhs; whnf) rfl rfl rfl ?_
          refine rt_nil ?_
          refine Exists.intro ⟨(f0, v0_0.extract (x5 + (p1.size : Int)).toNat (v0_0.size : Int).toNat, v0_1 + 1), h⟩ (And.intro (Nat.lt_succ_self _) ?_)
          refine entX [] [] trivial trivial rfl rfl ?_
          exact ⟨(.free rfl), (.free rfl), (.free rfl), trivial⟩

/- strings.genSplit -/
def inv_strings_genSplit_2 (p0 : ByteArray) (p1 : ByteArray) (p2 : Int) (j0_0 : Int) (v2_0 : ByteArray) (v2_1 : List ByteArray) (v2_2 : Int) : St := mkT 66 [(0, .sc (.string v2_0)), (1, .sc (.string p1)), (2, .sc (.int .i64 p2)), (3, .sc (.int .i64 ((if (p0.size : Int) + 1 < j0_0 then (p0.size : Int) + 1 else j0_0) - 1))), (9, .ref (31, 0) 0 v2_1.length), (10, .sc (.int .i64 v2_2))] [((31, 0), some ⟨9, 1, List.map strV v2_1, false, true⟩)]
def inv_strings_genSplit_1  (j1_0 : ByteArray) (j1_1 : List ByteArray) (j1_2 : Int) : St := mkT 66 [(0, .sc (.string j1_0)), (9, .ref (31, 0) 0 j1_1.length), (10, .sc (.int .i64 j1_2))] [((31, 0), some ⟨9, 1, List.map strV j1_1, false, true⟩)]
def inv_strings_genSplit_0 (p0 : ByteArray) (p1 : ByteArray) (p2 : Int) (j0_0 : Int) : St := mkT 66 [(0, .sc (.string p0)), (1, .sc (.string p1)), (2, .sc (.int .i64 p2)), (3, .sc (.int .i64 j0_0))] []
set_option maxRecDepth 4000 in
set_option maxHeartbeats 800000 in
theorem wstrings_genSplit (p0 : ByteArray) (p1 : ByteArray) (p2 : Int) (p3 : Int) (r0 : List ByteArray) (h : strings_genSplit p0 p1 p2 p3 = some r0) : Runs Tryz.prog 184 [.sc (.string p0), .sc (.string p1), .sc (.int .i64 p2), .sc (.int .i64 p3)] [] (.own 9 1 (List.map strV r0)) [] := by
  unfold strings_genSplit at h
  refine runsR [.tmp 8] Tryz.func184 rfl rfl rfl rfl ?_
  rw [Tryz.ntmps184]
  refine tri_seq ?_
  refine tri_region ?_
  refine s_mv (.inr rfl) (v := .nils) rfl rfl rfl rfl ?_
  refine rt_nil ?_
  refine tri_seq ?_
  refine tri_seq ?_
  refine tri_region ?_
  refine s_mv (.inl rfl) (by conv => lhs; whnf) rfl rfl rfl ?_
  refine s_of (st_eqI rfl rfl rfl) rfl rfl rfl rfl ?_
  refine rt_nil ?_
  refine tri_cond rfl (fun c1 => ?_) (fun c1 => ?_)
  · replace h := cond_t h c1
    refine tri_seq ?_
    refine tri_region ?_
    refine s_mv (.inr rfl) (v := .nils) rfl rfl rfl rfl ?_
    refine rt_nil ?_
    refine tri_ret ?_
    have e0 := (some1 h); subst e0
    exact endY (v' := .ref (2000, 0) 0 (([] : List ByteArray).length)) [((2000, 0), ⟨9, 1, List.map strV ([] : List ByteArray), false, true⟩, none)] [] (rvC (resTmp rfl) rvN) ⟨rfl, trivial⟩ trivial rfl rfl (by kernel_rfl) (by first | (simp only [V.mat, V.mat1, V.mat0, matL, matT, List.length_map]; done) | (simp only [V.mat, V.mat1, V.mat0, matL, matT, List.length_map]; rfl)) (.nilRef rfl)
  · replace h := cond_f h c1
    refine tri_skip ?_
    refine tri_seq ?_
    refine tri_seq ?_
    refine tri_region ?_
    refine s_mv (.inl rfl) (by conv => lhs; whnf) rfl rfl rfl ?_
    refine s_of (st_eqS rfl rfl rfl) rfl rfl rfl rfl ?_
    refine rt_nil ?_
    refine tri_cond rfl (fun c2 => ?_) (fun c2 => ?_)
    · replace h := cond_t h c2
      refine tri_seq ?_
      refine tri_region ?_
      refine s_mv (.inl rfl) (by conv => lhs; whnf) rfl rfl rfl ?_
      refine s_mv (.inl rfl) (by conv => lhs; whnf) rfl rfl rfl ?_
      cases h
    · replace h := cond_f h c2
      refine tri_skip ?_
      refine tri_cutI (ι := { p : Int // strings_genSplit_j0 p0 p1 p2 p = some r0 }) (fun p => inv_strings_genSplit_0 p0 p1 p2 p.1) ?_ ?_
      · skip
        refine tri_seq ?_
        refine tri_region ?_
        refine s_mv (.inl rfl) (by conv => lhs; whnf) rfl rfl rfl ?_
        refine s_of (st_lss rfl rfl rfl) rfl rfl rfl rfl ?_
        refine rt_nil ?_
        refine tri_cond rfl (fun c3 => ?_) (fun c3 => ?_)
        · replace h := cond_t h c3
          refine tri_region ?_
          refine s_mv (.inl rfl) (by conv => lhs; whnf) rfl rfl rfl ?_
          refine s_mv (.inl rfl) (by conv => lhs; whnf) rfl rfl rfl ?_
          refine bnd1_elim h fun x4 q5 h => ?_
          refine s_callN (kb := []) (ns := []) (v := .sc (.int .i64 x4)) rfl rfl cl191 (wstrings_Count p0 p1 x4 q5) rfl (.cons (.free rfl) (.cons (.free rfl) .nil)) trivial memNil .nil memNil rfl trivial memNil rfl rfl rfl rfl rfl rfl ?_
          refine grd_elim h fun g6 h => ?_
          refine s_addI rfl rfl rfl rfl g6 rfl rfl rfl ?_
          refine s_mv (.inr rfl) (by conv => lhs; whnf) rfl rfl rfl ?_
          refine rt_nil ?_
          refine Exists.intro ⟨x4 + 1, h⟩ ?_
          refine entX [] [] trivial trivial rfl rfl ?_
          exact ⟨(.free rfl), (.free rfl), (.free rfl), (.free rfl), trivial⟩
        · replace h := cond_f h c3
          refine tri_skip ?_
          refine Exists.intro ⟨p3, h⟩ ?_
          refine entX [] [] trivial trivial rfl rfl ?_
          exact ⟨(.free rfl), (.free rfl), (.free rfl), (.free rfl), trivial⟩
      · rintro ⟨j0_0, h⟩
        replace h : strings_genSplit_j0 p0 p1 p2 j0_0 = some r0 := h
        unfold strings_genSplit_j0 at h
        show Tri _ _ _ (inv_strings_genSplit_0 p0 p1 p2 j0_0)
        refine tri_seq ?_
        refine tri_region ?_
        refine s_mv (.inl rfl) (by conv => lhs; whnf) rfl rfl rfl ?_
        refine s_mv (.inl rfl) (by conv => lhs; whnf) rfl rfl rfl ?_
        refine s_of (st_lenS rfl rfl iss9) rfl rfl rfl rfl ?_
        refine grd_elim h fun g3 h => ?_
        refine s_addI rfl rfl rfl rfl g3 rfl rfl rfl ?_
        refine s_of (st_minI rfl rfl rfl) rfl rfl rfl rfl ?_
        refine s_mv (.inr rfl) (by conv => lhs; whnf) rfl rfl rfl ?_
        refine rt_nil ?_
        refine tri_seq ?_
        refine tri_region ?_
        refine s_mv (.inl rfl) (by conv => lhs; whnf) rfl rfl rfl ?_
        refine grd_elim h fun g4 h => ?_
        refine s_makeL (f := strV) (a := (⟨#[]⟩ : ByteArray)) rfl rfl rfl rfl rfl sl112 zc9 rfl rfl rfl rfl g4.1 g4.2 (rowZ_cv rfl rowZ_nil) rfl rfl ?_
        refine s_mv (.inr rfl) (by conv => lhs; whnf) rfl rfl rfl ?_
        refine rt_nil ?_
        refine tri_seq ?_
        refine tri_region ?_
        refine s_mv (.inl rfl) (by conv => lhs; whnf) rfl rfl rfl ?_
        refine grd_elim h fun g5 h => ?_
        refine s_subI rfl rfl rfl rfl g5 rfl rfl rfl ?_
        refine s_mv (.inr rfl) (by conv => lhs; whnf) rfl rfl rfl ?_
        refine rt_nil ?_
        refine tri_seq ?_
        refine tri_region ?_
        refine s_mv (.inr rfl) (v := .sc (.int .i64 0)) rfl rfl rfl rfl ?_
        refine rt_nil ?_
        refine tri_cutI (ι := { p : ByteArray × (List ByteArray) × Int // strings_genSplit_j1 p.1 p.2.1 p.2.2 = some r0 }) (fun p => inv_strings_genSplit_1 p.1.1 p.1.2.1 p.1.2.2) ?_ ?_
        · skip
          refine tri_block ?_
          refine tri_loop (ι := { p : Nat × ByteArray × (List ByteArray) × Int // strings_genSplit_l2 p0 p1 p2 j0_0 p.1 p.2.1 p.2.2.1 p.2.2.2 = some r0 }) (fun p => inv_strings_genSplit_2 p0 p1 p2 j0_0 p.1.2.1 p.1.2.2.1 p.1.2.2.2) (fun p => p.1.1) ⟨(fuel0, p0, List.replicate (if (p0.size : Int) + 1 < j0_0 then (p0.size : Int) + 1 else j0_0).toNat (⟨#[]⟩ : ByteArray), 0), h⟩ ?_ ?_
          · skip
            refine entX [((31, 0), ⟨9, 1, List.map strV (List.replicate (if (p0.size : Int) + 1 < j0_0 then (p0.size : Int) + 1 else j0_0).toNat (⟨#[]⟩ : ByteArray)), false, true⟩, some (31, 0))] [] ⟨⟨rfl, _, rfl, rfl, rfl, rfl, id, rowsCv_eq rfl (allFree_map strV_free), rowsZ_map strV_len⟩, trivial⟩ trivial rfl rfl ?_
            exact ⟨(.free rfl), (.free rfl), (.free rfl), (.free rfl), (.ref rfl), (.free rfl), trivial⟩
          · rintro ⟨⟨f2, v2_0, v2_1, v2_2⟩, h⟩
            replace h : strings_genSplit_l2 p0 p1 p2 j0_0 f2 v2_0 v2_1 v2_2 = some r0 := h
            cases f2 with
            | zero => cases h
            | succ f2 =>
            rw [strings_genSplit_l2] at h
            show Tri _ _ _ (inv_strings_genSplit_2 p0 p1 p2 j0_0 v2_0 v2_1 v2_2)
            refine tri_seq ?_
            refine tri_seq ?_
            refine tri_region ?_
            refine s_mv (.inl rfl) (by conv => lhs; whnf) rfl rfl rfl ?_
            refine s_mv (.inl rfl) (by conv => lhs; whnf) rfl rfl rfl ?_
            refine s_of (st_lss rfl rfl rfl) rfl rfl rfl rfl ?_
            refine rt_nil ?_
            refine tri_cond rfl (fun c6 => ?_) (fun c6 => ?_)
            · replace h := cond_t h c6
              refine tri_skip ?_
              refine tri_block ?_
              refine tri_seq ?_
              refine tri_region ?_
              refine s_mv (.inl rfl) (by conv => lhs; whnf) rfl rfl rfl ?_
              refine s_mv (.inl rfl) (by conv => lhs; whnf) rfl rfl rfl ?_
              refine bnd1_elim h fun x7 q8 h => ?_
              refine s_callN (kb := []) (ns := []) (v := .sc (.int .i64 x7)) rfl rfl cl192 (wstrings_Index v2_0 p1 x7 q8) rfl (.cons (.free rfl) (.cons (.free rfl) .nil)) trivial memNil .nil memNil rfl trivial memNil rfl rfl rfl rfl rfl rfl ?_
              refine s_mv (.inr rfl) (by conv => lhs; whnf) rfl rfl rfl ?_
              refine rt_nil ?_
              refine tri_seq ?_
              refine tri_seq ?_
              refine tri_region ?_
              refine s_mv (.inl rfl) (by conv => lhs; whnf) rfl rfl rfl ?_
              refine s_of (st_lss rfl rfl rfl) rfl rfl rfl rfl ?_
              refine rt_nil ?_
              refine tri_cond rfl (fun c9 => ?_) (fun c9 => ?_)
              · replace h := cond_t h c9
                refine tri_exit ?_
                refine Exists.intro ⟨(v2_0, v2_1, v2_2), h⟩ ?_
                refine entX [((31, 0), ⟨9, 1, List.map strV v2_1, false, true⟩, some (31, 0))] [] ⟨⟨rfl, _, rfl, rfl, rfl, rfl, id, rowsCv_eq rfl (allFree_map strV_free), rowsZ_map strV_len⟩, trivial⟩ trivial rfl rfl ?_
                exact ⟨(.free rfl), (.ref rfl), (.free rfl), trivial⟩
              · replace h := cond_f h c9
                refine tri_skip ?_
                refine tri_seq ?_
                refine tri_region ?_
                refine s_mv (.inl rfl) (by conv => lhs; whnf) rfl rfl rfl ?_
                refine s_mv (.inl rfl) (by conv => lhs; whnf) rfl rfl rfl ?_
                refine s_mv (.inl rfl) (by conv => lhs; whnf) rfl rfl rfl ?_
                refine s_mv (.inl rfl) (by conv => lhs; whnf) rfl rfl rfl ?_
                refine s_mv (.inl rfl) (by conv => lhs; whnf) rfl rfl rfl ?_
                refine grd_elim h fun g10 h => ?_
                refine s_addI rfl rfl rfl rfl g10 rfl rfl rfl ?_
                refine grd_elim h fun g11 h => ?_
                refine s_sliceS (a := ((0 : Nat) : Int)) (b := x7 + p2) rfl rfl iss9 rfl ⟨_, rfl⟩ g11 rfl rfl rfl ?_
                refine bnd1_elim h fun x12 q13 h => ?_
                have q13a := (idx_some q13).1; have q13b := (idx_some q13).2
                refine s_indexZ rfl rfl rfl rfl sl112 rfl q13a (get_lt q13b) rfl rfl rfl ?_
                refine s_storeL (x' := v2_0.extract ((0 : Nat) : Int).toNat (x7 + p2).toNat) rfl rfl rfl q13b ty9 rfl rfl rfl rfl rfl rfl ?_
                refine rt_nil ?_
                refine tri_seq ?_
                refine tri_region ?_
                refine s_mv (.inl rfl) (by conv => lhs; whnf) rfl rfl rfl ?_
                refine s_mv (.inl rfl) (by conv => lhs; whnf) rfl rfl rfl ?_
                refine s_mv (.inl rfl) (by conv => lhs; whnf) rfl rfl rfl ?_
                refine s_of (st_lenS rfl rfl iss9) rfl rfl rfl rfl ?_
                refine grd_elim h fun g14 h => ?_
                refine s_addI rfl rfl rfl rfl g14 rfl rfl rfl ?_
                refine grd_elim h fun g15 h => ?_
                refine s_sliceS (a := x7 + (p1.size : Int)) (b := (v2_0.size : Int)) rfl rfl iss9 ⟨_, rfl⟩ rfl g15 rfl rfl rfl ?_
                refine s_mv (.inr rfl) (by conv => lhs; whnf) rfl rfl rfl ?_
                refine rt_nil ?_
                refine tri_region ?_
                refine s_mv (.inl rfl) (by conv => lhs; whnf) rfl rfl rfl ?_
                refine grd_elim h fun g16 h => ?_
                refine s_addI rfl rfl rfl rfl g16 rfl rfl rfl ?_
                refine s_mv (.inr rfl) (by conv => lhs; whnf) rfl rfl rfl ?_
                refine rt_nil ?_
                refine Exists.intro ⟨(f2, v2_0.extract (x7 + (p1.size : Int)).toNat (v2_0.size : Int).toNat, v2_1.set v2_2.toNat (v2_0.extract ((0 : Nat) : Int).toNat (x7 + p2).toNat), v2_2 + 1), h⟩ (And.intro (Nat.lt_succ_self _) ?_)
                refine entX [((31, 0), ⟨9, 1, List.map strV (v2_1.set v2_2.toNat (v2_0.extract ((0 : Nat) : Int).toNat (x7 + p2).toNat)), false, true⟩, some (31, 0))] [] ⟨⟨rfl, _, rfl, rfl, rfl, rfl, id, rowsCv_eq rfl (allFree_map strV_free), rowsZ_map strV_len⟩, trivial⟩ trivial rfl rfl ?_
                exact ⟨(.free rfl), (.free rfl), (.free rfl), (.free rfl), (cvRefLen rfl (by simp only [List.length_set])), (.free rfl), trivial⟩
            · replace h := cond_f h c6
              refine tri_exit ?_
              refine Exists.intro ⟨(v2_0, v2_1, v2_2), h⟩ ?_
              refine entX [((31, 0), ⟨9, 1, List.map strV v2_1, false, true⟩, some (31, 0))] [] ⟨⟨rfl, _, rfl, rfl, rfl, rfl, id, rowsCv_eq rfl (allFree_map strV_free), rowsZ_map strV_len⟩, trivial⟩ trivial rfl rfl ?_
              exact ⟨(.free rfl), (.ref rfl), (.free rfl), trivial⟩
        · rintro ⟨⟨j1_0, j1_1, j1_2⟩, h⟩
          replace h : strings_genSplit_j1 j1_0 j1_1 j1_2 = some r0 := h
          unfold strings_genSplit_j1 at h
          show Tri _ _ _ (inv_strings_genSplit_1 j1_0 j1_1 j1_2)
          refine tri_seq ?_
          refine tri_region ?_
          refine s_mv (.inl rfl) (by conv => lhs; whnf) rfl rfl rfl ?_
          refine s_mv (.inl rfl) (by conv => lhs; whnf) rfl rfl rfl ?_
          refine s_mv (.inl rfl) (by conv => lhs; whnf) rfl rfl rfl ?_
          refine bnd1_elim h fun x6 q7 h => ?_
          have q7a := (idx_some q7).1; have q7b := (idx_some q7).2
          refine s_indexZ rfl rfl rfl rfl sl112 rfl q7a (get_lt q7b) rfl rfl rfl ?_
          refine s_storeL (x' := j1_0) rfl rfl rfl q7b ty9 rfl rfl rfl rfl rfl rfl ?_
          refine rt_nil ?_
          refine tri_seq ?_
          refine tri_region ?_
          refine s_mv (.inl rfl) (by conv => lhs; whnf) rfl rfl rfl ?_
          refine s_mv (.inl rfl) (by conv => lhs; whnf) rfl rfl rfl ?_
          refine grd_elim h fun g8 h => ?_
          refine s_addI rfl rfl rfl rfl g8 rfl rfl rfl ?_
          refine grd_elim h fun g9 h => ?_
          refine s_sliceZ (a := ((0 : Nat) : Int)) (b := j1_2 + 1) rfl rfl rfl sl112 rfl rfl ⟨_, rfl⟩ g9 rfl rfl rfl ?_
          refine s_mv (.inr rfl) (by conv => lhs; whnf) rfl rfl rfl ?_
          refine rt_nil ?_
          refine tri_ret ?_
          have e0 := (some1 h); subst e0
          exact endY (v' := .ref (2000, 0) 0 ((((j1_1.set j1_2.toNat j1_0).drop (0 + ((0 : Nat) : Int).toNat)).take ((j1_2 + 1).toNat - ((0 : Nat) : Int).toNat)).length)) [((2000, 0), ⟨9, 1, List.map strV (((j1_1.set j1_2.toNat j1_0).drop (0 + ((0 : Nat) : Int).toNat)).take ((j1_2 + 1).toNat - ((0 : Nat) : Int).toNat)), false, true⟩, some (31, 0))] [] (rvC (resTmp rfl) rvN) ⟨⟨rfl, _, rfl, rfl, rfl, rfl, id, rowsCv_pre rfl strV_free, rowsZ_map strV_len⟩, trivial⟩ trivial rfl rfl (by kernel_rfl) (by first | (simp only [V.mat, V.mat1, V.mat0, matL, matT, List.length_map]; done) | (simp only [V.mat, V.mat1, V.mat0, matL, matT, List.length_map]; rfl)) (cvRefPre rfl rfl (by simp only [List.length_take, List.length_drop, List.length_set]; omega))

/- strings.Split -/

set_option maxRecDepth 4000 in
set_option maxHeartbeats 800000 in
theorem wstrings_Split (p0 : ByteArray) (p1 : ByteArray) (r0 : List ByteArray) (h : strings_Split p0 p1 = some r0) : Runs Tryz.prog 170 [.sc (.string p0), .sc (.string p1)] [] (.own 9 1 (List.map strV r0)) [] := by
  unfold strings_Split at h
  refine runsR [.tmp 4] Tryz.func170 rfl rfl rfl rfl ?_
  rw [Tryz.ntmps170]
  refine tri_seq ?_
  refine tri_region ?_
  refine s_mv (.inr rfl) (v := .nils) rfl rfl rfl rfl ?_
  refine rt_nil ?_
  refine tri_seq ?_
  refine tri_region ?_
  refine s_mv (.inl rfl) (by conv => lhs; whnf) rfl rfl rfl ?_
  refine s_mv (.inl rfl) (by conv => lhs; whnf) rfl rfl rfl ?_
  refine bnd1_elim h fun x1 q2 h => ?_
  refine s_callN (kb := []) (ns := []) (v := .ref (7, 0) 0 x1.length) rfl rfl cl184 (wstrings_genSplit p0 p1 0 (-1) x1 q2) rfl (.cons (.free rfl) (.cons (.free rfl) (.cons (.free rfl) (.cons (.free rfl) .nil)))) trivial memNil .nil memNil rfl ⟨(allSc_map strV_sc), trivial⟩ memNil rfl (by first | (simp only [V.mat, V.mat1, V.mat0, matL, matT, List.length_map]; done) | (simp only [V.mat, V.mat1, V.mat0, matL, matT, List.length_map]; rfl)) rfl rfl rfl rfl ?_
  refine s_mv (.inr rfl) (by conv => lhs; whnf) rfl rfl rfl ?_
  refine rt_nil ?_
  refine tri_ret ?_
  have e0 := (some1 h); subst e0
  exact endY (v' := .ref (2000, 0) 0 x1.length) [((2000, 0), ⟨9, 1, List.map strV x1, false, true⟩, some (7, 0))] [] (rvC (resTmp rfl) rvN) ⟨⟨rfl, _, rfl, rfl, rfl, rfl, id, rowsCv_eq rfl (allFree_map strV_free), rowsZ_map strV_len⟩, trivial⟩ trivial rfl rfl (by kernel_rfl) (by first | (simp only [V.mat, V.mat1, V.mat0, matL, matT, List.length_map]; done) | (simp only [V.mat, V.mat1, V.mat0, matL, matT, List.length_map]; rfl)) (.ref rfl)

/- impl.Labels -/

set_option maxRecDepth 4000 in
set_option maxHeartbeats 800000 in
theorem wi_Labels (p0 : ByteArray) (r0 : List ByteArray) (h : i_Labels p0 = some r0) : Runs Tryz.prog 141 [.sc (.string p0)] [] (.own 9 1 (List.map strV r0)) [] := by
  unfold i_Labels at h
  refine runsR [.tmp 2] Tryz.func141 rfl rfl rfl rfl ?_
  rw [Tryz.ntmps141]
  refine tri_seq ?_
  refine tri_region ?_
  refine s_mv (.inr rfl) (v := .nils) rfl rfl rfl rfl ?_
  refine rt_nil ?_
  refine tri_seq ?_
  refine tri_seq ?_
  refine tri_region ?_
  refine s_mv (.inl rfl) (by conv => lhs; whnf) rfl rfl rfl ?_
  refine s_of (st_eqS rfl rfl rfl) rfl rfl rfl rfl ?_
  refine rt_nil ?_
  refine tri_cond rfl (fun c1 => ?_) (fun c1 => ?_)
  · replace h := cond_t h c1
    refine tri_seq ?_
    refine tri_region ?_
    refine s_mv (.inr rfl) (v := .nils) rfl rfl rfl rfl ?_
    refine rt_nil ?_
    refine tri_ret ?_
    have e0 := (some1 h); subst e0
    exact endY (v' := .ref (2000, 0) 0 (([] : List ByteArray).length)) [((2000, 0), ⟨9, 1, List.map strV ([] : List ByteArray), false, true⟩, none)] [] (rvC (resTmp rfl) rvN) ⟨rfl, trivial⟩ trivial rfl rfl (by kernel_rfl) (by first | (simp only [V.mat, V.mat1, V.mat0, matL, matT, List.length_map]; done) | (simp only [V.mat, V.mat1, V.mat0, matL, matT, List.length_map]; rfl)) (.nilRef rfl)
  · replace h := cond_f h c1
    refine tri_skip ?_
    refine tri_seq ?_
    refine tri_region ?_
    refine s_mv (.inl rfl) (by conv => lhs; whnf) rfl rfl rfl ?_
    refine bnd1_elim h fun x2 q3 h => ?_
    refine s_callN (kb := []) (ns := []) (v := .ref (6, 0) 0 x2.length) rfl rfl cl170 (wstrings_Split p0 (⟨#[46]⟩ : ByteArray) x2 q3) rfl (.cons (.free rfl) (.cons (.free rfl) .nil)) trivial memNil .nil memNil rfl ⟨(allSc_map strV_sc), trivial⟩ memNil rfl (by first | (simp only [V.mat, V.mat1, V.mat0, matL, matT, List.length_map]; done) | (simp only [V.mat, V.mat1, V.mat0, matL, matT, List.length_map]; rfl)) rfl rfl rfl rfl ?_
    refine s_mv (.inr rfl) (by conv => lhs; whnf) rfl rfl rfl ?_
    refine rt_nil ?_
    refine tri_ret ?_
    have e0 := (some1 h); subst e0
    exact endY (v' := .ref (2000, 0) 0 x2.length) [((2000, 0), ⟨9, 1, List.map strV x2, false, true⟩, some (6, 0))] [] (rvC (resTmp rfl) rvN) ⟨⟨rfl, _, rfl, rfl, rfl, rfl, id, rowsCv_eq rfl (allFree_map strV_free), rowsZ_map strV_len⟩, trivial⟩ trivial rfl rfl (by kernel_rfl) (by first | (simp only [V.mat, V.mat1, V.mat0, matL, matT, List.length_map]; done) | (simp only [V.mat, V.mat1, V.mat0, matL, matT, List.length_map]; rfl)) (.ref rfl)

/- slices.Equal[[]string,string] -/
def inv_slices_Equal_string_0 (p0 : List ByteArray) (p1 : List ByteArray) (v0_0 : Nat) : St := mkT 26 [(0, .lst 1 (List.map strV p0)), (1, .lst 1 (List.map strV p1)), (12, .sc (.int .i64 (p0.length : Int))), (13, .sc (.int .i64 (v0_0 : Int)))] []
set_option maxRecDepth 4000 in
set_option maxHeartbeats 800000 in
theorem wslices_Equal_string (p0 : List ByteArray) (p1 : List ByteArray) (r0 : Bool) (h : slices_Equal_string p0 p1 = some r0) : Runs Tryz.prog 142 [.lst 1 (List.map strV p0), .lst 1 (List.map strV p1)] [] (.sc (.bool r0)) [] := by
  unfold slices_Equal_string at h
  refine runsR [.tmp 4] Tryz.func142 rfl rfl rfl rfl ?_
  rw [Tryz.ntmps142]
  refine tri_seq ?_
  refine tri_region ?_
  refine s_mv (.inr rfl) (v := .sc (.bool false)) rfl rfl rfl rfl ?_
  refine rt_nil ?_
  refine tri_seq ?_
  refine tri_seq ?_
  refine tri_region ?_
  refine s_mv (.inl rfl) (by conv => lhs; whnf) rfl rfl rfl ?_
  refine s_lenL rfl sl112 rfl rfl rfl rfl ?_
  refine s_mv (.inl rfl) (by conv => lhs; whnf) rfl rfl rfl ?_
  refine s_lenL rfl sl112 rfl rfl rfl rfl ?_
  refine s_of (st_neI rfl rfl rfl) rfl rfl rfl rfl ?_
  refine rt_nil ?_
  refine tri_cond rfl (fun c1 => ?_) (fun c1 => ?_)
  · replace h := cond_t h c1
    refine tri_seq ?_
    refine tri_region ?_
    refine s_mv (.inr rfl) (v := .sc (.bool false)) rfl rfl rfl rfl ?_
    refine rt_nil ?_
    refine tri_ret ?_
    have e0 := (some1 h); subst e0
    exact endY [] [] (rvC (resTmp rfl) rvN) trivial trivial rfl rfl rfl rfl (.free rfl)
  · replace h := cond_f h c1
    refine tri_skip ?_
    refine tri_seq ?_
    refine tri_seq ?_
    refine tri_region ?_
    refine s_mv (.inl rfl) (by conv => lhs; whnf) rfl rfl rfl ?_
    refine s_lenL rfl sl112 rfl rfl rfl rfl ?_
    refine s_mv (.inl rfl) (v := .sc (.int .i64 0)) rfl rfl rfl rfl ?_
    refine rt_nil ?_
    refine tri_block ?_
    refine tri_lstM 0 rfl (fun hl0 => ?_)
    refine tri_loop (ι := { p : (List ByteArray) × Nat // p0.drop p.2 = p.1 ∧ slices_Equal_string_l0 p1 p.1 p.2 = some r0 }) (fun p => inv_slices_Equal_string_0 p0 p1 p.1.2) (fun p => p.1.1.length) ⟨(p0, 0), rfl, h⟩ ?_ ?_
    · skip
      refine entX [] [] trivial trivial rfl rfl ?_
      exact ⟨(.free rfl), (.free rfl), (.free rfl), (.free rfl), trivial⟩
    · rintro ⟨⟨lrs0, v0_0⟩, hd0, h⟩
      replace hd0 : p0.drop v0_0 = lrs0 := hd0
      replace h : slices_Equal_string_l0 p1 lrs0 v0_0 = some r0 := h
      show Tri _ _ _ (inv_slices_Equal_string_0 p0 p1 v0_0)
      refine tri_seq ?_
      refine tri_region ?_
      refine s_of (st_lss rfl rfl rfl) rfl rfl rfl rfl ?_
      refine rt_nil ?_
      refine tri_seq ?_
      refine tri_cond rfl (fun c2 => ?_) (fun c2 => ?_)
      · refine drop_elim hd0 c2 fun e0 rs0 he hx0 hn0 => ?_
        subst he
        rw [slices_Equal_string_l0] at h
        refine tri_skip ?_
        refine tri_seq ?_
        refine tri_block ?_
        refine tri_seq ?_
        refine tri_region ?_
        refine s_mv (.inl rfl) (by conv => lhs; whnf) rfl rfl rfl ?_
        refine s_mv (.inr rfl) (by conv => lhs; whnf) rfl rfl rfl ?_
        refine rt_nil ?_
        refine tri_seq ?_
        refine tri_draw mixed ?_
        refine s_mv (.inl rfl) (by conv => lhs; whnf) rfl rfl rfl ?_
        refine s_mv (.inl rfl) (by conv => lhs; whnf) rfl rfl rfl ?_
        refine s_indexF (i := v0_0) rfl rfl rfl sl112 (get_ltM hx0) rfl rfl rfl ?_
        refine s_loadF rfl rfl (rowG hx0) ty9 rfl (.inr rfl) (by conv => lhs; whnf) rfl rfl rfl ?_
        refine s_mv (.inl rfl) (by conv => lhs; whnf) rfl rfl rfl ?_
        refine s_mv (.inl rfl) (by conv => lhs; whnf) rfl rfl rfl ?_
        refine bnd1_elim h fun x3 q4 h => ?_
        have q4a := (idx_some q4).1; have q4b := (idx_some q4).2
        refine s_indexFZ rfl rfl rfl sl112 q4a (get_ltM q4b) rfl rfl rfl ?_
        refine s_loadF rfl rfl (rowG q4b) ty9 rfl (.inr rfl) (by conv => lhs; whnf) rfl rfl rfl ?_
        refine s_of (st_neS rfl rfl rfl) rfl rfl rfl rfl ?_
        refine rt_nil ⟨by kernel_rfl, ?_⟩
        refine tri_cond rfl (fun c5 => ?_) (fun c5 => ?_)
        · replace h := cond_t h c5
          refine tri_seq ?_
          refine tri_region ?_
          refine s_mv (.inr rfl) (v := .sc (.bool false)) rfl rfl rfl rfl ?_
          refine rt_nil ?_
          refine tri_ret ?_
          have e0 := (some1 h); subst e0
          exact endY [] [] (rvC (resTmp rfl) rvN) trivial trivial rfl rfl rfl rfl (.free rfl)
        · replace h := cond_f h c5
          refine tri_skip ?_
          refine tri_region ?_
          refine s_inc (a := v0_0) (b := 1) rfl rfl rfl rfl (by have := get_lt hx0; have := hl0; omega) rfl rfl rfl ?_
          refine s_mv (.inl rfl) (by conv => lhs; whnf) rfl rfl rfl ?_
          refine rt_nil ?_
          refine Exists.intro ⟨(rs0, (v0_0 + 1)), hn0, h⟩ (And.intro (Nat.lt_succ_self _) ?_)
          refine entX [] [] trivial trivial rfl rfl ?_
          exact ⟨(.free rfl), (.free rfl), (.free rfl), (.free rfl), trivial⟩
      · have he := drop_f hd0 c2; subst he
        rw [slices_Equal_string_l0] at h
        refine tri_exit ?_
        refine tri_seq ?_
        refine tri_region ?_
        refine s_mv (.inr rfl) (v := .sc (.bool true)) rfl rfl rfl rfl ?_
        refine rt_nil ?_
        refine tri_ret ?_
        have e0 := (some1 h); subst e0
        exact endY [] [] (rvC (resTmp rfl) rvN) trivial trivial rfl rfl rfl rfl (.free rfl)

/- impl.Under -/

set_option maxRecDepth 4000 in
set_option maxHeartbeats 800000 in
theorem wi_Under (p0 : ByteArray) (p1 : ByteArray) (r0 : Bool) (h : i_Under p0 p1 = some r0) : Runs Tryz.prog 94 [.sc (.string p0), .sc (.string p1)] [] (.sc (.bool r0)) [] := by
  unfold i_Under at h
  refine runsR [.tmp 4] Tryz.func94 rfl rfl rfl rfl ?_
  rw [Tryz.ntmps94]
  refine tri_seq ?_
  refine tri_region ?_
  refine s_mv (.inr rfl) (v := .sc (.bool false)) rfl rfl rfl rfl ?_
  refine rt_nil ?_
  refine tri_seq ?_
  refine tri_region ?_
  refine s_mv (.inl rfl) (by conv => lhs; whnf) rfl rfl rfl ?_
  refine bnd1_elim h fun x1 q2 h => ?_
  refine s_callN (kb := []) (ns := []) (v := .ref (8, 0) 0 x1.length) rfl rfl cl141 (wi_Labels p0 x1 q2) rfl (.cons (.free rfl) .nil) trivial memNil .nil memNil rfl ⟨(allSc_map strV_sc), trivial⟩ memNil rfl (by first | (simp only [V.mat, V.mat1, V.mat0, matL, matT, List.length_map]; done) | (simp only [V.mat, V.mat1, V.mat0, matL, matT, List.length_map]; rfl)) rfl rfl rfl rfl ?_
  refine s_mv (.inl rfl) (by conv => lhs; whnf) rfl rfl rfl ?_
  refine bnd1_elim h fun x3 q4 h => ?_
  refine s_callN (kb := []) (ns := []) (v := .ref (10, 0) 0 x3.length) rfl rfl cl141 (wi_Labels p1 x3 q4) rfl (.cons (.free rfl) .nil) trivial memNil .nil memNil rfl ⟨(allSc_map strV_sc), trivial⟩ memNil rfl (by first | (simp only [V.mat, V.mat1, V.mat0, matL, matT, List.length_map]; done) | (simp only [V.mat, V.mat1, V.mat0, matL, matT, List.length_map]; rfl)) rfl rfl rfl rfl ?_
  refine s_mv (.inr rfl) (by conv => lhs; whnf) rfl rfl rfl ?_
  refine s_mv (.inr rfl) (by conv => lhs; whnf) rfl rfl rfl ?_
  refine rt_nil ?_
  refine tri_seq ?_
  refine tri_region ?_
  refine s_mv (.inl rfl) (by conv => lhs; whnf) rfl rfl rfl ?_
  refine s_len (m := x1.length) rfl sl112 rfl rfl rfl rfl ?_
  refine s_mv (.inl rfl) (by conv => lhs; whnf) rfl rfl rfl ?_
  refine s_len (m := x3.length) rfl sl112 rfl rfl rfl rfl ?_
  refine s_of (st_geq rfl rfl rfl) rfl rfl rfl rfl ?_
  refine s_mv (.inl rfl) (by conv => lhs; whnf) rfl rfl rfl ?_
  refine s_split (t := 16) rfl (fun b5 => ?_) (fun b5 => ?_)
  · replace h := cond_t h b5
    refine s_mv (.inl rfl) (by conv => lhs; whnf) rfl rfl rfl ?_
    refine s_mv (.inl rfl) (by conv => lhs; whnf) rfl rfl rfl ?_
    refine s_len (m := x1.length) rfl sl112 rfl rfl rfl rfl ?_
    refine s_mv (.inl rfl) (by conv => lhs; whnf) rfl rfl rfl ?_
    refine s_len (m := x3.length) rfl sl112 rfl rfl rfl rfl ?_
    refine grd_elim h fun g6 h => ?_
    refine s_subI rfl rfl rfl rfl g6 rfl rfl rfl ?_
    refine grd_elim h fun g7 h => ?_
    refine s_sliceZ (a := (x1.length : Int) - (x3.length : Int)) (b := (x1.length : Int)) rfl rfl rfl sl112 rfl ⟨_, rfl⟩ rfl g7 rfl rfl rfl ?_
    refine s_mv (.inl rfl) (by conv => lhs; whnf) rfl rfl rfl ?_
    refine bnd1_elim h fun x8 q9 h => ?_
    refine s_callN (kb := [(8, 0), (10, 0)]) (ns := []) (v := .sc (.bool x8)) rfl rfl cl142 (wslices_Equal_string ((x1.drop (0 + ((x1.length : Int) - (x3.length : Int)).toNat)).take ((x1.length : Int).toNat - ((x1.length : Int) - (x3.length : Int)).toNat)) x3 x8 q9) rfl (.cons (lendV rfl (.head _) (by first | omega | (simp only [List.length_set]; omega)) strV_free strV_len) (.cons (lendL rfl (.tail _ (.head _)) rfl strV_free strV_len) .nil)) trivial memNil .nil (fun _ _ => List.not_mem_nil) rfl trivial memNil rfl rfl rfl rfl rfl rfl ?_
    refine s_pickT rfl rfl (by conv => lhs; whnf) rfl rfl rfl ?_
    refine s_mv (.inr rfl) (by conv => lhs; whnf) rfl rfl rfl ?_
    refine rt_nil ?_
    refine tri_ret ?_
    have e0 := (some1 h); subst e0
    exact endY [] [] (rvC (resTmp rfl) rvN) trivial trivial rfl rfl rfl rfl (.free rfl)
  · replace h := cond_f h b5
    refine s_skip rfl rfl rfl ?_
    refine s_skip rfl rfl rfl ?_
    refine s_skip rfl rfl rfl ?_
    refine s_skip rfl rfl rfl ?_
    refine s_skip rfl rfl rfl ?_
    refine s_skip rfl rfl rfl ?_
    refine s_skip rfl rfl rfl ?_
    refine s_skip rfl rfl rfl ?_
    refine s_skip rfl rfl rfl ?_
    refine s_pickF rfl rfl (v := .sc (.bool false)) rfl rfl rfl rfl ?_
    refine s_mv (.inr rfl) (by conv => lhs; whnf) rfl rfl rfl ?_
    refine rt_nil ?_
    refine tri_ret ?_
    have e0 := (some1 h); subst e0
    exact endY [] [] (rvC (resTmp rfl) rvN) trivial trivial rfl rfl rfl rfl (.free rfl)

/- impl.PartsOf -/

set_option maxRecDepth 4000 in
set_option maxHeartbeats 800000 in
theorem wi_PartsOf (p0 : ByteArray) (r0 : Int) (h : i_PartsOf p0 = some r0) : Runs Tryz.prog 139 [.sc (.string p0)] [] (.sc (.int .i64 r0)) [] := by
  unfold i_PartsOf at h
  refine runsR [.tmp 2] Tryz.func139 rfl rfl rfl rfl ?_
  rw [Tryz.ntmps139]
  refine tri_seq ?_
  refine tri_region ?_
  refine s_mv (.inr rfl) (v := .sc (.int .i64 0)) rfl rfl rfl rfl ?_
  refine rt_nil ?_
  refine tri_seq ?_
  refine tri_region ?_
  refine s_mv (.inl rfl) (by conv => lhs; whnf) rfl rfl rfl ?_
  refine bnd1_elim h fun x1 q2 h => ?_
  refine s_callN (kb := []) (ns := []) (v := .ref (4, 0) 0 x1.length) rfl rfl cl141 (wi_Labels p0 x1 q2) rfl (.cons (.free rfl) .nil) trivial memNil .nil memNil rfl ⟨(allSc_map strV_sc), trivial⟩ memNil rfl (by first | (simp only [V.mat, V.mat1, V.mat0, matL, matT, List.length_map]; done) | (simp only [V.mat, V.mat1, V.mat0, matL, matT, List.length_map]; rfl)) rfl rfl rfl rfl ?_
  refine s_len (m := x1.length) rfl sl112 rfl rfl rfl rfl ?_
  refine s_mv (.inr rfl) (by conv => lhs; whnf) rfl rfl rfl ?_
  refine rt_nil ?_
  refine tri_ret ?_
  have e0 := (some1 h); subst e0
  exact endY [] [] (rvC (resTmp rfl) rvN) trivial trivial rfl rfl rfl rfl (.free rfl)

/- impl.deepest -/
def inv_i_deepest_1 (p0 : MForest) (p1 : ByteArray) (fi2 : FuncId) (cp2 : List V) (v0_0 : Int) (v0_1 : Nat) (j1_0 : Bool) : St := mkT 48 [(1, .sc (.string p1)), (2, .fn fi2 cp2), (3, .ptr (3, 0) 0 0), (7, .sc (.int .i64 v0_0)), (8, .sc (.int .i64 (v0_1 : Int))), (11, .lst 2 (List.map mZoneV p0.zones)), (12, .sc (.int .i64 (p0.zones.length : Int))), (13, .sc (.int .i64 (v0_1 : Int))), (44, .sc (.bool j1_0))] [((3, 0), some ⟨34, 2, [[.lst 2 (List.map mZoneV p0.zones), .lst 2 (List.map mPostV p0.posts)]], false, true⟩)]
def inv_i_deepest_0 (p0 : MForest) (p1 : ByteArray) (fi2 : FuncId) (cp2 : List V) (v0_0 : Int) (v0_1 : Nat) : St := mkT 48 [(1, .sc (.string p1)), (2, .fn fi2 cp2), (3, .ptr (3, 0) 0 0), (7, .sc (.int .i64 v0_0)), (11, .lst 2 (List.map mZoneV p0.zones)), (12, .sc (.int .i64 (p0.zones.length : Int))), (13, .sc (.int .i64 (v0_1 : Int)))] [((3, 0), some ⟨34, 2, [[.lst 2 (List.map mZoneV p0.zones), .lst 2 (List.map mPostV p0.posts)]], false, true⟩)]
set_option maxRecDepth 4000 in
set_option maxHeartbeats 800000 in
theorem wi_deepest (p0 : MForest) (p1 : ByteArray) (fi2 : FuncId) (cp2 : List V) (hf2 : cp2.all (·.free) = true) (hb2 : callable Tryz.prog fi2 = true) (p2 : ByteArray → Option Bool) (hg2 : ∀ (z0 : ByteArray) v, p2 z0 = some v → Runs Tryz.prog fi2 ([.sc (.string z0)] ++ cp2) [] (.sc (.bool v)) []) (r0 : Int) (h : i_deepest p0 p1 p2 = some r0) : Runs Tryz.prog 91 [.agg (mForestV p0), .sc (.string p1), .fn fi2 cp2] [] (.sc (.int .i64 r0)) [] := by
  unfold i_deepest at h
  refine runsR [.tmp 6] Tryz.func91 rfl rfl rfl rfl ?_
  rw [Tryz.ntmps91]
  refine tri_seq ?_
  refine tri_region ?_
  refine s_box rfl rfl rfl rfl rfl rfl rfl ?_
  refine s_mv (.inr rfl) (v := .sc (.int .i64 0)) rfl rfl rfl rfl ?_
  refine rt_nil ?_
  refine tri_seq ?_
  refine tri_region ?_
  refine s_mv (.inr rfl) (v := .sc (.int .i64 (-1))) rfl rfl rfl rfl ?_
  refine rt_nil ?_
  refine tri_seq ?_
  refine tri_seq ?_
  refine tri_region ?_
  refine s_fieldAddr rfl rfl fd34_0 rfl rfl rfl rfl ?_
  refine s_load rfl rfl rfl rfl ty31 rfl (.inr rfl) (by conv => lhs; whnf) rfl rfl rfl ?_
  refine s_lenL rfl sl31 rfl rfl rfl rfl ?_
  refine s_mv (.inl rfl) (v := .sc (.int .i64 0)) rfl rfl rfl rfl ?_
  refine rt_nil ?_
  refine tri_block ?_
  refine tri_aggM 0 0 rfl rfl (fun hl0 => ?_)
  refine tri_loop (ι := { p : (List MZone) × Int × Nat // p0.zones.drop p.2.2 = p.1 ∧ i_deepest_l0 p0 p1 p2 p.1 p.2.1 p.2.2 = some r0 }) (fun p => inv_i_deepest_0 p0 p1 fi2 cp2 p.1.2.1 p.1.2.2) (fun p => p.1.1.length) ⟨(p0.zones, (-1), 0), rfl, h⟩ ?_ ?_
  · skip
    refine entX [((3, 0), ⟨34, 2, [[.lst 2 (List.map mZoneV p0.zones), .lst 2 (List.map mPostV p0.posts)]], false, true⟩, some (3, 0))] [] ⟨⟨rfl, _, rfl, rfl, rfl, rfl, id, rowsCv_one (.cons (.free rfl) (.cons (.free rfl) .nil)), rowsZ_one rfl⟩, trivial⟩ trivial rfl rfl ?_
    exact ⟨(.free rfl), (cvFn hf2), (.ptr rfl), (.free rfl), (.free rfl), (.free rfl), (.free rfl), trivial⟩
  · rintro ⟨⟨lrs0, v0_0, v0_1⟩, hd0, h⟩
    replace hd0 : p0.zones.drop v0_1 = lrs0 := hd0
    replace h : i_deepest_l0 p0 p1 p2 lrs0 v0_0 v0_1 = some r0 := h
    show Tri _ _ _ (inv_i_deepest_0 p0 p1 fi2 cp2 v0_0 v0_1)
    refine tri_seq ?_
    refine tri_region ?_
    refine s_of (st_lss rfl rfl rfl) rfl rfl rfl rfl ?_
    refine rt_nil ?_
    refine tri_seq ?_
    refine tri_cond rfl (fun c1 => ?_) (fun c1 => ?_)
    · refine drop_elim hd0 c1 fun e0 rs0 he hx0 hn0 => ?_
      subst he
      rw [i_deepest_l0] at h
      refine tri_skip ?_
      refine tri_seq ?_
      refine tri_block ?_
      refine tri_seq ?_
      refine tri_region ?_
      refine s_mv (.inl rfl) (by conv => lhs; whnf) rfl rfl rfl ?_
      refine s_indexF (i := v0_1) rfl rfl rfl sl31 (get_ltM hx0) rfl rfl rfl ?_
      refine s_loadFR rfl rfl (rowG hx0) ty83 rfl rfl rfl ?_
      refine s_alloc rfl rfl rfl zc83 rfl rfl rfl rfl rfl ?_
      refine s_mv (.inr rfl) (by conv => lhs; whnf) rfl rfl rfl ?_
      refine s_storeB rfl rfl rfl ty83 rfl rfl rfl rfl rfl ?_
      refine rt_nil ?_
      refine tri_cutI (ι := { p : Bool // i_deepest_j1 v0_0 v0_1 (i_deepest_l0 p0 p1 p2 rs0) p = some r0 }) (fun p => inv_i_deepest_1 p0 p1 fi2 cp2 v0_0 v0_1 p.1) ?_ ?_
      · skip
        refine tri_draw mixed ?_
        refine s_mv (.inl rfl) (by conv => lhs; whnf) rfl rfl rfl ?_
        refine s_fieldAddr rfl rfl fd83_0 rfl rfl rfl rfl ?_
        refine s_load rfl rfl rfl rfl ty9 rfl (.inr rfl) (by conv => lhs; whnf) rfl rfl rfl ?_
        refine bnd1_elim h fun x2 q3 h => ?_
        refine s_callN (kb := []) (ns := []) (v := .sc (.bool x2)) rfl rfl cl94 (wi_Under p1 e0.apex x2 q3) rfl (.cons (.free rfl) (.cons (.free rfl) .nil)) trivial memNil .nil memNil rfl trivial memNil rfl rfl rfl rfl rfl rfl ?_
        refine s_mv (.inl rfl) (by conv => lhs; whnf) rfl rfl rfl ?_
        refine s_split (t := 22) rfl (fun b4 => ?_) (fun b4 => ?_)
        · replace h := cond_t h b4
          refine s_mv (.inl rfl) (by conv => lhs; whnf) rfl rfl rfl ?_
          refine s_fieldAddr rfl rfl fd83_0 rfl rfl rfl rfl ?_
          refine s_load rfl rfl rfl rfl ty9 rfl (.inr rfl) (by conv => lhs; whnf) rfl rfl rfl ?_
          refine bnd1_elim h fun x5 q6 h => ?_
          refine s_callN (kb := []) (ns := []) (v := .sc (.bool x5)) rfl rfl hb2 (hg2 e0.apex x5 q6) rfl (.cons (.free rfl) (argsFree hf2)) trivial memNil .nil memNil rfl trivial memNil rfl rfl rfl rfl rfl rfl ?_
          refine s_pickT rfl rfl (by conv => lhs; whnf) rfl rfl rfl ?_
          refine s_mv (.inl rfl) (by conv => lhs; whnf) rfl rfl rfl ?_
          refine s_split (t := 28) rfl (fun b7 => ?_) (fun b7 => ?_)
          · replace h := cond_t h b7
            refine s_mv (.inl rfl) (by conv => lhs; whnf) rfl rfl rfl ?_
            refine s_of (st_lss rfl rfl rfl) rfl rfl rfl rfl ?_
            refine s_mv (.inl rfl) (by conv => lhs; whnf) rfl rfl rfl ?_
            refine s_split (t := 31) rfl (fun b8 => ?_) (fun b8 => ?_)
            · replace h := cond_t h b8
              refine s_skip rfl rfl rfl ?_
              refine s_skip rfl rfl rfl ?_
              refine s_skip rfl rfl rfl ?_
              refine s_skip rfl rfl rfl ?_
              refine s_skip rfl rfl rfl ?_
              refine s_skip rfl rfl rfl ?_
              refine s_skip rfl rfl rfl ?_
              refine s_skip rfl rfl rfl ?_
              refine s_skip rfl rfl rfl ?_
              refine s_skip rfl rfl rfl ?_
              refine s_skip rfl rfl rfl ?_
              refine s_pickT rfl rfl (v := .sc (.bool true)) rfl rfl rfl rfl ?_
              refine s_pickT rfl rfl (by conv => lhs; whnf) rfl rfl rfl ?_
              refine rt_nil ⟨by kernel_rfl, ?_⟩
              refine Exists.intro ⟨true, h⟩ ?_
              refine entX [((3, 0), ⟨34, 2, [[.lst 2 (List.map mZoneV p0.zones), .lst 2 (List.map mPostV p0.posts)]], false, true⟩, some (3, 0))] [] ⟨⟨rfl, _, rfl, rfl, rfl, rfl, id, rowsCv_one (.cons (.free rfl) (.cons (.free rfl) .nil)), rowsZ_one rfl⟩, trivial⟩ trivial rfl rfl ?_
              exact ⟨(.free rfl), (cvFn hf2), (.ptr rfl), (.free rfl), (.free rfl), (.free rfl), (.free rfl), (.free rfl), (.free rfl), trivial⟩
            · replace h := cond_f h b8
              refine s_fieldAddr rfl rfl fd83_0 rfl rfl rfl rfl ?_
              refine s_load rfl rfl rfl rfl ty9 rfl (.inr rfl) (by conv => lhs; whnf) rfl rfl rfl ?_
              refine bnd1_elim h fun x9 q10 h => ?_
              refine s_callN (kb := []) (ns := []) (v := .sc (.int .i64 x9)) rfl rfl cl139 (wi_PartsOf e0.apex x9 q10) rfl (.cons (.free rfl) .nil) trivial memNil .nil memNil rfl trivial memNil rfl rfl rfl rfl rfl rfl ?_
              refine s_fieldAddr rfl rfl fd34_0 rfl rfl rfl rfl ?_
              refine s_load rfl rfl rfl rfl ty31 rfl (.inr rfl) (by conv => lhs; whnf) rfl rfl rfl ?_
              refine s_mv (.inl rfl) (by conv => lhs; whnf) rfl rfl rfl ?_
              refine bnd1_elim h fun x11 q12 h => ?_
              have q12a := (idx_some q12).1; have q12b := (idx_some q12).2
              refine s_indexFZ rfl rfl rfl sl31 q12a (get_ltM q12b) rfl rfl rfl ?_
              refine s_fieldAddrF rfl rfl fd83_0 rfl rfl rfl rfl ?_
              refine s_loadF rfl rfl (rowG q12b) ty9 rfl (.inr rfl) (by conv => lhs; whnf) rfl rfl rfl ?_
              refine bnd1_elim h fun x13 q14 h => ?_
              refine s_callN (kb := []) (ns := []) (v := .sc (.int .i64 x13)) rfl rfl cl139 (wi_PartsOf x11.apex x13 q14) rfl (.cons (.free rfl) .nil) trivial memNil .nil memNil rfl trivial memNil rfl rfl rfl rfl rfl rfl ?_
              refine s_of (st_gtr rfl rfl rfl) rfl rfl rfl rfl ?_
              refine s_pickF rfl rfl (by conv => lhs; whnf) rfl rfl rfl ?_
              refine s_pickT rfl rfl (by conv => lhs; whnf) rfl rfl rfl ?_
              refine rt_nil ⟨by kernel_rfl, ?_⟩
              refine Exists.intro ⟨decide (x13 < x9), h⟩ ?_
              refine entX [((3, 0), ⟨34, 2, [[.lst 2 (List.map mZoneV p0.zones), .lst 2 (List.map mPostV p0.posts)]], false, true⟩, some (3, 0))] [] ⟨⟨rfl, _, rfl, rfl, rfl, rfl, id, rowsCv_one (.cons (.free rfl) (.cons (.free rfl) .nil)), rowsZ_one rfl⟩, trivial⟩ trivial rfl rfl ?_
              exact ⟨(.free rfl), (cvFn hf2), (.ptr rfl), (.free rfl), (.free rfl), (.free rfl), (.free rfl), (.free rfl), (.free rfl), trivial⟩
          · replace h := cond_f h b7
            refine s_skip rfl rfl rfl ?_
            refine s_skip rfl rfl rfl ?_
            refine s_skip rfl rfl rfl ?_
            refine s_skip rfl rfl rfl ?_
            refine s_skip rfl rfl rfl ?_
            refine s_skip rfl rfl rfl ?_
            refine s_skip rfl rfl rfl ?_
            refine s_skip rfl rfl rfl ?_
            refine s_skip rfl rfl rfl ?_
            refine s_skip rfl rfl rfl ?_
            refine s_skip rfl rfl rfl ?_
            refine s_skip rfl rfl rfl ?_
            refine s_skip rfl rfl rfl ?_
            refine s_skip rfl rfl rfl ?_
            refine s_skip rfl rfl rfl ?_
            refine s_pickF rfl rfl (v := .sc (.bool false)) rfl rfl rfl rfl ?_
            refine rt_nil ⟨by kernel_rfl, ?_⟩
            refine Exists.intro ⟨false, h⟩ ?_
            refine entX [((3, 0), ⟨34, 2, [[.lst 2 (List.map mZoneV p0.zones), .lst 2 (List.map mPostV p0.posts)]], false, true⟩, some (3, 0))] [] ⟨⟨rfl, _, rfl, rfl, rfl, rfl, id, rowsCv_one (.cons (.free rfl) (.cons (.free rfl) .nil)), rowsZ_one rfl⟩, trivial⟩ trivial rfl rfl ?_
            exact ⟨(.free rfl), (cvFn hf2), (.ptr rfl), (.free rfl), (.free rfl), (.free rfl), (.free rfl), (.free rfl), (.free rfl), trivial⟩
        · replace h := cond_f h b4
          refine s_skip rfl rfl rfl ?_
          refine s_skip rfl rfl rfl ?_
          refine s_skip rfl rfl rfl ?_
          refine s_skip rfl rfl rfl ?_
          refine s_pickF rfl rfl (v := .sc (.bool false)) rfl rfl rfl rfl ?_
          refine s_mv (.inl rfl) (by conv => lhs; whnf) rfl rfl rfl ?_
          refine s_skip rfl rfl rfl ?_
          refine s_skip rfl rfl rfl ?_
          refine s_skip rfl rfl rfl ?_
          refine s_skip rfl rfl rfl ?_
          refine s_skip rfl rfl rfl ?_
          refine s_skip rfl rfl rfl ?_
          refine s_skip rfl rfl rfl ?_
          refine s_skip rfl rfl rfl ?_
          refine s_skip rfl rfl rfl ?_
          refine s_skip rfl rfl rfl ?_
          refine s_skip rfl rfl rfl ?_
          refine s_skip rfl rfl rfl ?_
          refine s_skip rfl rfl rfl ?_
          refine s_skip rfl rfl rfl ?_
          refine s_skip rfl rfl rfl ?_
          refine s_pickF rfl rfl (v := .sc (.bool false)) rfl rfl rfl rfl ?_
          refine rt_nil ⟨by kernel_rfl, ?_⟩
          refine Exists.intro ⟨false, h⟩ ?_
          refine entX [((3, 0), ⟨34, 2, [[.lst 2 (List.map mZoneV p0.zones), .lst 2 (List.map mPostV p0.posts)]], false, true⟩, some (3, 0))] [] ⟨⟨rfl, _, rfl, rfl, rfl, rfl, id, rowsCv_one (.cons (.free rfl) (.cons (.free rfl) .nil)), rowsZ_one rfl⟩, trivial⟩ trivial rfl rfl ?_
          exact ⟨(.free rfl), (cvFn hf2), (.ptr rfl), (.free rfl), (.free rfl), (.free rfl), (.free rfl), (.free rfl), (.free rfl), trivial⟩
      · rintro ⟨j1_0, h⟩
        replace h : i_deepest_j1 v0_0 v0_1 (i_deepest_l0 p0 p1 p2 rs0) j1_0 = some r0 := h
        unfold i_deepest_j1 at h
        show Tri _ _ _ (inv_i_deepest_1 p0 p1 fi2 cp2 v0_0 v0_1 j1_0)
        refine tri_cond rfl (fun c2 => ?_) (fun c2 => ?_)
        · replace h := cond_t h c2
          refine tri_region ?_
          refine s_mv (.inl rfl) (by conv => lhs; whnf) rfl rfl rfl ?_
          refine s_mv (.inr rfl) (by conv => lhs; whnf) rfl rfl rfl ?_
          refine rt_nil ?_
          refine tri_region ?_
          refine s_inc (a := v0_1) (b := 1) rfl rfl rfl rfl (by have := get_lt hx0; have := hl0; omega) rfl rfl rfl ?_
          refine s_mv (.inl rfl) (by conv => lhs; whnf) rfl rfl rfl ?_
          refine rt_nil ?_
          refine Exists.intro ⟨(rs0, (v0_1 : Int), (v0_1 + 1)), hn0, h⟩ (And.intro (Nat.lt_succ_self _) ?_)
          refine entX [((3, 0), ⟨34, 2, [[.lst 2 (List.map mZoneV p0.zones), .lst 2 (List.map mPostV p0.posts)]], false, true⟩, some (3, 0))] [] ⟨⟨rfl, _, rfl, rfl, rfl, rfl, id, rowsCv_one (.cons (.free rfl) (.cons (.free rfl) .nil)), rowsZ_one rfl⟩, trivial⟩ trivial rfl rfl ?_
          exact ⟨(.free rfl), (cvFn hf2), (.ptr rfl), (.free rfl), (.free rfl), (.free rfl), (.free rfl), trivial⟩
        · replace h := cond_f h c2
          refine tri_skip ?_
          refine tri_region ?_
          refine s_inc (a := v0_1) (b := 1) rfl rfl rfl rfl (by have := get_lt hx0; have := hl0; omega) rfl rfl rfl ?_
          refine s_mv (.inl rfl) (by conv => lhs; whnf) rfl rfl rfl ?_
          refine rt_nil ?_
          refine Exists.intro ⟨(rs0, v0_0, (v0_1 + 1)), hn0, h⟩ (And.intro (Nat.lt_succ_self _) ?_)
          refine entX [((3, 0), ⟨34, 2, [[.lst 2 (List.map mZoneV p0.zones), .lst 2 (List.map mPostV p0.posts)]], false, true⟩, some (3, 0))] [] ⟨⟨rfl, _, rfl, rfl, rfl, rfl, id, rowsCv_one (.cons (.free rfl) (.cons (.free rfl) .nil)), rowsZ_one rfl⟩, trivial⟩ trivial rfl rfl ?_
          exact ⟨(.free rfl), (cvFn hf2), (.ptr rfl), (.free rfl), (.free rfl), (.free rfl), (.free rfl), trivial⟩
    · have he := drop_f hd0 c1; subst he
      rw [i_deepest_l0] at h
      refine tri_exit ?_
      refine tri_seq ?_
      refine tri_region ?_
      refine s_mv (.inl rfl) (by conv => lhs; whnf) rfl rfl rfl ?_
      refine s_mv (.inr rfl) (by conv => lhs; whnf) rfl rfl rfl ?_
      refine rt_nil ?_
      refine tri_ret ?_
      have e0 := (some1 h); subst e0
      exact endY [] [] (rvC (resTmp rfl) rvN) trivial trivial rfl rfl rfl rfl (.free rfl)

/- impl.Post] -/
def inv_slices_Index_Post_0 (p0 : List MPost) (p1 : MPost) (v0_0 : Nat) : St := mkT 19 [(0, .lst 2 (List.map mPostV p0)), (3, .ptr (3, 0) 0 0), (7, .sc (.int .i64 (p0.length : Int))), (8, .sc (.int .i64 (v0_0 : Int)))] [((3, 0), some ⟨133, 2, [[.sc (.int .i64 p1.addr), .sc (.string p1.apex)]], false, true⟩)]
set_option maxRecDepth 4000 in
set_option maxHeartbeats 800000 in
theorem wslices_Index_Post (p0 : List MPost) (p1 : MPost) (r0 : Int) (h : slices_Index_Post p0 p1 = some r0) : Runs Tryz.prog 164 [.lst 2 (List.map mPostV p0), .agg (mPostV p1)] [] (.sc (.int .i64 r0)) [] := by
  unfold slices_Index_Post at h
  refine runsR [.tmp 4] Tryz.func164 rfl rfl rfl rfl ?_
  rw [Tryz.ntmps164]
  refine tri_seq ?_
  refine tri_region ?_
  refine s_box rfl rfl rfl rfl rfl rfl rfl ?_
  refine s_mv (.inr rfl) (v := .sc (.int .i64 0)) rfl rfl rfl rfl ?_
  refine rt_nil ?_
  refine tri_seq ?_
  refine tri_seq ?_
  refine tri_region ?_
  refine s_mv (.inl rfl) (by conv => lhs; whnf) rfl rfl rfl ?_
  refine s_lenL rfl sl32 rfl rfl rfl rfl ?_
  refine s_mv (.inl rfl) (v := .sc (.int .i64 0)) rfl rfl rfl rfl ?_
  refine rt_nil ?_
  refine tri_block ?_
  refine tri_lstM 0 rfl (fun hl0 => ?_)
  refine tri_loop (ι := { p : (List MPost) × Nat // p0.drop p.2 = p.1 ∧ slices_Index_Post_l0 p1 p.1 p.2 = some r0 }) (fun p => inv_slices_Index_Post_0 p0 p1 p.1.2) (fun p => p.1.1.length) ⟨(p0, 0), rfl, h⟩ ?_ ?_
  · skip
    refine entX [((3, 0), ⟨133, 2, [[.sc (.int .i64 p1.addr), .sc (.string p1.apex)]], false, true⟩, some (3, 0))] [] ⟨⟨rfl, _, rfl, rfl, rfl, rfl, id, rowsCv_one (.cons (.free rfl) (.cons (.free rfl) .nil)), rowsZ_one rfl⟩, trivial⟩ trivial rfl rfl ?_
    exact ⟨(.free rfl), (.ptr rfl), (.free rfl), (.free rfl), trivial⟩
  · rintro ⟨⟨lrs0, v0_0⟩, hd0, h⟩
    replace hd0 : p0.drop v0_0 = lrs0 := hd0
    replace h : slices_Index_Post_l0 p1 lrs0 v0_0 = some r0 := h
    show Tri _ _ _ (inv_slices_Index_Post_0 p0 p1 v0_0)
    refine tri_seq ?_
    refine tri_region ?_
    refine s_of (st_lss rfl rfl rfl) rfl rfl rfl rfl ?_
    refine rt_nil ?_
    refine tri_seq ?_
    refine tri_cond rfl (fun c1 => ?_) (fun c1 => ?_)
    · refine drop_elim hd0 c1 fun e0 rs0 he hx0 hn0 => ?_
      subst he
      rw [slices_Index_Post_l0] at h
      refine tri_skip ?_
      refine tri_seq ?_
      refine tri_block ?_
      refine tri_seq ?_
      refine tri_region ?_
      refine s_mv (.inl rfl) (by conv => lhs; whnf) rfl rfl rfl ?_
      refine s_mv (.inr rfl) (by conv => lhs; whnf) rfl rfl rfl ?_
      refine rt_nil ?_
      refine tri_seq ?_
      refine tri_draw mixed ?_
      refine s_loadR rfl rfl rfl rfl ty133 rfl rfl rfl ?_
      refine s_mv (.inl rfl) (by conv => lhs; whnf) rfl rfl rfl ?_
      refine s_mv (.inl rfl) (by conv => lhs; whnf) rfl rfl rfl ?_
      refine s_indexF (i := v0_0) rfl rfl rfl sl32 (get_ltM hx0) rfl rfl rfl ?_
      refine s_loadFR rfl rfl (rowG hx0) ty133 rfl rfl rfl ?_
      refine s_eqStruct (r' := (decide (p1.addr = e0.addr) && (decide (p1.apex = e0.apex) && true))) rfl rfl rfl fk133 rfl rfl rfl rfl rfl ?_
      refine rt_nil ⟨by kernel_rfl, ?_⟩
      refine tri_cond rfl (fun c2 => ?_) (fun c2 => ?_)
      · replace h := cond_t h c2
        refine tri_seq ?_
        refine tri_region ?_
        refine s_mv (.inl rfl) (by conv => lhs; whnf) rfl rfl rfl ?_
        refine s_mv (.inr rfl) (by conv => lhs; whnf) rfl rfl rfl ?_
        refine rt_nil ?_
        refine tri_ret ?_
        have e0 := (some1 h); subst e0
        exact endY [] [] (rvC (resTmp rfl) rvN) trivial trivial rfl rfl rfl rfl (.free rfl)
      · replace h := cond_f h c2
        refine tri_skip ?_
        refine tri_region ?_
        refine s_inc (a := v0_0) (b := 1) rfl rfl rfl rfl (by have := get_lt hx0; have := hl0; omega) rfl rfl rfl ?_
        refine s_mv (.inl rfl) (by conv => lhs; whnf) rfl rfl rfl ?_
        refine rt_nil ?_
        refine Exists.intro ⟨(rs0, (v0_0 + 1)), hn0, h⟩ (And.intro (Nat.lt_succ_self _) ?_)
        refine entX [((3, 0), ⟨133, 2, [[.sc (.int .i64 p1.addr), .sc (.string p1.apex)]], false, true⟩, some (3, 0))] [] ⟨⟨rfl, _, rfl, rfl, rfl, rfl, id, rowsCv_one (.cons (.free rfl) (.cons (.free rfl) .nil)), rowsZ_one rfl⟩, trivial⟩ trivial rfl rfl ?_
        exact ⟨(.free rfl), (.ptr rfl), (.free rfl), (.free rfl), trivial⟩
    · have he := drop_f hd0 c1; subst he
      rw [slices_Index_Post_l0] at h
      refine tri_exit ?_
      refine tri_seq ?_
      refine tri_region ?_
      refine s_mv (.inr rfl) (v := .sc (.int .i64 (-1))) rfl rfl rfl rfl ?_
      refine rt_nil ?_
      refine tri_ret ?_
      have e0 := (some1 h); subst e0
      exact endY [] [] (rvC (resTmp rfl) rvN) trivial trivial rfl rfl rfl rfl (.free rfl)

/- impl.Post] -/

set_option maxRecDepth 4000 in
set_option maxHeartbeats 800000 in
theorem wslices_Contains_Post (p0 : List MPost) (p1 : MPost) (r0 : Bool) (h : slices_Contains_Post p0 p1 = some r0) : Runs Tryz.prog 129 [.lst 2 (List.map mPostV p0), .agg (mPostV p1)] [] (.sc (.bool r0)) [] := by
  unfold slices_Contains_Post at h
  refine runsR [.tmp 4] Tryz.func129 rfl rfl rfl rfl ?_
  rw [Tryz.ntmps129]
  refine tri_seq ?_
  refine tri_region ?_
  refine s_box rfl rfl rfl rfl rfl rfl rfl ?_
  refine s_mv (.inr rfl) (v := .sc (.bool false)) rfl rfl rfl rfl ?_
  refine rt_nil ?_
  refine tri_seq ?_
  refine tri_region ?_
  refine s_mv (.inl rfl) (by conv => lhs; whnf) rfl rfl rfl ?_
  refine s_loadR rfl rfl rfl rfl ty133 rfl rfl rfl ?_
  refine bnd1_elim h fun x1 q2 h => ?_
  refine s_callN (kb := []) (ns := []) (v := .sc (.int .i64 x1)) rfl rfl cl164 (wslices_Index_Post p0 p1 x1 q2) rfl (.cons (.free rfl) (.cons (relAgg rfl) .nil)) trivial memNil .nil memNil rfl trivial memNil rfl rfl rfl rfl rfl rfl ?_
  refine s_of (st_geq rfl rfl rfl) rfl rfl rfl rfl ?_
  refine s_mv (.inr rfl) (by conv => lhs; whnf) rfl rfl rfl ?_
  refine rt_nil ?_
  refine tri_ret ?_
  have e0 := (some1 h); subst e0
  exact endY [] [] (rvC (resTmp rfl) rvN) trivial trivial rfl rfl rfl rfl (.free rfl)

/- impl.ZoneAt$1 -/

set_option maxRecDepth 4000 in
set_option maxHeartbeats 800000 in
theorem wi_ZoneAt_1 (p0 : ByteArray) (p1 : MForest) (p2 : Int) (r0 : Bool) (h : i_ZoneAt_1 p0 p1 p2 = some r0) : Runs Tryz.prog 128 [.sc (.string p0), .lptr 2 [[.lst 2 (List.map mZoneV p1.zones), .lst 2 (List.map mPostV p1.posts)]] 0 0, .lptr 1 [[.sc (.int .i64 p2)]] 0 0] [] (.sc (.bool r0)) [] := by
  unfold i_ZoneAt_1 at h
  refine runsR [.tmp 4] Tryz.func128 rfl rfl rfl rfl ?_
  rw [Tryz.ntmps128]
  refine tri_seq ?_
  refine tri_region ?_
  refine s_mv (.inr rfl) (v := .sc (.bool false)) rfl rfl rfl rfl ?_
  refine rt_nil ?_
  refine tri_seq ?_
  refine tri_region ?_
  refine s_fieldAddrF rfl rfl fd34_1 rfl rfl rfl rfl ?_
  refine s_loadF rfl rfl rfl ty32 rfl (.inr rfl) (by conv => lhs; whnf) rfl rfl rfl ?_
  refine s_loadF rfl rfl rfl ty3 rfl (.inr rfl) (by conv => lhs; whnf) rfl rfl rfl ?_
  refine s_mv (.inl rfl) (by conv => lhs; whnf) rfl rfl rfl ?_
  refine s_build (cells' := [.sc (.int .i64 p2), .sc (.string p0)]) rfl stc133 rfl rfl rfl rfl rfl rfl rfl ?_
  refine bnd1_elim h fun x1 q2 h => ?_
  refine s_callN (kb := []) (ns := []) (v := .sc (.bool x1)) rfl rfl cl129 (wslices_Contains_Post p1.posts (MPost.mk p2 p0) x1 q2) rfl (.cons (.free rfl) (.cons (relAgg rfl) .nil)) trivial memNil .nil memNil rfl trivial memNil rfl rfl rfl rfl rfl rfl ?_
  refine s_mv (.inr rfl) (by conv => lhs; whnf) rfl rfl rfl ?_
  refine rt_nil ?_
  refine tri_ret ?_
  have e0 := (some1 h); subst e0
  exact endY [] [] (rvC (resTmp rfl) rvN) trivial trivial rfl rfl rfl rfl (.free rfl)

/- impl.ZoneAt -/

set_option maxRecDepth 4000 in
set_option maxHeartbeats 800000 in
theorem wi_ZoneAt (p0 : MForest) (p1 : Int) (p2 : ByteArray) (r0 : Int) (h : i_ZoneAt p0 p1 p2 = some r0) : Runs Tryz.prog 74 [.agg (mForestV p0), .sc (.int .i64 p1), .sc (.string p2)] [] (.sc (.int .i64 r0)) [] := by
  unfold i_ZoneAt at h
  refine runsR [.tmp 6] Tryz.func74 rfl rfl rfl rfl ?_
  rw [Tryz.ntmps74]
  refine tri_seq ?_
  refine tri_region ?_
  refine s_box rfl rfl rfl rfl rfl rfl rfl ?_
  refine s_box rfl rfl rfl rfl rfl rfl rfl ?_
  refine s_mv (.inr rfl) (v := .sc (.int .i64 0)) rfl rfl rfl rfl ?_
  refine rt_nil ?_
  refine tri_seq ?_
  refine tri_region ?_
  refine s_loadR rfl rfl rfl rfl ty34 rfl rfl rfl ?_
  refine s_mv (.inl rfl) (by conv => lhs; whnf) rfl rfl rfl ?_
  refine s_makeFunc (caps := [.ptr (3, 0) 0 0, .ptr (4, 0) 0 0]) rfl rfl rfl rfl rfl ?_
  refine bnd1_elim h fun x1 q2 h => ?_
  refine s_callN (kb := [(3, 0), (4, 0)]) (ns := []) (v := .sc (.int .i64 x1)) rfl rfl cl91 (wi_deepest p0 p2 128 ([.lptr 2 [[.lst 2 (List.map mZoneV p0.zones), .lst 2 (List.map mPostV p0.posts)]] 0 0, .lptr 1 [[.sc (.int .i64 p1)]] 0 0]) rfl cl128 (fun a0 => i_ZoneAt_1 a0 p0 p1) (fun a0 v0 hv => wi_ZoneAt_1 a0 p0 p1 v0 hv) x1 q2) rfl (.cons (relAgg rfl) (.cons (.free rfl) (.cons (relFnL rfl (.cons (relBoxL rfl (.head _) (.cons (.free rfl) (.cons (.free rfl) .nil)) rfl rfl) (.cons (relBoxL rfl (.tail _ (.head _)) (.cons (.free rfl) .nil) rfl rfl) .nil))) .nil))) trivial memNil .nil (fun _ _ => List.not_mem_nil) rfl trivial memNil rfl rfl rfl rfl rfl rfl ?_
  refine s_mv (.inr rfl) (by conv => lhs; whnf) rfl rfl rfl ?_
  refine rt_nil ?_
  refine tri_ret ?_
  have e0 := (some1 h); subst e0
  exact endY [] [] (rvC (resTmp rfl) rvN) trivial trivial rfl rfl rfl rfl (.free rfl)

/- impl.Record] -/

set_option maxRecDepth 4000 in
set_option maxHeartbeats 800000 in
theorem wslices_Clone_Record (p0 : List Rec) (r0 : List Rec) (h : slices_Clone_Record p0 = some r0) : Runs Tryz.prog 60 [.lst 6 (List.map recV p0)] [] (.own 48 6 (List.map recV r0)) [] := by
  unfold slices_Clone_Record at h
  refine runsR [.tmp 2] Tryz.func60 rfl rfl rfl rfl ?_
  rw [Tryz.ntmps60]
  refine tri_seq ?_
  refine tri_region ?_
  refine s_mv (.inr rfl) (v := .nils) rfl rfl rfl rfl ?_
  refine rt_nil ?_
  refine tri_seq ?_
  refine tri_seq ?_
  refine tri_isNil rfl (by conv => lhs; whnf) rfl rfl rfl rfl rfl slenL sl24 rfl rfl rfl (fun b1v b1 => ?_)
  refine tri_cond rfl (fun c2 => ?_) (fun c2 => ?_)
  · obtain rfl : p0 = [] := List.eq_nil_of_length_eq_zero (b1 c2)
    refine tri_seq ?_
    refine tri_region ?_
    refine s_mv (.inr rfl) (v := .nils) rfl rfl rfl rfl ?_
    refine rt_nil ?_
    refine tri_ret ?_
    replace h : some ([] : List Rec) = some r0 := by simpa [grd] using h
    have e0 := (some1 h); subst e0
    exact endY (v' := .ref (2000, 0) 0 (([] : List Rec).length)) [((2000, 0), ⟨48, 6, List.map recV ([] : List Rec), false, true⟩, none)] [] (rvC (resTmp rfl) rvN) ⟨rfl, trivial⟩ trivial rfl rfl (by kernel_rfl) (by first | (simp only [V.mat, V.mat1, V.mat0, matL, matT, List.length_map]; done) | (simp only [V.mat, V.mat1, V.mat0, matL, matT, List.length_map]; rfl)) (.nilRef rfl)
  · skip
    refine tri_skip ?_
    refine tri_seq ?_
    refine tri_region ?_
    refine s_buildSlice (rows' := List.map recV ([] : List Rec)) rfl rfl rfl sl24 zc48 rfl rfl rfl rfl rfl rfl rfl rfl rfl ?_
    refine s_mv (.inl rfl) (by conv => lhs; whnf) rfl rfl rfl ?_
    refine grd_elim h fun g3 h => ?_
    refine s_appL rfl rfl rfl sl24 zc48 rfl rfl rfl rfl rfl rfl src_lst g3 rfl rfl ?_
    refine s_mv (.inr rfl) (by conv => lhs; whnf) rfl rfl rfl ?_
    refine rt_nil ?_
    refine tri_ret ?_
    have e0 := (some1 h); subst e0
    exact endY (v' := .ref (2000, 0) 0 ((([] : List Rec) ++ p0).length)) [((2000, 0), ⟨48, 6, List.map recV (([] : List Rec) ++ p0), false, true⟩, some (7, 0))] [] (rvC (resTmp rfl) rvN) ⟨⟨rfl, _, rfl, rfl, rfl, rfl, id, rowsCv_eq rfl (allFree_map recV_free), rowsZ_map recV_len⟩, trivial⟩ trivial rfl rfl (by kernel_rfl) (by first | (simp only [V.mat, V.mat1, V.mat0, matL, matT, List.length_map]; done) | (simp only [V.mat, V.mat1, V.mat0, matL, matT, List.length_map]; rfl)) (.ref rfl)

/- impl.copyMsg -/

set_option maxRecDepth 4000 in
set_option maxHeartbeats 800000 in
theorem wi_copyMsg (p0 : MMsg) (r0 : MMsg) (h : i_copyMsg p0 = some r0) : Runs Tryz.prog 130 [.agg (mMsgV p0)] [] (.agg [.sc (.int .i64 r0.id), .sc (.bool r0.reply), .sc (.bool r0.auth), .sc (.bool r0.cut), .sc (.bool r0.want), .sc (.bool r0.can), .sc (.int .i64 r0.code), .sc (.string r0.q.name), .sc (.int .i64 r0.q.ty), .own 48 6 (List.map recV r0.an), .own 48 6 (List.map recV r0.au), .own 48 6 (List.map recV r0.ad)]) [] := by
  unfold i_copyMsg at h
  refine runsR [.cell 2 60] Tryz.func130 rfl rfl rfl rfl ?_
  rw [Tryz.ntmps130]
  refine tri_seq ?_
  refine tri_region ?_
  refine s_box rfl rfl rfl rfl rfl rfl rfl ?_
  refine s_alloc rfl rfl rfl zc60 rfl rfl rfl rfl rfl ?_
  refine rt_nil ?_
  refine tri_seq ?_
  refine tri_region ?_
  refine s_fieldAddr rfl rfl fd60_8 rfl rfl rfl rfl ?_
  refine s_load rfl rfl rfl rfl ty24 rfl (.inr rfl) (by conv => lhs; whnf) rfl rfl rfl ?_
  refine bnd1_elim h fun x1 q2 h => ?_
  refine s_callN (kb := []) (ns := []) (v := .ref (5, 0) 0 x1.length) rfl rfl cl60 (wslices_Clone_Record p0.an x1 q2) rfl (.cons (.free rfl) .nil) trivial memNil .nil memNil rfl ⟨(allSc_map recV_sc), trivial⟩ memNil rfl (by first | (simp only [V.mat, V.mat1, V.mat0, matL, matT, List.length_map]; done) | (simp only [V.mat, V.mat1, V.mat0, matL, matT, List.length_map]; rfl)) rfl rfl rfl rfl ?_
  refine s_fieldAddr rfl rfl fd60_8 rfl rfl rfl rfl ?_
  refine s_store (rows' := [[.sc (.int .i64 p0.id), .sc (.bool p0.reply), .sc (.bool p0.auth), .sc (.bool p0.cut), .sc (.bool p0.want), .sc (.bool p0.can), .sc (.int .i64 p0.code), .sc (.string p0.q.name), .sc (.int .i64 p0.q.ty), .ref (5, 0) 0 x1.length, .lst 6 (List.map recV p0.au), .lst 6 (List.map recV p0.ad)]]) rfl rfl rfl rfl ty24 rfl rfl rfl rfl rfl rfl ?_
  refine rt_nil ?_
  refine tri_seq ?_
  refine tri_region ?_
  refine s_fieldAddr rfl rfl fd60_9 rfl rfl rfl rfl ?_
  refine s_load rfl rfl rfl rfl ty24 rfl (.inr rfl) (by conv => lhs; whnf) rfl rfl rfl ?_
  refine bnd1_elim h fun x3 q4 h => ?_
  refine s_callN (kb := []) (ns := []) (v := .ref (9, 0) 0 x3.length) rfl rfl cl60 (wslices_Clone_Record p0.au x3 q4) rfl (.cons (.free rfl) .nil) trivial memNil .nil memNil rfl ⟨(allSc_map recV_sc), trivial⟩ memNil rfl (by first | (simp only [V.mat, V.mat1, V.mat0, matL, matT, List.length_map]; done) | (simp only [V.mat, V.mat1, V.mat0, matL, matT, List.length_map]; rfl)) rfl rfl rfl rfl ?_
  refine s_fieldAddr rfl rfl fd60_9 rfl rfl rfl rfl ?_
  refine s_store (rows' := [[.sc (.int .i64 p0.id), .sc (.bool p0.reply), .sc (.bool p0.auth), .sc (.bool p0.cut), .sc (.bool p0.want), .sc (.bool p0.can), .sc (.int .i64 p0.code), .sc (.string p0.q.name), .sc (.int .i64 p0.q.ty), .ref (5, 0) 0 x1.length, .ref (9, 0) 0 x3.length, .lst 6 (List.map recV p0.ad)]]) rfl rfl rfl rfl ty24 rfl rfl rfl rfl rfl rfl ?_
  refine rt_nil ?_
  refine tri_seq ?_
  refine tri_region ?_
  refine s_fieldAddr rfl rfl fd60_10 rfl rfl rfl rfl ?_
  refine s_load rfl rfl rfl rfl ty24 rfl (.inr rfl) (by conv => lhs; whnf) rfl rfl rfl ?_
  refine bnd1_elim h fun x5 q6 h => ?_
  refine s_callN (kb := []) (ns := []) (v := .ref (13, 0) 0 x5.length) rfl rfl cl60 (wslices_Clone_Record p0.ad x5 q6) rfl (.cons (.free rfl) .nil) trivial memNil .nil memNil rfl ⟨(allSc_map recV_sc), trivial⟩ memNil rfl (by first | (simp only [V.mat, V.mat1, V.mat0, matL, matT, List.length_map]; done) | (simp only [V.mat, V.mat1, V.mat0, matL, matT, List.length_map]; rfl)) rfl rfl rfl rfl ?_
  refine s_fieldAddr rfl rfl fd60_10 rfl rfl rfl rfl ?_
  refine s_store (rows' := [[.sc (.int .i64 p0.id), .sc (.bool p0.reply), .sc (.bool p0.auth), .sc (.bool p0.cut), .sc (.bool p0.want), .sc (.bool p0.can), .sc (.int .i64 p0.code), .sc (.string p0.q.name), .sc (.int .i64 p0.q.ty), .ref (5, 0) 0 x1.length, .ref (9, 0) 0 x3.length, .ref (13, 0) 0 x5.length]]) rfl rfl rfl rfl ty24 rfl rfl rfl rfl rfl rfl ?_
  refine rt_nil ?_
  refine tri_seq ?_
  refine tri_region ?_
  refine s_loadR rfl rfl rfl rfl ty60 rfl rfl rfl ?_
  refine s_storeB rfl rfl rfl ty60 rfl rfl rfl rfl rfl ?_
  refine rt_nil ?_
  refine tri_ret ?_
  have e0 := (some1 h); subst e0
  exact endY (v' := .agg [.sc (.int .i64 p0.id), .sc (.bool p0.reply), .sc (.bool p0.auth), .sc (.bool p0.cut), .sc (.bool p0.want), .sc (.bool p0.can), .sc (.int .i64 p0.code), .sc (.string p0.q.name), .sc (.int .i64 p0.q.ty), .ref (2000, 9) 0 x1.length, .ref (2000, 10) 0 x3.length, .ref (2000, 11) 0 x5.length]) [((2000, 9), ⟨48, 6, List.map recV x1, false, true⟩, some (5, 0)), ((2000, 10), ⟨48, 6, List.map recV x3, false, true⟩, some (9, 0)), ((2000, 11), ⟨48, 6, List.map recV x5, false, true⟩, some (13, 0))] [] (rvC (resCell rfl rfl ty60) rvN) ⟨⟨rfl, _, rfl, rfl, rfl, rfl, id, rowsCv_eq rfl (allFree_map recV_free), rowsZ_map recV_len⟩, ⟨rfl, _, rfl, rfl, rfl, rfl, id, rowsCv_eq rfl (allFree_map recV_free), rowsZ_map recV_len⟩, ⟨rfl, _, rfl, rfl, rfl, rfl, id, rowsCv_eq rfl (allFree_map recV_free), rowsZ_map recV_len⟩, trivial⟩ trivial rfl rfl (by kernel_rfl) (by first | (simp only [V.mat, V.mat1, V.mat0, matL, matT, List.length_map]; done) | (simp only [V.mat, V.mat1, V.mat0, matL, matT, List.length_map]; rfl)) (CvL.agg (.cons (.free rfl) (.cons (.free rfl) (.cons (.free rfl) (.cons (.free rfl) (.cons (.free rfl) (.cons (.free rfl) (.cons (.free rfl) (.cons (.free rfl) (.cons (.free rfl) (.cons (.ref rfl) (.cons (.ref rfl) (.cons (.ref rfl) .nil)))))))))))))

/- impl.ReplyTo -/

set_option maxRecDepth 4000 in
set_option maxHeartbeats 800000 in
theorem wi_ReplyTo (p0 : MMsg) (p1 : Int) (p2 : Bool) (p3 : List Rec) (p4 : List Rec) (p5 : List Rec) (r0 : MMsg) (h : i_ReplyTo p0 p1 p2 p3 p4 p5 = some r0) : Runs Tryz.prog 75 [.agg (mMsgV p0), .sc (.int .i64 p1), .sc (.bool p2), .lst 6 (List.map recV p3), .lst 6 (List.map recV p4), .lst 6 (List.map recV p5)] [] (.agg [.sc (.int .i64 r0.id), .sc (.bool r0.reply), .sc (.bool r0.auth), .sc (.bool r0.cut), .sc (.bool r0.want), .sc (.bool r0.can), .sc (.int .i64 r0.code), .sc (.string r0.q.name), .sc (.int .i64 r0.q.ty), .own 48 6 (List.map recV r0.an), .own 48 6 (List.map recV r0.au), .own 48 6 (List.map recV r0.ad)]) [] := by
  unfold i_ReplyTo at h
  refine runsR [.cell 12 60] Tryz.func75 rfl rfl rfl rfl ?_
  rw [Tryz.ntmps75]
  refine tri_seq ?_
  refine tri_region ?_
  refine s_box rfl rfl rfl rfl rfl rfl rfl ?_
  refine s_alloc rfl rfl rfl zc60 rfl rfl rfl rfl rfl ?_
  refine rt_nil ?_
  refine tri_seq ?_
  refine tri_region ?_
  refine s_fieldAddr rfl rfl fd60_0 rfl rfl rfl rfl ?_
  refine s_load rfl rfl rfl rfl ty3 rfl (.inr rfl) (by conv => lhs; whnf) rfl rfl rfl ?_
  refine s_mv (.inl rfl) (by conv => lhs; whnf) rfl rfl rfl ?_
  refine s_fieldAddr rfl rfl fd60_4 rfl rfl rfl rfl ?_
  refine s_load rfl rfl rfl rfl ty4 rfl (.inr rfl) (by conv => lhs; whnf) rfl rfl rfl ?_
  refine s_mv (.inl rfl) (by conv => lhs; whnf) rfl rfl rfl ?_
  refine s_fieldAddr rfl rfl fd60_7 rfl rfl rfl rfl ?_
  refine s_load (v := .agg (questV p0.q)) rfl rfl rfl rfl ty36 rfl (.inl rfl) rfl rfl rfl rfl ?_
  refine s_mv (.inl rfl) (by conv => lhs; whnf) rfl rfl rfl ?_
  refine s_mv (.inl rfl) (by conv => lhs; whnf) rfl rfl rfl ?_
  refine s_mv (.inl rfl) (by conv => lhs; whnf) rfl rfl rfl ?_
  refine s_build (cells' := [.sc (.int .i64 p0.id), .sc (.bool true), .sc (.bool p2), .sc (.bool false), .sc (.bool p0.want), .sc (.bool false), .sc (.int .i64 p1), .sc (.string p0.q.name), .sc (.int .i64 p0.q.ty), .lst 6 (List.map recV p3), .lst 6 (List.map recV p4), .lst 6 (List.map recV p5)]) rfl stc60 rfl rfl rfl (by kernel_rfl) rfl rfl rfl ?_
  refine bnd1_elim h fun x1 q2 h => ?_
  refine s_callN (kb := []) (ns := []) (v := .agg [.sc (.int .i64 x1.id), .sc (.bool x1.reply), .sc (.bool x1.auth), .sc (.bool x1.cut), .sc (.bool x1.want), .sc (.bool x1.can), .sc (.int .i64 x1.code), .sc (.string x1.q.name), .sc (.int .i64 x1.q.ty), .ref (25, 9) 0 x1.an.length, .ref (25, 10) 0 x1.au.length, .ref (25, 11) 0 x1.ad.length]) rfl rfl cl130 (wi_copyMsg (MMsg.mk p0.id true p2 false p0.want false p1 p0.q p3 p4 p5) x1 q2) rfl (.cons (relAgg rfl) .nil) trivial memNil .nil memNil rfl ⟨(allSc_map recV_sc), ⟨(allSc_map recV_sc), ⟨(allSc_map recV_sc), trivial⟩⟩⟩ memNil rfl (by first | (simp only [V.mat, V.mat1, V.mat0, matL, matT, List.length_map]; done) | (simp only [V.mat, V.mat1, V.mat0, matL, matT, List.length_map]; rfl)) rfl rfl rfl rfl ?_
  refine s_storeB rfl rfl rfl ty60 rfl rfl rfl rfl rfl ?_
  refine rt_nil ?_
  refine tri_ret ?_
  have e0 := (some1 h); subst e0
  exact endY (v' := .agg [.sc (.int .i64 x1.id), .sc (.bool x1.reply), .sc (.bool x1.auth), .sc (.bool x1.cut), .sc (.bool x1.want), .sc (.bool x1.can), .sc (.int .i64 x1.code), .sc (.string x1.q.name), .sc (.int .i64 x1.q.ty), .ref (2000, 9) 0 x1.an.length, .ref (2000, 10) 0 x1.au.length, .ref (2000, 11) 0 x1.ad.length]) [((2000, 9), ⟨48, 6, List.map recV x1.an, false, true⟩, some (25, 9)), ((2000, 10), ⟨48, 6, List.map recV x1.au, false, true⟩, some (25, 10)), ((2000, 11), ⟨48, 6, List.map recV x1.ad, false, true⟩, some (25, 11))] [] (rvC (resCell rfl rfl ty60) rvN) ⟨⟨rfl, _, rfl, rfl, rfl, rfl, id, rowsCv_eq rfl (allFree_map recV_free), rowsZ_map recV_len⟩, ⟨rfl, _, rfl, rfl, rfl, rfl, id, rowsCv_eq rfl (allFree_map recV_free), rowsZ_map recV_len⟩, ⟨rfl, _, rfl, rfl, rfl, rfl, id, rowsCv_eq rfl (allFree_map recV_free), rowsZ_map recV_len⟩, trivial⟩ trivial rfl rfl (by kernel_rfl) (by first | (simp only [V.mat, V.mat1, V.mat0, matL, matT, List.length_map]; done) | (simp only [V.mat, V.mat1, V.mat0, matL, matT, List.length_map]; rfl)) (CvL.agg (.cons (.free rfl) (.cons (.free rfl) (.cons (.free rfl) (.cons (.free rfl) (.cons (.free rfl) (.cons (.free rfl) (.cons (.free rfl) (.cons (.free rfl) (.cons (.free rfl) (.cons (.ref rfl) (.cons (.ref rfl) (.cons (.ref rfl) .nil)))))))))))))

/- slices.Index[[]string,string] -/
def inv_slices_Index_string_0 (p0 : List ByteArray) (p1 : ByteArray) (v0_0 : Nat) : St := mkT 19 [(0, .lst 1 (List.map strV p0)), (1, .sc (.string p1)), (7, .sc (.int .i64 (p0.length : Int))), (8, .sc (.int .i64 (v0_0 : Int)))] []
set_option maxRecDepth 4000 in
set_option maxHeartbeats 800000 in
theorem wslices_Index_string (p0 : List ByteArray) (p1 : ByteArray) (r0 : Int) (h : slices_Index_string p0 p1 = some r0) : Runs Tryz.prog 183 [.lst 1 (List.map strV p0), .sc (.string p1)] [] (.sc (.int .i64 r0)) [] := by
  unfold slices_Index_string at h
  refine runsR [.tmp 4] Tryz.func183 rfl rfl rfl rfl ?_
  rw [Tryz.ntmps183]
  refine tri_seq ?_
  refine tri_region ?_
  refine s_mv (.inr rfl) (v := .sc (.int .i64 0)) rfl rfl rfl rfl ?_
  refine rt_nil ?_
  refine tri_seq ?_
  refine tri_seq ?_
  refine tri_region ?_
  refine s_mv (.inl rfl) (by conv => lhs; whnf) rfl rfl rfl ?_
  refine s_lenL rfl sl112 rfl rfl rfl rfl ?_
  refine s_mv (.inl rfl) (v := .sc (.int .i64 0)) rfl rfl rfl rfl ?_
  refine rt_nil ?_
  refine tri_block ?_
  refine tri_lstM 0 rfl (fun hl0 => ?_)
  refine tri_loop (ι := { p : (List ByteArray) × Nat // p0.drop p.2 = p.1 ∧ slices_Index_string_l0 p1 p.1 p.2 = some r0 }) (fun p => inv_slices_Index_string_0 p0 p1 p.1.2) (fun p => p.1.1.length) ⟨(p0, 0), rfl, h⟩ ?_ ?_
  · skip
    refine entX [] [] trivial trivial rfl rfl ?_
    exact ⟨(.free rfl), (.free rfl), (.free rfl), (.free rfl), trivial⟩
  · rintro ⟨⟨lrs0, v0_0⟩, hd0, h⟩
    replace hd0 : p0.drop v0_0 = lrs0 := hd0
    replace h : slices_Index_string_l0 p1 lrs0 v0_0 = some r0 := h
    show Tri _ _ _ (inv_slices_Index_string_0 p0 p1 v0_0)
    refine tri_seq ?_
    refine tri_region ?_
    refine s_of (st_lss rfl rfl rfl) rfl rfl rfl rfl ?_
    refine rt_nil ?_
    refine tri_seq ?_
    refine tri_cond rfl (fun c1 => ?_) (fun c1 => ?_)
    · refine drop_elim hd0 c1 fun e0 rs0 he hx0 hn0 => ?_
      subst he
      rw [slices_Index_string_l0] at h
      refine tri_skip ?_
      refine tri_seq ?_
      refine tri_block ?_
      refine tri_seq ?_
      refine tri_region ?_
      refine s_mv (.inl rfl) (by conv => lhs; whnf) rfl rfl rfl ?_
      refine s_mv (.inr rfl) (by conv => lhs; whnf) rfl rfl rfl ?_
      refine rt_nil ?_
      refine tri_seq ?_
      refine tri_region ?_
      refine s_mv (.inl rfl) (by conv => lhs; whnf) rfl rfl rfl ?_
      refine s_mv (.inl rfl) (by conv => lhs; whnf) rfl rfl rfl ?_
      refine s_mv (.inl rfl) (by conv => lhs; whnf) rfl rfl rfl ?_
      refine s_indexF (i := v0_0) rfl rfl rfl sl112 (get_ltM hx0) rfl rfl rfl ?_
      refine s_loadF rfl rfl (rowG hx0) ty9 rfl (.inr rfl) (by conv => lhs; whnf) rfl rfl rfl ?_
      refine s_of (st_eqS rfl rfl rfl) rfl rfl rfl rfl ?_
      refine rt_nil ?_
      refine tri_cond rfl (fun c2 => ?_) (fun c2 => ?_)
      · replace h := cond_t h c2
        refine tri_seq ?_
        refine tri_region ?_
        refine s_mv (.inl rfl) (by conv => lhs; whnf) rfl rfl rfl ?_
        refine s_mv (.inr rfl) (by conv => lhs; whnf) rfl rfl rfl ?_
        refine rt_nil ?_
        refine tri_ret ?_
        have e0 := (some1 h); subst e0
        exact endY [] [] (rvC (resTmp rfl) rvN) trivial trivial rfl rfl rfl rfl (.free rfl)
      · replace h := cond_f h c2
        refine tri_skip ?_
        refine tri_region ?_
        refine s_inc (a := v0_0) (b := 1) rfl rfl rfl rfl (by have := get_lt hx0; have := hl0; omega) rfl rfl rfl ?_
        refine s_mv (.inl rfl) (by conv => lhs; whnf) rfl rfl rfl ?_
        refine rt_nil ?_
        refine Exists.intro ⟨(rs0, (v0_0 + 1)), hn0, h⟩ (And.intro (Nat.lt_succ_self _) ?_)
        refine entX [] [] trivial trivial rfl rfl ?_
        exact ⟨(.free rfl), (.free rfl), (.free rfl), (.free rfl), trivial⟩
    · have he := drop_f hd0 c1; subst he
      rw [slices_Index_string_l0] at h
      refine tri_exit ?_
      refine tri_seq ?_
      refine tri_region ?_
      refine s_mv (.inr rfl) (v := .sc (.int .i64 (-1))) rfl rfl rfl rfl ?_
      refine rt_nil ?_
      refine tri_ret ?_
      have e0 := (some1 h); subst e0
      exact endY [] [] (rvC (resTmp rfl) rvN) trivial trivial rfl rfl rfl rfl (.free rfl)

/- slices.Contains[[]string,string] -/

set_option maxRecDepth 4000 in
set_option maxHeartbeats 800000 in
theorem wslices_Contains_string (p0 : List ByteArray) (p1 : ByteArray) (r0 : Bool) (h : slices_Contains_string p0 p1 = some r0) : Runs Tryz.prog 169 [.lst 1 (List.map strV p0), .sc (.string p1)] [] (.sc (.bool r0)) [] := by
  unfold slices_Contains_string at h
  refine runsR [.tmp 4] Tryz.func169 rfl rfl rfl rfl ?_
  rw [Tryz.ntmps169]
  refine tri_seq ?_
  refine tri_region ?_
  refine s_mv (.inr rfl) (v := .sc (.bool false)) rfl rfl rfl rfl ?_
  refine rt_nil ?_
  refine tri_seq ?_
  refine tri_region ?_
  refine s_mv (.inl rfl) (by conv => lhs; whnf) rfl rfl rfl ?_
  refine s_mv (.inl rfl) (by conv => lhs; whnf) rfl rfl rfl ?_
  refine bnd1_elim h fun x1 q2 h => ?_
  refine s_callN (kb := []) (ns := []) (v := .sc (.int .i64 x1)) rfl rfl cl183 (wslices_Index_string p0 p1 x1 q2) rfl (.cons (.free rfl) (.cons (.free rfl) .nil)) trivial memNil .nil memNil rfl trivial memNil rfl rfl rfl rfl rfl rfl ?_
  refine s_of (st_geq rfl rfl rfl) rfl rfl rfl rfl ?_
  refine s_mv (.inr rfl) (by conv => lhs; whnf) rfl rfl rfl ?_
  refine rt_nil ?_
  refine tri_ret ?_
  have e0 := (some1 h); subst e0
  exact endY [] [] (rvC (resTmp rfl) rvN) trivial trivial rfl rfl rfl rfl (.free rfl)

/- impl.CutsOf -/
def inv_i_CutsOf_1 (p0 : MZone) (v0_0 : List ByteArray) (v0_1 : Nat) (e0 : Rec) (j1_0 : Bool) : St := mkT 45 [(1, .ptr (1, 0) 0 0), (3, .ref (2003, 0) 0 v0_0.length), (5, .ptr (5, 0) 0 0), (8, .lst 6 (List.map recV p0.l)), (9, .sc (.int .i64 (p0.l.length : Int))), (10, .sc (.int .i64 (v0_1 : Int))), (37, .sc (.bool j1_0))] [((1, 0), some ⟨83, 2, [[.sc (.string p0.apex), .lst 6 (List.map recV p0.l)]], false, true⟩), ((2003, 0), some ⟨9, 1, List.map strV v0_0, false, true⟩), ((5, 0), some ⟨48, 6, [[.sc (.string e0.name), .sc (.int .i64 e0.ty), .sc (.int .i64 e0.ttl), .sc (.int .i64 e0.n), .sc (.string e0.host), .sc (.string e0.text)]], false, true⟩)]
def inv_i_CutsOf_0 (p0 : MZone) (v0_0 : List ByteArray) (v0_1 : Nat) : St := mkT 45 [(1, .ptr (1, 0) 0 0), (3, .ref (2003, 0) 0 v0_0.length), (8, .lst 6 (List.map recV p0.l)), (9, .sc (.int .i64 (p0.l.length : Int))), (10, .sc (.int .i64 (v0_1 : Int)))] [((1, 0), some ⟨83, 2, [[.sc (.string p0.apex), .lst 6 (List.map recV p0.l)]], false, true⟩), ((2003, 0), some ⟨9, 1, List.map strV v0_0, false, true⟩)]
set_option maxRecDepth 4000 in
set_option maxHeartbeats 800000 in
theorem wi_CutsOf (p0 : MZone) (r0 : List ByteArray) (h : i_CutsOf p0 = some r0) : Runs Tryz.prog 140 [.agg (mZoneV p0)] [] (.own 9 1 (List.map strV r0)) [] := by
  unfold i_CutsOf at h
  refine runsR [.tmp 2] Tryz.func140 rfl rfl rfl rfl ?_
  rw [Tryz.ntmps140]
  refine tri_seq ?_
  refine tri_region ?_
  refine s_box rfl rfl rfl rfl rfl rfl rfl ?_
  refine s_mv (.inr rfl) (v := .nils) rfl rfl rfl rfl ?_
  refine rt_nil ?_
  refine tri_seq ?_
  refine tri_region ?_
  refine s_buildSlice (rows' := List.map strV ([] : List ByteArray)) rfl rfl rfl sl112 zc9 rfl rfl rfl rfl rfl rfl rfl rfl rfl ?_
  refine s_mv (.inr rfl) (by conv => lhs; whnf) rfl rfl rfl ?_
  refine rt_nil ?_
  refine tri_seq ?_
  refine tri_seq ?_
  refine tri_region ?_
  refine s_fieldAddr rfl rfl fd83_1 rfl rfl rfl rfl ?_
  refine s_load rfl rfl rfl rfl ty24 rfl (.inr rfl) (by conv => lhs; whnf) rfl rfl rfl ?_
  refine s_lenL rfl sl24 rfl rfl rfl rfl ?_
  refine s_mv (.inl rfl) (v := .sc (.int .i64 0)) rfl rfl rfl rfl ?_
  refine rt_nil ?_
  refine tri_block ?_
  refine tri_aggM 0 1 rfl rfl (fun hl0 => ?_)
  refine tri_loop (ι := { p : (List Rec) × (List ByteArray) × Nat // p0.l.drop p.2.2 = p.1 ∧ i_CutsOf_l0 p0 p.1 p.2.1 p.2.2 = some r0 }) (fun p => inv_i_CutsOf_0 p0 p.1.2.1 p.1.2.2) (fun p => p.1.1.length) ⟨(p0.l, ([] : List ByteArray), 0), rfl, h⟩ ?_ ?_
  · skip
    refine entX [((1, 0), ⟨83, 2, [[.sc (.string p0.apex), .lst 6 (List.map recV p0.l)]], false, true⟩, some (1, 0)), ((2003, 0), ⟨9, 1, List.map strV ([] : List ByteArray), false, true⟩, some (6, 0))] [] ⟨⟨rfl, _, rfl, rfl, rfl, rfl, id, rowsCv_one (.cons (.free rfl) (.cons (.free rfl) .nil)), rowsZ_one rfl⟩, ⟨rfl, _, rfl, rfl, rfl, rfl, id, rowsCv_eq rfl (allFree_map strV_free), rowsZ_map strV_len⟩, trivial⟩ trivial rfl rfl ?_
    exact ⟨(.ptr rfl), (.ref rfl), (.free rfl), (.free rfl), (.free rfl), trivial⟩
  · rintro ⟨⟨lrs0, v0_0, v0_1⟩, hd0, h⟩
    replace hd0 : p0.l.drop v0_1 = lrs0 := hd0
    replace h : i_CutsOf_l0 p0 lrs0 v0_0 v0_1 = some r0 := h
    show Tri _ _ _ (inv_i_CutsOf_0 p0 v0_0 v0_1)
    refine tri_seq ?_
    refine tri_region ?_
    refine s_of (st_lss rfl rfl rfl) rfl rfl rfl rfl ?_
    refine rt_nil ?_
    refine tri_seq ?_
    refine tri_cond rfl (fun c1 => ?_) (fun c1 => ?_)
    · refine drop_elim hd0 c1 fun e0 rs0 he hx0 hn0 => ?_
      subst he
      rw [i_CutsOf_l0] at h
      refine tri_skip ?_
      refine tri_seq ?_
      refine tri_block ?_
      refine tri_seq ?_
      refine tri_region ?_
      refine s_indexF (i := v0_1) rfl rfl rfl sl24 (get_ltM hx0) rfl rfl rfl ?_
      refine s_loadFR rfl rfl (rowG hx0) ty48 rfl rfl rfl ?_
      refine s_alloc rfl rfl rfl zc48 rfl rfl rfl rfl rfl ?_
      refine s_storeB rfl rfl rfl ty48 rfl rfl rfl rfl rfl ?_
      refine rt_nil ?_
      refine tri_cutI (ι := { p : Bool // i_CutsOf_j1 v0_0 v0_1 e0 (i_CutsOf_l0 p0 rs0) p = some r0 }) (fun p => inv_i_CutsOf_1 p0 v0_0 v0_1 e0 p.1) ?_ ?_
      · skip
        refine tri_region ?_
        refine s_fieldAddr rfl rfl fd48_1 rfl rfl rfl rfl ?_
        refine s_load rfl rfl rfl rfl ty3 rfl (.inr rfl) (by conv => lhs; whnf) rfl rfl rfl ?_
        refine s_of (st_eqI rfl rfl rfl) rfl rfl rfl rfl ?_
        refine s_mv (.inl rfl) (by conv => lhs; whnf) rfl rfl rfl ?_
        refine s_split (t := 17) rfl (fun b2 => ?_) (fun b2 => ?_)
        · replace h := cond_t h b2
          refine s_fieldAddr rfl rfl fd48_0 rfl rfl rfl rfl ?_
          refine s_load rfl rfl rfl rfl ty9 rfl (.inr rfl) (by conv => lhs; whnf) rfl rfl rfl ?_
          refine s_fieldAddr rfl rfl fd83_0 rfl rfl rfl rfl ?_
          refine s_load rfl rfl rfl rfl ty9 rfl (.inr rfl) (by conv => lhs; whnf) rfl rfl rfl ?_
          refine s_of (st_neS rfl rfl rfl) rfl rfl rfl rfl ?_
          refine s_pickT rfl rfl (by conv => lhs; whnf) rfl rfl rfl ?_
          refine s_mv (.inl rfl) (by conv => lhs; whnf) rfl rfl rfl ?_
          refine s_split (t := 24) rfl (fun b3 => ?_) (fun b3 => ?_)
          · replace h := cond_t h b3
            refine s_fieldAddr rfl rfl fd48_0 rfl rfl rfl rfl ?_
            refine s_load rfl rfl rfl rfl ty9 rfl (.inr rfl) (by conv => lhs; whnf) rfl rfl rfl ?_
            refine s_fieldAddr rfl rfl fd83_0 rfl rfl rfl rfl ?_
            refine s_load rfl rfl rfl rfl ty9 rfl (.inr rfl) (by conv => lhs; whnf) rfl rfl rfl ?_
            refine bnd1_elim h fun x4 q5 h => ?_
            refine s_callN (kb := []) (ns := []) (v := .sc (.bool x4)) rfl rfl cl94 (wi_Under e0.name p0.apex x4 q5) rfl (.cons (.free rfl) (.cons (.free rfl) .nil)) trivial memNil .nil memNil rfl trivial memNil rfl rfl rfl rfl rfl rfl ?_
            refine s_pickT rfl rfl (by conv => lhs; whnf) rfl rfl rfl ?_
            refine s_mv (.inl rfl) (by conv => lhs; whnf) rfl rfl rfl ?_
            refine s_split (t := 31) rfl (fun b6 => ?_) (fun b6 => ?_)
            · replace h := cond_t h b6
              refine s_mv (.inl rfl) (by conv => lhs; whnf) rfl rfl rfl ?_
              refine s_fieldAddr rfl rfl fd48_0 rfl rfl rfl rfl ?_
              refine s_load rfl rfl rfl rfl ty9 rfl (.inr rfl) (by conv => lhs; whnf) rfl rfl rfl ?_
              refine bnd1_elim h fun x7 q8 h => ?_
              refine s_callN (kb := [(2003, 0)]) (ns := []) (v := .sc (.bool x7)) rfl rfl cl169 (wslices_Contains_string v0_0 e0.name x7 q8) rfl (.cons (lendL rfl (.head _) rfl strV_free strV_len) (.cons (.free rfl) .nil)) trivial memNil .nil (fun _ _ => List.not_mem_nil) rfl trivial memNil rfl rfl rfl rfl rfl rfl ?_
              refine s_of (st_not rfl rfl) rfl rfl rfl rfl ?_
              refine s_pickT rfl rfl (by conv => lhs; whnf) rfl rfl rfl ?_
              refine rt_nil ?_
              refine Exists.intro ⟨!x7, h⟩ ?_
              refine entX [((1, 0), ⟨83, 2, [[.sc (.string p0.apex), .lst 6 (List.map recV p0.l)]], false, true⟩, some (1, 0)), ((2003, 0), ⟨9, 1, List.map strV v0_0, false, true⟩, some (2003, 0)), ((5, 0), ⟨48, 6, [[.sc (.string e0.name), .sc (.int .i64 e0.ty), .sc (.int .i64 e0.ttl), .sc (.int .i64 e0.n), .sc (.string e0.host), .sc (.string e0.text)]], false, true⟩, some (5, 0))] [] ⟨⟨rfl, _, rfl, rfl, rfl, rfl, id, rowsCv_one (.cons (.free rfl) (.cons (.free rfl) .nil)), rowsZ_one rfl⟩, ⟨rfl, _, rfl, rfl, rfl, rfl, id, rowsCv_eq rfl (allFree_map strV_free), rowsZ_map strV_len⟩, ⟨rfl, _, rfl, rfl, rfl, rfl, id, rowsCv_one (.cons (.free rfl) (.cons (.free rfl) (.cons (.free rfl) (.cons (.free rfl) (.cons (.free rfl) (.cons (.free rfl) .nil)))))), rowsZ_one rfl⟩, trivial⟩ trivial rfl rfl ?_
              exact ⟨(.ptr rfl), (.ref rfl), (.ptr rfl), (.free rfl), (.free rfl), (.free rfl), (.free rfl), trivial⟩
            · replace h := cond_f h b6
              refine s_skip rfl rfl rfl ?_
              refine s_skip rfl rfl rfl ?_
              refine s_skip rfl rfl rfl ?_
              refine s_skip rfl rfl rfl ?_
              refine s_skip rfl rfl rfl ?_
              refine s_pickF rfl rfl (v := .sc (.bool false)) rfl rfl rfl rfl ?_
              refine rt_nil ?_
              refine Exists.intro ⟨false, h⟩ ?_
              refine entX [((1, 0), ⟨83, 2, [[.sc (.string p0.apex), .lst 6 (List.map recV p0.l)]], false, true⟩, some (1, 0)), ((2003, 0), ⟨9, 1, List.map strV v0_0, false, true⟩, some (2003, 0)), ((5, 0), ⟨48, 6, [[.sc (.string e0.name), .sc (.int .i64 e0.ty), .sc (.int .i64 e0.ttl), .sc (.int .i64 e0.n), .sc (.string e0.host), .sc (.string e0.text)]], false, true⟩, some (5, 0))] [] ⟨⟨rfl, _, rfl, rfl, rfl, rfl, id, rowsCv_one (.cons (.free rfl) (.cons (.free rfl) .nil)), rowsZ_one rfl⟩, ⟨rfl, _, rfl, rfl, rfl, rfl, id, rowsCv_eq rfl (allFree_map strV_free), rowsZ_map strV_len⟩, ⟨rfl, _, rfl, rfl, rfl, rfl, id, rowsCv_one (.cons (.free rfl) (.cons (.free rfl) (.cons (.free rfl) (.cons (.free rfl) (.cons (.free rfl) (.cons (.free rfl) .nil)))))), rowsZ_one rfl⟩, trivial⟩ trivial rfl rfl ?_
              exact ⟨(.ptr rfl), (.ref rfl), (.ptr rfl), (.free rfl), (.free rfl), (.free rfl), (.free rfl), trivial⟩
          · replace h := cond_f h b3
            refine s_skip rfl rfl rfl ?_
            refine s_skip rfl rfl rfl ?_
            refine s_skip rfl rfl rfl ?_
            refine s_skip rfl rfl rfl ?_
            refine s_skip rfl rfl rfl ?_
            refine s_pickF rfl rfl (v := .sc (.bool false)) rfl rfl rfl rfl ?_
            refine s_mv (.inl rfl) (by conv => lhs; whnf) rfl rfl rfl ?_
            refine s_skip rfl rfl rfl ?_
            refine s_skip rfl rfl rfl ?_
            refine s_skip rfl rfl rfl ?_
            refine s_skip rfl rfl rfl ?_
            refine s_skip rfl rfl rfl ?_
            refine s_pickF rfl rfl (v := .sc (.bool false)) rfl rfl rfl rfl ?_
            refine rt_nil ?_
            refine Exists.intro ⟨false, h⟩ ?_
            refine entX [((1, 0), ⟨83, 2, [[.sc (.string p0.apex), .lst 6 (List.map recV p0.l)]], false, true⟩, some (1, 0)), ((2003, 0), ⟨9, 1, List.map strV v0_0, false, true⟩, some (2003, 0)), ((5, 0), ⟨48, 6, [[.sc (.string e0.name), .sc (.int .i64 e0.ty), .sc (.int .i64 e0.ttl), .sc (.int .i64 e0.n), .sc (.string e0.host), .sc (.string e0.text)]], false, true⟩, some (5, 0))] [] ⟨⟨rfl, _, rfl, rfl, rfl, rfl, id, rowsCv_one (.cons (.free rfl) (.cons (.free rfl) .nil)), rowsZ_one rfl⟩, ⟨rfl, _, rfl, rfl, rfl, rfl, id, rowsCv_eq rfl (allFree_map strV_free), rowsZ_map strV_len⟩, ⟨rfl, _, rfl, rfl, rfl, rfl, id, rowsCv_one (.cons (.free rfl) (.cons (.free rfl) (.cons (.free rfl) (.cons (.free rfl) (.cons (.free rfl) (.cons (.free rfl) .nil)))))), rowsZ_one rfl⟩, trivial⟩ trivial rfl rfl ?_
            exact ⟨(.ptr rfl), (.ref rfl), (.ptr rfl), (.free rfl), (.free rfl), (.free rfl), (.free rfl), trivial⟩
        · replace h := cond_f h b2
          refine s_skip rfl rfl rfl ?_
          refine s_skip rfl rfl rfl ?_
          refine s_skip rfl rfl rfl ?_
          refine s_skip rfl rfl rfl ?_
          refine s_skip rfl rfl rfl ?_
          refine s_pickF rfl rfl (v := .sc (.bool false)) rfl rfl rfl rfl ?_
          refine s_mv (.inl rfl) (by conv => lhs; whnf) rfl rfl rfl ?_
          refine s_skip rfl rfl rfl ?_
          refine s_skip rfl rfl rfl ?_
          refine s_skip rfl rfl rfl ?_
          refine s_skip rfl rfl rfl ?_
          refine s_skip rfl rfl rfl ?_
          refine s_pickF rfl rfl (v := .sc (.bool false)) rfl rfl rfl rfl ?_
          refine s_mv (.inl rfl) (by conv => lhs; whnf) rfl rfl rfl ?_
          refine s_skip rfl rfl rfl ?_
          refine s_skip rfl rfl rfl ?_
          refine s_skip rfl rfl rfl ?_
          refine s_skip rfl rfl rfl ?_
          refine s_skip rfl rfl rfl ?_
          refine s_pickF rfl rfl (v := .sc (.bool false)) rfl rfl rfl rfl ?_
          refine rt_nil ?_
          refine Exists.intro ⟨false, h⟩ ?_
          refine entX [((1, 0), ⟨83, 2, [[.sc (.string p0.apex), .lst 6 (List.map recV p0.l)]], false, true⟩, some (1, 0)), ((2003, 0), ⟨9, 1, List.map strV v0_0, false, true⟩, some (2003, 0)), ((5, 0), ⟨48, 6, [[.sc (.string e0.name), .sc (.int .i64 e0.ty), .sc (.int .i64 e0.ttl), .sc (.int .i64 e0.n), .sc (.string e0.host), .sc (.string e0.text)]], false, true⟩, some (5, 0))] [] ⟨⟨rfl, _, rfl, rfl, rfl, rfl, id, rowsCv_one (.cons (.free rfl) (.cons (.free rfl) .nil)), rowsZ_one rfl⟩, ⟨rfl, _, rfl, rfl, rfl, rfl, id, rowsCv_eq rfl (allFree_map strV_free), rowsZ_map strV_len⟩, ⟨rfl, _, rfl, rfl, rfl, rfl, id, rowsCv_one (.cons (.free rfl) (.cons (.free rfl) (.cons (.free rfl) (.cons (.free rfl) (.cons (.free rfl) (.cons (.free rfl) .nil)))))), rowsZ_one rfl⟩, trivial⟩ trivial rfl rfl ?_
          exact ⟨(.ptr rfl), (.ref rfl), (.ptr rfl), (.free rfl), (.free rfl), (.free rfl), (.free rfl), trivial⟩
      · rintro ⟨j1_0, h⟩
        replace h : i_CutsOf_j1 v0_0 v0_1 e0 (i_CutsOf_l0 p0 rs0) j1_0 = some r0 := h
        unfold i_CutsOf_j1 at h
        show Tri _ _ _ (inv_i_CutsOf_1 p0 v0_0 v0_1 e0 j1_0)
        refine tri_cond rfl (fun c2 => ?_) (fun c2 => ?_)
        · replace h := cond_t h c2
          refine tri_region ?_
          refine s_mv (.inl rfl) (by conv => lhs; whnf) rfl rfl rfl ?_
          refine s_fieldAddr rfl rfl fd48_0 rfl rfl rfl rfl ?_
          refine s_load rfl rfl rfl rfl ty9 rfl (.inr rfl) (by conv => lhs; whnf) rfl rfl rfl ?_
          refine s_buildSlice (rows' := List.map strV [e0.name]) rfl rfl rfl sl112 zc9 rfl rfl rfl rfl rfl rfl rfl rfl rfl ?_
          refine grd_elim h fun g3 h => ?_
          refine s_appL rfl rfl rfl sl112 zc9 rfl rfl rfl rfl rfl rfl (src_refL rfl rfl) g3 rfl rfl ?_
          refine s_mv (.inr rfl) (by conv => lhs; whnf) rfl rfl rfl ?_
          refine rt_nil ?_
          refine tri_region ?_
          refine s_inc (a := v0_1) (b := 1) rfl rfl rfl rfl (by have := get_lt hx0; have := hl0; omega) rfl rfl rfl ?_
          refine s_mv (.inl rfl) (by conv => lhs; whnf) rfl rfl rfl ?_
          refine rt_nil ?_
          refine Exists.intro ⟨(rs0, v0_0 ++ [e0.name], (v0_1 + 1)), hn0, h⟩ (And.intro (Nat.lt_succ_self _) ?_)
          refine entX [((1, 0), ⟨83, 2, [[.sc (.string p0.apex), .lst 6 (List.map recV p0.l)]], false, true⟩, some (1, 0)), ((2003, 0), ⟨9, 1, List.map strV (v0_0 ++ [e0.name]), false, true⟩, some (42, 0))] [] ⟨⟨rfl, _, rfl, rfl, rfl, rfl, id, rowsCv_one (.cons (.free rfl) (.cons (.free rfl) .nil)), rowsZ_one rfl⟩, ⟨rfl, _, rfl, rfl, rfl, rfl, id, rowsCv_eq rfl (allFree_map strV_free), rowsZ_map strV_len⟩, trivial⟩ trivial rfl rfl ?_
          exact ⟨(.ptr rfl), (.ref rfl), (.free rfl), (.free rfl), (.free rfl), trivial⟩
        · replace h := cond_f h c2
          refine tri_skip ?_
          refine tri_region ?_
          refine s_inc (a := v0_1) (b := 1) rfl rfl rfl rfl (by have := get_lt hx0; have := hl0; omega) rfl rfl rfl ?_
          refine s_mv (.inl rfl) (by conv => lhs; whnf) rfl rfl rfl ?_
          refine rt_nil ?_
          refine Exists.intro ⟨(rs0, v0_0, (v0_1 + 1)), hn0, h⟩ (And.intro (Nat.lt_succ_self _) ?_)
          refine entX [((1, 0), ⟨83, 2, [[.sc (.string p0.apex), .lst 6 (List.map recV p0.l)]], false, true⟩, some (1, 0)), ((2003, 0), ⟨9, 1, List.map strV v0_0, false, true⟩, some (2003, 0))] [] ⟨⟨rfl, _, rfl, rfl, rfl, rfl, id, rowsCv_one (.cons (.free rfl) (.cons (.free rfl) .nil)), rowsZ_one rfl⟩, ⟨rfl, _, rfl, rfl, rfl, rfl, id, rowsCv_eq rfl (allFree_map strV_free), rowsZ_map strV_len⟩, trivial⟩ trivial rfl rfl ?_
          exact ⟨(.ptr rfl), (.ref rfl), (.free rfl), (.free rfl), (.free rfl), trivial⟩
    · have he := drop_f hd0 c1; subst he
      rw [i_CutsOf_l0] at h
      refine tri_exit ?_
      refine tri_seq ?_
      refine tri_region ?_
      refine s_mv (.inl rfl) (by conv => lhs; whnf) rfl rfl rfl ?_
      refine s_mv (.inr rfl) (by conv => lhs; whnf) rfl rfl rfl ?_
      refine rt_nil ?_
      refine tri_ret ?_
      have e0 := (some1 h); subst e0
      exact endY (v' := .ref (2000, 0) 0 v0_0.length) [((2000, 0), ⟨9, 1, List.map strV v0_0, false, true⟩, some (2003, 0))] [] (rvC (resTmp rfl) rvN) ⟨⟨rfl, _, rfl, rfl, rfl, rfl, id, rowsCv_eq rfl (allFree_map strV_free), rowsZ_map strV_len⟩, trivial⟩ trivial rfl rfl (by kernel_rfl) (by first | (simp only [V.mat, V.mat1, V.mat0, matL, matT, List.length_map]; done) | (simp only [V.mat, V.mat1, V.mat0, matL, matT, List.length_map]; rfl)) (.ref rfl)

/- impl.CutOf -/
def inv_i_CutOf_0 (p1 : ByteArray) (x1 : List ByteArray) (v0_0 : Nat) : St := mkT 20 [(1, .sc (.string p1)), (9, .ref (9, 0) 0 x1.length), (10, .sc (.int .i64 (x1.length : Int))), (11, .sc (.int .i64 (v0_0 : Int)))] [((9, 0), some ⟨9, 1, List.map strV x1, false, true⟩)]
set_option maxRecDepth 4000 in
set_option maxHeartbeats 800000 in
theorem wi_CutOf (p0 : MZone) (p1 : ByteArray) (r0 : ByteArray) (r1 : Bool) (h : i_CutOf p0 p1 = some (r0, r1)) : Runs Tryz.prog 93 [.agg (mZoneV p0), .sc (.string p1)] [] (.tup [.sc (.string r0), .sc (.bool r1)]) [] := by
  unfold i_CutOf at h
  refine runsR [.tmp 4, .tmp 5] Tryz.func93 rfl rfl rfl rfl ?_
  rw [Tryz.ntmps93]
  refine tri_seq ?_
  refine tri_region ?_
  refine s_box rfl rfl rfl rfl rfl rfl rfl ?_
  refine s_mv (.inr rfl) (v := .sc (.string (⟨#[]⟩ : ByteArray))) rfl rfl rfl rfl ?_
  refine s_mv (.inr rfl) (v := .sc (.bool false)) rfl rfl rfl rfl ?_
  refine rt_nil ?_
  refine tri_seq ?_
  refine tri_seq ?_
  refine tri_region ?_
  refine s_loadR rfl rfl rfl rfl ty83 rfl rfl rfl ?_
  refine bnd1_elim h fun x1 q2 h => ?_
  refine s_callN (kb := []) (ns := []) (v := .ref (9, 0) 0 x1.length) rfl rfl cl140 (wi_CutsOf p0 x1 q2) rfl (.cons (relAgg rfl) .nil) trivial memNil .nil memNil rfl ⟨(allSc_map strV_sc), trivial⟩ memNil rfl (by first | (simp only [V.mat, V.mat1, V.mat0, matL, matT, List.length_map]; done) | (simp only [V.mat, V.mat1, V.mat0, matL, matT, List.length_map]; rfl)) rfl rfl rfl rfl ?_
  refine s_len (m := x1.length) rfl sl112 rfl rfl rfl rfl ?_
  refine s_mv (.inl rfl) (v := .sc (.int .i64 0)) rfl rfl rfl rfl ?_
  refine rt_nil ?_
  refine tri_block ?_
  refine tri_ownM (9, 0) rfl (fun hl0 => ?_)
  refine tri_loop (ι := { p : (List ByteArray) × Nat // x1.drop p.2 = p.1 ∧ i_CutOf_l0 p1 p.1 p.2 = some (r0, r1) }) (fun p => inv_i_CutOf_0 p1 x1 p.1.2) (fun p => p.1.1.length) ⟨(x1, 0), rfl, h⟩ ?_ ?_
  · skip
    refine entX [((9, 0), ⟨9, 1, List.map strV x1, false, true⟩, some (9, 0))] [] ⟨⟨rfl, _, rfl, rfl, rfl, rfl, id, rowsCv_eq rfl (allFree_map strV_free), rowsZ_map strV_len⟩, trivial⟩ trivial rfl rfl ?_
    exact ⟨(.free rfl), (.ref rfl), (.free rfl), (.free rfl), trivial⟩
  · rintro ⟨⟨lrs0, v0_0⟩, hd0, h⟩
    replace hd0 : x1.drop v0_0 = lrs0 := hd0
    replace h : i_CutOf_l0 p1 lrs0 v0_0 = some (r0, r1) := h
    show Tri _ _ _ (inv_i_CutOf_0 p1 x1 v0_0)
    refine tri_seq ?_
    refine tri_region ?_
    refine s_of (st_lss rfl rfl rfl) rfl rfl rfl rfl ?_
    refine rt_nil ?_
    refine tri_seq ?_
    refine tri_cond rfl (fun c3 => ?_) (fun c3 => ?_)
    · refine drop_elim hd0 c3 fun e0 rs0 he hx0 hn0 => ?_
      subst he
      rw [i_CutOf_l0] at h
      refine tri_skip ?_
      refine tri_seq ?_
      refine tri_block ?_
      refine tri_seq ?_
      refine tri_region ?_
      refine s_index0 (i := v0_0) rfl rfl rfl rfl sl112 rfl (get_lt hx0) rfl rfl rfl ?_
      refine s_load rfl rfl rfl (rowG hx0) ty9 rfl (.inr rfl) (by conv => lhs; whnf) rfl rfl rfl ?_
      refine s_mv (.inr rfl) (by conv => lhs; whnf) rfl rfl rfl ?_
      refine rt_nil ?_
      refine tri_seq ?_
      refine tri_region ?_
      refine s_mv (.inl rfl) (by conv => lhs; whnf) rfl rfl rfl ?_
      refine s_mv (.inl rfl) (by conv => lhs; whnf) rfl rfl rfl ?_
      refine bnd1_elim h fun x4 q5 h => ?_
      refine s_callN (kb := []) (ns := []) (v := .sc (.bool x4)) rfl rfl cl94 (wi_Under p1 e0 x4 q5) rfl (.cons (.free rfl) (.cons (.free rfl) .nil)) trivial memNil .nil memNil rfl trivial memNil rfl rfl rfl rfl rfl rfl ?_
      refine rt_nil ?_
      refine tri_cond rfl (fun c6 => ?_) (fun c6 => ?_)
      · replace h := cond_t h c6
        refine tri_seq ?_
        refine tri_region ?_
        refine s_mv (.inl rfl) (by conv => lhs; whnf) rfl rfl rfl ?_
        refine s_mv (.inr rfl) (by conv => lhs; whnf) rfl rfl rfl ?_
        refine s_mv (.inr rfl) (v := .sc (.bool true)) rfl rfl rfl rfl ?_
        refine rt_nil ?_
        refine tri_ret ?_
        have e0 := (some2 h).1; have e1 := (some2 h).2; subst e0; subst e1
        exact endY [] [] (rvC (resTmp rfl) (rvC (resTmp rfl) rvN)) trivial trivial rfl rfl rfl rfl (CvL.tup (.cons (.free rfl) (.cons (.free rfl) .nil)))
      · replace h := cond_f h c6
        refine tri_skip ?_
        refine tri_region ?_
        refine s_inc (a := v0_0) (b := 1) rfl rfl rfl rfl (by have := get_lt hx0; have := hl0; omega) rfl rfl rfl ?_
        refine s_mv (.inl rfl) (by conv => lhs; whnf) rfl rfl rfl ?_
        refine rt_nil ?_
        refine Exists.intro ⟨(rs0, (v0_0 + 1)), hn0, h⟩ (And.intro (Nat.lt_succ_self _) ?_)
        refine entX [((9, 0), ⟨9, 1, List.map strV x1, false, true⟩, some (9, 0))] [] ⟨⟨rfl, _, rfl, rfl, rfl, rfl, id, rowsCv_eq rfl (allFree_map strV_free), rowsZ_map strV_len⟩, trivial⟩ trivial rfl rfl ?_
        exact ⟨(.free rfl), (.ref rfl), (.free rfl), (.free rfl), trivial⟩
    · have he := drop_f hd0 c3; subst he
      rw [i_CutOf_l0] at h
      refine tri_exit ?_
      refine tri_seq ?_
      refine tri_region ?_
      refine s_mv (.inr rfl) (v := .sc (.string (⟨#[]⟩ : ByteArray))) rfl rfl rfl rfl ?_
      refine s_mv (.inr rfl) (v := .sc (.bool false)) rfl rfl rfl rfl ?_
      refine rt_nil ?_
      refine tri_ret ?_
      have e0 := (some2 h).1; have e1 := (some2 h).2; subst e0; subst e1
      exact endY [] [] (rvC (resTmp rfl) (rvC (resTmp rfl) rvN)) trivial trivial rfl rfl rfl rfl (CvL.tup (.cons (.free rfl) (.cons (.free rfl) .nil)))

/- impl.SetOf -/
def inv_i_SetOf_1 (p0 : List Rec) (p1 : ByteArray) (p2 : Int) (v0_0 : List Rec) (v0_1 : Nat) (e0 : Rec) (j1_0 : Bool) : St := mkT 33 [(1, .sc (.string p1)), (2, .sc (.int .i64 p2)), (7, .ref (2007, 0) 0 v0_0.length), (9, .ptr (9, 0) 0 0), (11, .lst 6 (List.map recV p0)), (12, .sc (.int .i64 (p0.length : Int))), (13, .sc (.int .i64 (v0_1 : Int))), (26, .sc (.bool j1_0))] [((2007, 0), some ⟨48, 6, List.map recV v0_0, false, true⟩), ((9, 0), some ⟨48, 6, [[.sc (.string e0.name), .sc (.int .i64 e0.ty), .sc (.int .i64 e0.ttl), .sc (.int .i64 e0.n), .sc (.string e0.host), .sc (.string e0.text)]], false, true⟩)]
def inv_i_SetOf_0 (p0 : List Rec) (p1 : ByteArray) (p2 : Int) (v0_0 : List Rec) (v0_1 : Nat) : St := mkT 33 [(1, .sc (.string p1)), (2, .sc (.int .i64 p2)), (7, .ref (2007, 0) 0 v0_0.length), (11, .lst 6 (List.map recV p0)), (12, .sc (.int .i64 (p0.length : Int))), (13, .sc (.int .i64 (v0_1 : Int)))] [((2007, 0), some ⟨48, 6, List.map recV v0_0, false, true⟩)]
set_option maxRecDepth 4000 in
set_option maxHeartbeats 800000 in
theorem wi_SetOf (p0 : List Rec) (p1 : ByteArray) (p2 : Int) (r0 : List Rec) (h : i_SetOf p0 p1 p2 = some r0) : Runs Tryz.prog 95 [.lst 6 (List.map recV p0), .sc (.string p1), .sc (.int .i64 p2)] [] (.own 48 6 (List.map recV r0)) [] := by
  unfold i_SetOf at h
  refine runsR [.tmp 6] Tryz.func95 rfl rfl rfl rfl ?_
  rw [Tryz.ntmps95]
  refine tri_seq ?_
  refine tri_region ?_
  refine s_mv (.inr rfl) (v := .nils) rfl rfl rfl rfl ?_
  refine rt_nil ?_
  refine tri_seq ?_
  refine tri_region ?_
  refine s_buildSlice (rows' := List.map recV ([] : List Rec)) rfl rfl rfl sl24 zc48 rfl rfl rfl rfl rfl rfl rfl rfl rfl ?_
  refine s_mv (.inr rfl) (by conv => lhs; whnf) rfl rfl rfl ?_
  refine rt_nil ?_
  refine tri_seq ?_
  refine tri_seq ?_
  refine tri_region ?_
  refine s_mv (.inl rfl) (by conv => lhs; whnf) rfl rfl rfl ?_
  refine s_lenL rfl sl24 rfl rfl rfl rfl ?_
  refine s_mv (.inl rfl) (v := .sc (.int .i64 0)) rfl rfl rfl rfl ?_
  refine rt_nil ?_
  refine tri_block ?_
  refine tri_lstM 0 rfl (fun hl0 => ?_)
  refine tri_loop (ι := { p : (List Rec) × (List Rec) × Nat // p0.drop p.2.2 = p.1 ∧ i_SetOf_l0 p1 p2 p.1 p.2.1 p.2.2 = some r0 }) (fun p => inv_i_SetOf_0 p0 p1 p2 p.1.2.1 p.1.2.2) (fun p => p.1.1.length) ⟨(p0, ([] : List Rec), 0), rfl, h⟩ ?_ ?_
  · skip
    refine entX [((2007, 0), ⟨48, 6, List.map recV ([] : List Rec), false, true⟩, some (10, 0))] [] ⟨⟨rfl, _, rfl, rfl, rfl, rfl, id, rowsCv_eq rfl (allFree_map recV_free), rowsZ_map recV_len⟩, trivial⟩ trivial rfl rfl ?_
    exact ⟨(.free rfl), (.free rfl), (.ref rfl), (.free rfl), (.free rfl), (.free rfl), trivial⟩
  · rintro ⟨⟨lrs0, v0_0, v0_1⟩, hd0, h⟩
    replace hd0 : p0.drop v0_1 = lrs0 := hd0
    replace h : i_SetOf_l0 p1 p2 lrs0 v0_0 v0_1 = some r0 := h
    show Tri _ _ _ (inv_i_SetOf_0 p0 p1 p2 v0_0 v0_1)
    refine tri_seq ?_
    refine tri_region ?_
    refine s_of (st_lss rfl rfl rfl) rfl rfl rfl rfl ?_
    refine rt_nil ?_
    refine tri_seq ?_
    refine tri_cond rfl (fun c1 => ?_) (fun c1 => ?_)
    · refine drop_elim hd0 c1 fun e0 rs0 he hx0 hn0 => ?_
      subst he
      rw [i_SetOf_l0] at h
      refine tri_skip ?_
      refine tri_seq ?_
      refine tri_block ?_
      refine tri_seq ?_
      refine tri_region ?_
      refine s_indexF (i := v0_1) rfl rfl rfl sl24 (get_ltM hx0) rfl rfl rfl ?_
      refine s_loadFR rfl rfl (rowG hx0) ty48 rfl rfl rfl ?_
      refine s_alloc rfl rfl rfl zc48 rfl rfl rfl rfl rfl ?_
      refine s_storeB rfl rfl rfl ty48 rfl rfl rfl rfl rfl ?_
      refine rt_nil ?_
      refine tri_cutI (ι := { p : Bool // i_SetOf_j1 v0_0 v0_1 e0 (i_SetOf_l0 p1 p2 rs0) p = some r0 }) (fun p => inv_i_SetOf_1 p0 p1 p2 v0_0 v0_1 e0 p.1) ?_ ?_
      · skip
        refine tri_region ?_
        refine s_fieldAddr rfl rfl fd48_0 rfl rfl rfl rfl ?_
        refine s_load rfl rfl rfl rfl ty9 rfl (.inr rfl) (by conv => lhs; whnf) rfl rfl rfl ?_
        refine s_mv (.inl rfl) (by conv => lhs; whnf) rfl rfl rfl ?_
        refine s_of (st_eqS rfl rfl rfl) rfl rfl rfl rfl ?_
        refine s_mv (.inl rfl) (by conv => lhs; whnf) rfl rfl rfl ?_
        refine s_split (t := 21) rfl (fun b2 => ?_) (fun b2 => ?_)
        · replace h := cond_t h b2
          refine s_fieldAddr rfl rfl fd48_1 rfl rfl rfl rfl ?_
          refine s_load rfl rfl rfl rfl ty3 rfl (.inr rfl) (by conv => lhs; whnf) rfl rfl rfl ?_
          refine s_mv (.inl rfl) (by conv => lhs; whnf) rfl rfl rfl ?_
          refine s_of (st_eqI rfl rfl rfl) rfl rfl rfl rfl ?_
          refine s_pickT rfl rfl (by conv => lhs; whnf) rfl rfl rfl ?_
          refine rt_nil ?_
          refine Exists.intro ⟨decide (e0.ty = p2), h⟩ ?_
          refine entX [((2007, 0), ⟨48, 6, List.map recV v0_0, false, true⟩, some (2007, 0)), ((9, 0), ⟨48, 6, [[.sc (.string e0.name), .sc (.int .i64 e0.ty), .sc (.int .i64 e0.ttl), .sc (.int .i64 e0.n), .sc (.string e0.host), .sc (.string e0.text)]], false, true⟩, some (9, 0))] [] ⟨⟨rfl, _, rfl, rfl, rfl, rfl, id, rowsCv_eq rfl (allFree_map recV_free), rowsZ_map recV_len⟩, ⟨rfl, _, rfl, rfl, rfl, rfl, id, rowsCv_one (.cons (.free rfl) (.cons (.free rfl) (.cons (.free rfl) (.cons (.free rfl) (.cons (.free rfl) (.cons (.free rfl) .nil)))))), rowsZ_one rfl⟩, trivial⟩ trivial rfl rfl ?_
          exact ⟨(.free rfl), (.free rfl), (.ref rfl), (.ptr rfl), (.free rfl), (.free rfl), (.free rfl), (.free rfl), trivial⟩
        · replace h := cond_f h b2
          refine s_skip rfl rfl rfl ?_
          refine s_skip rfl rfl rfl ?_
          refine s_skip rfl rfl rfl ?_
          refine s_skip rfl rfl rfl ?_
          refine s_pickF rfl rfl (v := .sc (.bool false)) rfl rfl rfl rfl ?_
          refine rt_nil ?_
          refine Exists.intro ⟨false, h⟩ ?_
          refine entX [((2007, 0), ⟨48, 6, List.map recV v0_0, false, true⟩, some (2007, 0)), ((9, 0), ⟨48, 6, [[.sc (.string e0.name), .sc (.int .i64 e0.ty), .sc (.int .i64 e0.ttl), .sc (.int .i64 e0.n), .sc (.string e0.host), .sc (.string e0.text)]], false, true⟩, some (9, 0))] [] ⟨⟨rfl, _, rfl, rfl, rfl, rfl, id, rowsCv_eq rfl (allFree_map recV_free), rowsZ_map recV_len⟩, ⟨rfl, _, rfl, rfl, rfl, rfl, id, rowsCv_one (.cons (.free rfl) (.cons (.free rfl) (.cons (.free rfl) (.cons (.free rfl) (.cons (.free rfl) (.cons (.free rfl) .nil)))))), rowsZ_one rfl⟩, trivial⟩ trivial rfl rfl ?_
          exact ⟨(.free rfl), (.free rfl), (.ref rfl), (.ptr rfl), (.free rfl), (.free rfl), (.free rfl), (.free rfl), trivial⟩
      · rintro ⟨j1_0, h⟩
        replace h : i_SetOf_j1 v0_0 v0_1 e0 (i_SetOf_l0 p1 p2 rs0) j1_0 = some r0 := h
        unfold i_SetOf_j1 at h
        show Tri _ _ _ (inv_i_SetOf_1 p0 p1 p2 v0_0 v0_1 e0 j1_0)
        refine tri_cond rfl (fun c2 => ?_) (fun c2 => ?_)
        · replace h := cond_t h c2
          refine tri_region ?_
          refine s_mv (.inl rfl) (by conv => lhs; whnf) rfl rfl rfl ?_
          refine s_loadR rfl rfl rfl rfl ty48 rfl rfl rfl ?_
          refine s_buildSlice (rows' := List.map recV [e0]) rfl rfl rfl sl24 zc48 rfl rfl rfl rfl rfl rfl rfl rfl rfl ?_
          refine grd_elim h fun g3 h => ?_
          refine s_appL rfl rfl rfl sl24 zc48 rfl rfl rfl rfl rfl rfl (src_refL rfl rfl) g3 rfl rfl ?_
          refine s_mv (.inr rfl) (by conv => lhs; whnf) rfl rfl rfl ?_
          refine rt_nil ?_
          refine tri_region ?_
          refine s_inc (a := v0_1) (b := 1) rfl rfl rfl rfl (by have := get_lt hx0; have := hl0; omega) rfl rfl rfl ?_
          refine s_mv (.inl rfl) (by conv => lhs; whnf) rfl rfl rfl ?_
          refine rt_nil ?_
          refine Exists.intro ⟨(rs0, v0_0 ++ [e0], (v0_1 + 1)), hn0, h⟩ (And.intro (Nat.lt_succ_self _) ?_)
          refine entX [((2007, 0), ⟨48, 6, List.map recV (v0_0 ++ [e0]), false, true⟩, some (30, 0))] [] ⟨⟨rfl, _, rfl, rfl, rfl, rfl, id, rowsCv_eq rfl (allFree_map recV_free), rowsZ_map recV_len⟩, trivial⟩ trivial rfl rfl ?_
          exact ⟨(.free rfl), (.free rfl), (.ref rfl), (.free rfl), (.free rfl), (.free rfl), trivial⟩
        · replace h := cond_f h c2
          refine tri_skip ?_
          refine tri_region ?_
          refine s_inc (a := v0_1) (b := 1) rfl rfl rfl rfl (by have := get_lt hx0; have := hl0; omega) rfl rfl rfl ?_
          refine s_mv (.inl rfl) (by conv => lhs; whnf) rfl rfl rfl ?_
          refine rt_nil ?_
          refine Exists.intro ⟨(rs0, v0_0, (v0_1 + 1)), hn0, h⟩ (And.intro (Nat.lt_succ_self _) ?_)
          refine entX [((2007, 0), ⟨48, 6, List.map recV v0_0, false, true⟩, some (2007, 0))] [] ⟨⟨rfl, _, rfl, rfl, rfl, rfl, id, rowsCv_eq rfl (allFree_map recV_free), rowsZ_map recV_len⟩, trivial⟩ trivial rfl rfl ?_
          exact ⟨(.free rfl), (.free rfl), (.ref rfl), (.free rfl), (.free rfl), (.free rfl), trivial⟩
    · have he := drop_f hd0 c1; subst he
      rw [i_SetOf_l0] at h
      refine tri_exit ?_
      refine tri_seq ?_
      refine tri_region ?_
      refine s_mv (.inl rfl) (by conv => lhs; whnf) rfl rfl rfl ?_
      refine s_mv (.inr rfl) (by conv => lhs; whnf) rfl rfl rfl ?_
      refine rt_nil ?_
      refine tri_ret ?_
      have e0 := (some1 h); subst e0
      exact endY (v' := .ref (2000, 0) 0 v0_0.length) [((2000, 0), ⟨48, 6, List.map recV v0_0, false, true⟩, some (2007, 0))] [] (rvC (resTmp rfl) rvN) ⟨⟨rfl, _, rfl, rfl, rfl, rfl, id, rowsCv_eq rfl (allFree_map recV_free), rowsZ_map recV_len⟩, trivial⟩ trivial rfl rfl (by kernel_rfl) (by first | (simp only [V.mat, V.mat1, V.mat0, matL, matT, List.length_map]; done) | (simp only [V.mat, V.mat1, V.mat0, matL, matT, List.length_map]; rfl)) (.ref rfl)

/- impl.Record] -/
def inv_slices_IndexFunc_Record_0 (p0 : List Rec) (fi1 : FuncId) (cp1 : List V) (v0_0 : Nat) : St := mkT 19 [(0, .lst 6 (List.map recV p0)), (1, .fn fi1 cp1), (7, .sc (.int .i64 (p0.length : Int))), (8, .sc (.int .i64 (v0_0 : Int)))] []
set_option maxRecDepth 4000 in
set_option maxHeartbeats 800000 in
theorem wslices_IndexFunc_Record (p0 : List Rec) (fi1 : FuncId) (cp1 : List V) (hf1 : cp1.all (·.free) = true) (hb1 : callable Tryz.prog fi1 = true) (p1 : Rec → Option Bool) (hg1 : ∀ (z0 : Rec) v, p1 z0 = some v → Runs Tryz.prog fi1 ([.agg (recV z0)] ++ cp1) [] (.sc (.bool v)) []) (r0 : Int) (h : slices_IndexFunc_Record p0 p1 = some r0) : Runs Tryz.prog 105 [.lst 6 (List.map recV p0), .fn fi1 cp1] [] (.sc (.int .i64 r0)) [] := by
  unfold slices_IndexFunc_Record at h
  refine runsR [.tmp 4] Tryz.func105 rfl rfl rfl rfl ?_
  rw [Tryz.ntmps105]
  refine tri_seq ?_
  refine tri_region ?_
  refine s_mv (.inr rfl) (v := .sc (.int .i64 0)) rfl rfl rfl rfl ?_
  refine rt_nil ?_
  refine tri_seq ?_
  refine tri_seq ?_
  refine tri_region ?_
  refine s_mv (.inl rfl) (by conv => lhs; whnf) rfl rfl rfl ?_
  refine s_lenL rfl sl24 rfl rfl rfl rfl ?_
  refine s_mv (.inl rfl) (v := .sc (.int .i64 0)) rfl rfl rfl rfl ?_
  refine rt_nil ?_
  refine tri_block ?_
  refine tri_lstM 0 rfl (fun hl0 => ?_)
  refine tri_loop (ι := { p : (List Rec) × Nat // p0.drop p.2 = p.1 ∧ slices_IndexFunc_Record_l0 p1 p.1 p.2 = some r0 }) (fun p => inv_slices_IndexFunc_Record_0 p0 fi1 cp1 p.1.2) (fun p => p.1.1.length) ⟨(p0, 0), rfl, h⟩ ?_ ?_
  · skip
    refine entX [] [] trivial trivial rfl rfl ?_
    exact ⟨(.free rfl), (cvFn hf1), (.free rfl), (.free rfl), trivial⟩
  · rintro ⟨⟨lrs0, v0_0⟩, hd0, h⟩
    replace hd0 : p0.drop v0_0 = lrs0 := hd0
    replace h : slices_IndexFunc_Record_l0 p1 lrs0 v0_0 = some r0 := h
    show Tri _ _ _ (inv_slices_IndexFunc_Record_0 p0 fi1 cp1 v0_0)
    refine tri_seq ?_
    refine tri_region ?_
    refine s_of (st_lss rfl rfl rfl) rfl rfl rfl rfl ?_
    refine rt_nil ?_
    refine tri_seq ?_
    refine tri_cond rfl (fun c1 => ?_) (fun c1 => ?_)
    · refine drop_elim hd0 c1 fun e0 rs0 he hx0 hn0 => ?_
      subst he
      rw [slices_IndexFunc_Record_l0] at h
      refine tri_skip ?_
      refine tri_seq ?_
      refine tri_block ?_
      refine tri_seq ?_
      refine tri_region ?_
      refine s_mv (.inl rfl) (by conv => lhs; whnf) rfl rfl rfl ?_
      refine s_mv (.inr rfl) (by conv => lhs; whnf) rfl rfl rfl ?_
      refine rt_nil ?_
      refine tri_seq ?_
      refine tri_region ?_
      refine s_mv (.inl rfl) (by conv => lhs; whnf) rfl rfl rfl ?_
      refine s_mv (.inl rfl) (by conv => lhs; whnf) rfl rfl rfl ?_
      refine s_mv (.inl rfl) (by conv => lhs; whnf) rfl rfl rfl ?_
      refine s_indexF (i := v0_0) rfl rfl rfl sl24 (get_ltM hx0) rfl rfl rfl ?_
      refine s_loadFR rfl rfl (rowG hx0) ty48 rfl rfl rfl ?_
      refine bnd1_elim h fun x2 q3 h => ?_
      refine s_callN (kb := []) (ns := []) (v := .sc (.bool x2)) rfl rfl hb1 (hg1 e0 x2 q3) rfl (.cons (relAgg rfl) (argsFree hf1)) trivial memNil .nil memNil rfl trivial memNil rfl rfl rfl rfl rfl rfl ?_
      refine rt_nil ?_
      refine tri_cond rfl (fun c4 => ?_) (fun c4 => ?_)
      · replace h := cond_t h c4
        refine tri_seq ?_
        refine tri_region ?_
        refine s_mv (.inl rfl) (by conv => lhs; whnf) rfl rfl rfl ?_
        refine s_mv (.inr rfl) (by conv => lhs; whnf) rfl rfl rfl ?_
        refine rt_nil ?_
        refine tri_ret ?_
        have e0 := (some1 h); subst e0
        exact endY [] [] (rvC (resTmp rfl) rvN) trivial trivial rfl rfl rfl rfl (.free rfl)
      · replace h := cond_f h c4
        refine tri_skip ?_
        refine tri_region ?_
        refine s_inc (a := v0_0) (b := 1) rfl rfl rfl rfl (by have := get_lt hx0; have := hl0; omega) rfl rfl rfl ?_
        refine s_mv (.inl rfl) (by conv => lhs; whnf) rfl rfl rfl ?_
        refine rt_nil ?_
        refine Exists.intro ⟨(rs0, (v0_0 + 1)), hn0, h⟩ (And.intro (Nat.lt_succ_self _) ?_)
        refine entX [] [] trivial trivial rfl rfl ?_
        exact ⟨(.free rfl), (cvFn hf1), (.free rfl), (.free rfl), trivial⟩
    · have he := drop_f hd0 c1; subst he
      rw [slices_IndexFunc_Record_l0] at h
      refine tri_exit ?_
      refine tri_seq ?_
      refine tri_region ?_
      refine s_mv (.inr rfl) (v := .sc (.int .i64 (-1))) rfl rfl rfl rfl ?_
      refine rt_nil ?_
      refine tri_ret ?_
      have e0 := (some1 h); subst e0
      exact endY [] [] (rvC (resTmp rfl) rvN) trivial trivial rfl rfl rfl rfl (.free rfl)

/- impl.Record] -/

set_option maxRecDepth 4000 in
set_option maxHeartbeats 800000 in
theorem wslices_ContainsFunc_Record (p0 : List Rec) (fi1 : FuncId) (cp1 : List V) (hf1 : cp1.all (·.free) = true) (hb1 : callable Tryz.prog fi1 = true) (p1 : Rec → Option Bool) (hg1 : ∀ (z0 : Rec) v, p1 z0 = some v → Runs Tryz.prog fi1 ([.agg (recV z0)] ++ cp1) [] (.sc (.bool v)) []) (r0 : Bool) (h : slices_ContainsFunc_Record p0 p1 = some r0) : Runs Tryz.prog 55 [.lst 6 (List.map recV p0), .fn fi1 cp1] [] (.sc (.bool r0)) [] := by
  unfold slices_ContainsFunc_Record at h
  refine runsR [.tmp 4] Tryz.func55 rfl rfl rfl rfl ?_
  rw [Tryz.ntmps55]
  refine tri_seq ?_
  refine tri_region ?_
  refine s_mv (.inr rfl) (v := .sc (.bool false)) rfl rfl rfl rfl ?_
  refine rt_nil ?_
  refine tri_seq ?_
  refine tri_region ?_
  refine s_mv (.inl rfl) (by conv => lhs; whnf) rfl rfl rfl ?_
  refine s_mv (.inl rfl) (by conv => lhs; whnf) rfl rfl rfl ?_
  refine bnd1_elim h fun x1 q2 h => ?_
  refine s_callN (kb := []) (ns := []) (v := .sc (.int .i64 x1)) rfl rfl cl105 (wslices_IndexFunc_Record p0 fi1 cp1 hf1 hb1 p1 hg1 x1 q2) rfl (.cons (.free rfl) (.cons (relFn hf1) .nil)) trivial memNil .nil memNil rfl trivial memNil rfl rfl rfl rfl rfl rfl ?_
  refine s_of (st_geq rfl rfl rfl) rfl rfl rfl rfl ?_
  refine s_mv (.inr rfl) (by conv => lhs; whnf) rfl rfl rfl ?_
  refine rt_nil ?_
  refine tri_ret ?_
  have e0 := (some1 h); subst e0
  exact endY [] [] (rvC (resTmp rfl) rvN) trivial trivial rfl rfl rfl rfl (.free rfl)

/- impl.Exists$1 -/

set_option maxRecDepth 4000 in
set_option maxHeartbeats 800000 in
theorem wi_Exists_1 (p0 : Rec) (p1 : ByteArray) (r0 : Bool) (h : i_Exists_1 p0 p1 = some r0) : Runs Tryz.prog 143 [.agg (recV p0), .lptr 1 [[.sc (.string p1)]] 0 0] [] (.sc (.bool r0)) [] := by
  unfold i_Exists_1 at h
  refine runsR [.tmp 3] Tryz.func143 rfl rfl rfl rfl ?_
  rw [Tryz.ntmps143]
  refine tri_seq ?_
  refine tri_region ?_
  refine s_box rfl rfl rfl rfl rfl rfl rfl ?_
  refine s_mv (.inr rfl) (v := .sc (.bool false)) rfl rfl rfl rfl ?_
  refine rt_nil ?_
  refine tri_seq ?_
  refine tri_region ?_
  refine s_fieldAddr rfl rfl fd48_0 rfl rfl rfl rfl ?_
  refine s_load rfl rfl rfl rfl ty9 rfl (.inr rfl) (by conv => lhs; whnf) rfl rfl rfl ?_
  refine s_loadF rfl rfl rfl ty9 rfl (.inr rfl) (by conv => lhs; whnf) rfl rfl rfl ?_
  refine bnd1_elim h fun x1 q2 h => ?_
  refine s_callN (kb := []) (ns := []) (v := .sc (.bool x1)) rfl rfl cl94 (wi_Under p0.name p1 x1 q2) rfl (.cons (.free rfl) (.cons (.free rfl) .nil)) trivial memNil .nil memNil rfl trivial memNil rfl rfl rfl rfl rfl rfl ?_
  refine s_mv (.inr rfl) (by conv => lhs; whnf) rfl rfl rfl ?_
  refine rt_nil ?_
  refine tri_ret ?_
  have e0 := (some1 h); subst e0
  exact endY [] [] (rvC (resTmp rfl) rvN) trivial trivial rfl rfl rfl rfl (.free rfl)

/- impl.Exists -/

set_option maxRecDepth 4000 in
set_option maxHeartbeats 800000 in
theorem wi_Exists (p0 : MZone) (p1 : ByteArray) (r0 : Bool) (h : i_Exists p0 p1 = some r0) : Runs Tryz.prog 96 [.agg (mZoneV p0), .sc (.string p1)] [] (.sc (.bool r0)) [] := by
  unfold i_Exists at h
  refine runsR [.tmp 4] Tryz.func96 rfl rfl rfl rfl ?_
  rw [Tryz.ntmps96]
  refine tri_seq ?_
  refine tri_region ?_
  refine s_box rfl rfl rfl rfl rfl rfl rfl ?_
  refine s_box rfl rfl rfl rfl rfl rfl rfl ?_
  refine s_mv (.inr rfl) (v := .sc (.bool false)) rfl rfl rfl rfl ?_
  refine rt_nil ?_
  refine tri_seq ?_
  refine tri_region ?_
  refine s_fieldAddr rfl rfl fd83_1 rfl rfl rfl rfl ?_
  refine s_load rfl rfl rfl rfl ty24 rfl (.inr rfl) (by conv => lhs; whnf) rfl rfl rfl ?_
  refine s_makeFunc (caps := [.ptr (3, 0) 0 0]) rfl rfl rfl rfl rfl ?_
  refine bnd1_elim h fun x1 q2 h => ?_
  refine s_callN (kb := [(3, 0)]) (ns := []) (v := .sc (.bool x1)) rfl rfl cl55 (wslices_ContainsFunc_Record p0.l 143 ([.lptr 1 [[.sc (.string p1)]] 0 0]) rfl cl143 (fun a0 => i_Exists_1 a0 p1) (fun a0 v0 hv => wi_Exists_1 a0 p1 v0 hv) x1 q2) rfl (.cons (.free rfl) (.cons (relFnL rfl (.cons (relBoxL rfl (.head _) (.cons (.free rfl) .nil) rfl rfl) .nil)) .nil)) trivial memNil .nil (fun _ _ => List.not_mem_nil) rfl trivial memNil rfl rfl rfl rfl rfl rfl ?_
  refine s_mv (.inr rfl) (by conv => lhs; whnf) rfl rfl rfl ?_
  refine rt_nil ?_
  refine tri_ret ?_
  have e0 := (some1 h); subst e0
  exact endY [] [] (rvC (resTmp rfl) rvN) trivial trivial rfl rfl rfl rfl (.free rfl)

/- impl.KindIn -/
def inv_i_KindIn_0 (p0 : MZone) (p1 : Quest) (j0_0 : Bool) : St := mkT 51 [(2, .ptr (2, 0) 0 0), (3, .ptr (3, 0) 0 0), (23, .sc (.bool j0_0))] [((2, 0), some ⟨83, 2, [[.sc (.string p0.apex), .lst 6 (List.map recV p0.l)]], false, true⟩), ((3, 0), some ⟨36, 2, [[.sc (.string p1.name), .sc (.int .i64 p1.ty)]], false, true⟩)]
set_option maxRecDepth 4000 in
set_option maxHeartbeats 800000 in
theorem wi_KindIn (p0 : MZone) (p1 : Quest) (r0 : Int) (h : i_KindIn p0 p1 = some r0) : Runs Tryz.prog 46 [.agg (mZoneV p0), .agg (questV p1)] [] (.sc (.int .i64 r0)) [] := by
  unfold i_KindIn at h
  refine runsR [.tmp 4] Tryz.func46 rfl rfl rfl rfl ?_
  rw [Tryz.ntmps46]
  refine tri_seq ?_
  refine tri_region ?_
  refine s_box rfl rfl rfl rfl rfl rfl rfl ?_
  refine s_box rfl rfl rfl rfl rfl rfl rfl ?_
  refine s_mv (.inr rfl) (v := .sc (.int .i64 0)) rfl rfl rfl rfl ?_
  refine rt_nil ?_
  refine tri_seq ?_
  refine tri_region ?_
  refine s_loadR rfl rfl rfl rfl ty83 rfl rfl rfl ?_
  refine s_fieldAddr rfl rfl fd36_0 rfl rfl rfl rfl ?_
  refine s_load rfl rfl rfl rfl ty9 rfl (.inr rfl) (by conv => lhs; whnf) rfl rfl rfl ?_
  refine bnd2_elim h fun x1 x2 q3 h => ?_
  refine s_callN (kb := []) (ns := []) (v := .tup [.sc (.string x1), .sc (.bool x2)]) rfl rfl cl93 (wi_CutOf p0 p1.name x1 x2 q3) rfl (.cons (relAgg rfl) (.cons (.free rfl) .nil)) trivial memNil .nil memNil rfl trivial memNil rfl rfl rfl rfl rfl rfl ?_
  refine s_mv (.inl rfl) (by conv => lhs; whnf) rfl rfl rfl ?_
  refine s_extract rfl rfl rfl rfl rfl rfl ?_
  refine s_extract rfl rfl rfl rfl rfl rfl ?_
  refine s_mv (.inr rfl) (by conv => lhs; whnf) rfl rfl rfl ?_
  refine s_mv (.inr rfl) (by conv => lhs; whnf) rfl rfl rfl ?_
  refine rt_nil ?_
  refine tri_seq ?_
  refine tri_block ?_
  refine tri_seq ?_
  refine tri_region ?_
  refine s_fieldAddr rfl rfl fd36_0 rfl rfl rfl rfl ?_
  refine s_load rfl rfl rfl rfl ty9 rfl (.inr rfl) (by conv => lhs; whnf) rfl rfl rfl ?_
  refine s_fieldAddr rfl rfl fd83_0 rfl rfl rfl rfl ?_
  refine s_load rfl rfl rfl rfl ty9 rfl (.inr rfl) (by conv => lhs; whnf) rfl rfl rfl ?_
  refine bnd1_elim h fun x4 q5 h => ?_
  refine s_callN (kb := []) (ns := []) (v := .sc (.bool x4)) rfl rfl cl94 (wi_Under p1.name p0.apex x4 q5) rfl (.cons (.free rfl) (.cons (.free rfl) .nil)) trivial memNil .nil memNil rfl trivial memNil rfl rfl rfl rfl rfl rfl ?_
  refine s_of (st_not rfl rfl) rfl rfl rfl rfl ?_
  refine s_mv (.inr rfl) (by conv => lhs; whnf) rfl rfl rfl ?_
  refine rt_nil ?_
  refine tri_cond rfl (fun c6 => ?_) (fun c6 => ?_)
  · replace h := cond_t h c6
    refine tri_seq ?_
    refine tri_region ?_
    refine s_mv (.inr rfl) (v := .sc (.int .i64 0)) rfl rfl rfl rfl ?_
    refine rt_nil ?_
    refine tri_ret ?_
    have e0 := (some1 h); subst e0
    exact endY [] [] (rvC (resTmp rfl) rvN) trivial trivial rfl rfl rfl rfl (.free rfl)
  · replace h := cond_f h c6
    refine tri_seq ?_
    refine tri_region ?_
    refine s_mv (.inl rfl) (by conv => lhs; whnf) rfl rfl rfl ?_
    refine s_mv (.inr rfl) (by conv => lhs; whnf) rfl rfl rfl ?_
    refine rt_nil ?_
    refine tri_cond rfl (fun c7 => ?_) (fun c7 => ?_)
    · replace h := cond_t h c7
      refine tri_seq ?_
      refine tri_region ?_
      refine s_mv (.inr rfl) (v := .sc (.int .i64 1)) rfl rfl rfl rfl ?_
      refine rt_nil ?_
      refine tri_ret ?_
      have e0 := (some1 h); subst e0
      exact endY [] [] (rvC (resTmp rfl) rvN) trivial trivial rfl rfl rfl rfl (.free rfl)
    · replace h := cond_f h c7
      refine tri_cutI (ι := { p : Bool // i_KindIn_j0 p0 p1 p = some r0 }) (fun p => inv_i_KindIn_0 p0 p1 p.1) ?_ ?_
      · skip
        refine tri_region ?_
        refine s_fieldAddr rfl rfl fd36_1 rfl rfl rfl rfl ?_
        refine s_load rfl rfl rfl rfl ty3 rfl (.inr rfl) (by conv => lhs; whnf) rfl rfl rfl ?_
        refine s_of (st_neI rfl rfl rfl) rfl rfl rfl rfl ?_
        refine s_mv (.inl rfl) (by conv => lhs; whnf) rfl rfl rfl ?_
        refine s_split (t := 27) rfl (fun b8 => ?_) (fun b8 => ?_)
        · replace h := cond_t h b8
          refine s_fieldAddr rfl rfl fd83_1 rfl rfl rfl rfl ?_
          refine s_load rfl rfl rfl rfl ty24 rfl (.inr rfl) (by conv => lhs; whnf) rfl rfl rfl ?_
          refine s_fieldAddr rfl rfl fd36_0 rfl rfl rfl rfl ?_
          refine s_load rfl rfl rfl rfl ty9 rfl (.inr rfl) (by conv => lhs; whnf) rfl rfl rfl ?_
          refine bnd1_elim h fun x9 q10 h => ?_
          refine s_callN (kb := []) (ns := []) (v := .ref (32, 0) 0 x9.length) rfl rfl cl95 (wi_SetOf p0.l p1.name 5 x9 q10) rfl (.cons (.free rfl) (.cons (.free rfl) (.cons (.free rfl) .nil))) trivial memNil .nil memNil rfl ⟨(allSc_map recV_sc), trivial⟩ memNil rfl (by first | (simp only [V.mat, V.mat1, V.mat0, matL, matT, List.length_map]; done) | (simp only [V.mat, V.mat1, V.mat0, matL, matT, List.length_map]; rfl)) rfl rfl rfl rfl ?_
          refine s_len (m := x9.length) rfl sl24 rfl rfl rfl rfl ?_
          refine s_of (st_gtr rfl rfl rfl) rfl rfl rfl rfl ?_
          refine s_pickT rfl rfl (by conv => lhs; whnf) rfl rfl rfl ?_
          refine s_mv (.inr rfl) (by conv => lhs; whnf) rfl rfl rfl ?_
          refine rt_nil ?_
          refine Exists.intro ⟨decide (0 < (x9.length : Int)), h⟩ ?_
          refine entX [((2, 0), ⟨83, 2, [[.sc (.string p0.apex), .lst 6 (List.map recV p0.l)]], false, true⟩, some (2, 0)), ((3, 0), ⟨36, 2, [[.sc (.string p1.name), .sc (.int .i64 p1.ty)]], false, true⟩, some (3, 0))] [] ⟨⟨rfl, _, rfl, rfl, rfl, rfl, id, rowsCv_one (.cons (.free rfl) (.cons (.free rfl) .nil)), rowsZ_one rfl⟩, ⟨rfl, _, rfl, rfl, rfl, rfl, id, rowsCv_one (.cons (.free rfl) (.cons (.free rfl) .nil)), rowsZ_one rfl⟩, trivial⟩ trivial rfl rfl ?_
          exact ⟨(.ptr rfl), (.ptr rfl), (.free rfl), trivial⟩
        · replace h := cond_f h b8
          refine s_skip rfl rfl rfl ?_
          refine s_skip rfl rfl rfl ?_
          refine s_skip rfl rfl rfl ?_
          refine s_skip rfl rfl rfl ?_
          refine s_skip rfl rfl rfl ?_
          refine s_skip rfl rfl rfl ?_
          refine s_skip rfl rfl rfl ?_
          refine s_pickF rfl rfl (v := .sc (.bool false)) rfl rfl rfl rfl ?_
          refine s_mv (.inr rfl) (by conv => lhs; whnf) rfl rfl rfl ?_
          refine rt_nil ?_
          refine Exists.intro ⟨false, h⟩ ?_
          refine entX [((2, 0), ⟨83, 2, [[.sc (.string p0.apex), .lst 6 (List.map recV p0.l)]], false, true⟩, some (2, 0)), ((3, 0), ⟨36, 2, [[.sc (.string p1.name), .sc (.int .i64 p1.ty)]], false, true⟩, some (3, 0))] [] ⟨⟨rfl, _, rfl, rfl, rfl, rfl, id, rowsCv_one (.cons (.free rfl) (.cons (.free rfl) .nil)), rowsZ_one rfl⟩, ⟨rfl, _, rfl, rfl, rfl, rfl, id, rowsCv_one (.cons (.free rfl) (.cons (.free rfl) .nil)), rowsZ_one rfl⟩, trivial⟩ trivial rfl rfl ?_
          exact ⟨(.ptr rfl), (.ptr rfl), (.free rfl), trivial⟩
      · rintro ⟨j0_0, h⟩
        replace h : i_KindIn_j0 p0 p1 j0_0 = some r0 := h
        unfold i_KindIn_j0 at h
        show Tri _ _ _ (inv_i_KindIn_0 p0 p1 j0_0)
        refine tri_cond rfl (fun c8 => ?_) (fun c8 => ?_)
        · replace h := cond_t h c8
          refine tri_seq ?_
          refine tri_region ?_
          refine s_mv (.inr rfl) (v := .sc (.int .i64 2)) rfl rfl rfl rfl ?_
          refine rt_nil ?_
          refine tri_ret ?_
          have e0 := (some1 h); subst e0
          exact endY [] [] (rvC (resTmp rfl) rvN) trivial trivial rfl rfl rfl rfl (.free rfl)
        · replace h := cond_f h c8
          refine tri_seq ?_
          refine tri_region ?_
          refine s_fieldAddr rfl rfl fd83_1 rfl rfl rfl rfl ?_
          refine s_load rfl rfl rfl rfl ty24 rfl (.inr rfl) (by conv => lhs; whnf) rfl rfl rfl ?_
          refine s_fieldAddr rfl rfl fd36_0 rfl rfl rfl rfl ?_
          refine s_load rfl rfl rfl rfl ty9 rfl (.inr rfl) (by conv => lhs; whnf) rfl rfl rfl ?_
          refine s_fieldAddr rfl rfl fd36_1 rfl rfl rfl rfl ?_
          refine s_load rfl rfl rfl rfl ty3 rfl (.inr rfl) (by conv => lhs; whnf) rfl rfl rfl ?_
          refine bnd1_elim h fun x9 q10 h => ?_
          refine s_callN (kb := []) (ns := []) (v := .ref (43, 0) 0 x9.length) rfl rfl cl95 (wi_SetOf p0.l p1.name p1.ty x9 q10) rfl (.cons (.free rfl) (.cons (.free rfl) (.cons (.free rfl) .nil))) trivial memNil .nil memNil rfl ⟨(allSc_map recV_sc), trivial⟩ memNil rfl (by first | (simp only [V.mat, V.mat1, V.mat0, matL, matT, List.length_map]; done) | (simp only [V.mat, V.mat1, V.mat0, matL, matT, List.length_map]; rfl)) rfl rfl rfl rfl ?_
          refine s_len (m := x9.length) rfl sl24 rfl rfl rfl rfl ?_
          refine s_of (st_gtr rfl rfl rfl) rfl rfl rfl rfl ?_
          refine s_mv (.inr rfl) (by conv => lhs; whnf) rfl rfl rfl ?_
          refine rt_nil ?_
          refine tri_cond rfl (fun c11 => ?_) (fun c11 => ?_)
          · replace h := cond_t h c11
            refine tri_seq ?_
            refine tri_region ?_
            refine s_mv (.inr rfl) (v := .sc (.int .i64 3)) rfl rfl rfl rfl ?_
            refine rt_nil ?_
            refine tri_ret ?_
            have e0 := (some1 h); subst e0
            exact endY [] [] (rvC (resTmp rfl) rvN) trivial trivial rfl rfl rfl rfl (.free rfl)
          · replace h := cond_f h c11
            refine tri_seq ?_
            refine tri_region ?_
            refine s_loadR rfl rfl rfl rfl ty83 rfl rfl rfl ?_
            refine s_fieldAddr rfl rfl fd36_0 rfl rfl rfl rfl ?_
            refine s_load rfl rfl rfl rfl ty9 rfl (.inr rfl) (by conv => lhs; whnf) rfl rfl rfl ?_
            refine bnd1_elim h fun x12 q13 h => ?_
            refine s_callN (kb := []) (ns := []) (v := .sc (.bool x12)) rfl rfl cl96 (wi_Exists p0 p1.name x12 q13) rfl (.cons (relAgg rfl) (.cons (.free rfl) .nil)) trivial memNil .nil memNil rfl trivial memNil rfl rfl rfl rfl rfl rfl ?_
            refine s_mv (.inr rfl) (by conv => lhs; whnf) rfl rfl rfl ?_
            refine rt_nil ?_
            refine tri_cond rfl (fun c14 => ?_) (fun c14 => ?_)
            · replace h := cond_t h c14
              refine tri_seq ?_
              refine tri_region ?_
              refine s_mv (.inr rfl) (v := .sc (.int .i64 4)) rfl rfl rfl rfl ?_
              refine rt_nil ?_
              refine tri_ret ?_
              have e0 := (some1 h); subst e0
              exact endY [] [] (rvC (resTmp rfl) rvN) trivial trivial rfl rfl rfl rfl (.free rfl)
            · replace h := cond_f h c14
              refine tri_skip ?_
              refine tri_seq ?_
              refine tri_region ?_
              refine s_mv (.inr rfl) (v := .sc (.int .i64 5)) rfl rfl rfl rfl ?_
              refine rt_nil ?_
              refine tri_ret ?_
              have e0 := (some1 h); subst e0
              exact endY [] [] (rvC (resTmp rfl) rvN) trivial trivial rfl rfl rfl rfl (.free rfl)

/- impl.AnswerIn -/

set_option maxRecDepth 4000 in
set_option maxHeartbeats 800000 in
theorem wi_AnswerIn (p0 : MZone) (p1 : Quest) (r0 : List Rec) (h : i_AnswerIn p0 p1 = some r0) : Runs Tryz.prog 47 [.agg (mZoneV p0), .agg (questV p1)] [] (.own 48 6 (List.map recV r0)) [] := by
  unfold i_AnswerIn at h
  refine runsR [.tmp 4] Tryz.func47 rfl rfl rfl rfl ?_
  rw [Tryz.ntmps47]
  refine tri_seq ?_
  refine tri_region ?_
  refine s_box rfl rfl rfl rfl rfl rfl rfl ?_
  refine s_box rfl rfl rfl rfl rfl rfl rfl ?_
  refine s_mv (.inr rfl) (v := .nils) rfl rfl rfl rfl ?_
  refine rt_nil ?_
  refine tri_seq ?_
  refine tri_seq ?_
  refine tri_region ?_
  refine s_loadR rfl rfl rfl rfl ty83 rfl rfl rfl ?_
  refine s_loadR rfl rfl rfl rfl ty36 rfl rfl rfl ?_
  refine bnd1_elim h fun x1 q2 h => ?_
  refine s_callN (kb := []) (ns := []) (v := .sc (.int .i64 x1)) rfl rfl cl46 (wi_KindIn p0 p1 x1 q2) rfl (.cons (relAgg rfl) (.cons (relAgg rfl) .nil)) trivial memNil .nil memNil rfl trivial memNil rfl rfl rfl rfl rfl rfl ?_
  refine rt_nil ?_
  refine tri_block ?_
  refine tri_seq ?_
  refine tri_region ?_
  refine s_of (st_eqI rfl rfl rfl) rfl rfl rfl rfl ?_
  refine s_mv (.inr rfl) (by conv => lhs; whnf) rfl rfl rfl ?_
  refine rt_nil ?_
  refine tri_cond rfl (fun c3 => ?_) (fun c3 => ?_)
  · replace h := cond_t h c3
    refine tri_seq ?_
    refine tri_region ?_
    refine s_fieldAddr rfl rfl fd83_1 rfl rfl rfl rfl ?_
    refine s_load rfl rfl rfl rfl ty24 rfl (.inr rfl) (by conv => lhs; whnf) rfl rfl rfl ?_
    refine s_fieldAddr rfl rfl fd36_0 rfl rfl rfl rfl ?_
    refine s_load rfl rfl rfl rfl ty9 rfl (.inr rfl) (by conv => lhs; whnf) rfl rfl rfl ?_
    refine bnd1_elim h fun x4 q5 h => ?_
    refine s_callN (kb := []) (ns := []) (v := .ref (14, 0) 0 x4.length) rfl rfl cl95 (wi_SetOf p0.l p1.name 5 x4 q5) rfl (.cons (.free rfl) (.cons (.free rfl) (.cons (.free rfl) .nil))) trivial memNil .nil memNil rfl ⟨(allSc_map recV_sc), trivial⟩ memNil rfl (by first | (simp only [V.mat, V.mat1, V.mat0, matL, matT, List.length_map]; done) | (simp only [V.mat, V.mat1, V.mat0, matL, matT, List.length_map]; rfl)) rfl rfl rfl rfl ?_
    refine s_mv (.inr rfl) (by conv => lhs; whnf) rfl rfl rfl ?_
    refine rt_nil ?_
    refine tri_ret ?_
    have e0 := (some1 h); subst e0
    exact endY (v' := .ref (2000, 0) 0 x4.length) [((2000, 0), ⟨48, 6, List.map recV x4, false, true⟩, some (14, 0))] [] (rvC (resTmp rfl) rvN) ⟨⟨rfl, _, rfl, rfl, rfl, rfl, id, rowsCv_eq rfl (allFree_map recV_free), rowsZ_map recV_len⟩, trivial⟩ trivial rfl rfl (by kernel_rfl) (by first | (simp only [V.mat, V.mat1, V.mat0, matL, matT, List.length_map]; done) | (simp only [V.mat, V.mat1, V.mat0, matL, matT, List.length_map]; rfl)) (.ref rfl)
  · replace h := cond_f h c3
    refine tri_seq ?_
    refine tri_region ?_
    refine s_of (st_eqI rfl rfl rfl) rfl rfl rfl rfl ?_
    refine s_mv (.inr rfl) (by conv => lhs; whnf) rfl rfl rfl ?_
    refine rt_nil ?_
    refine tri_cond rfl (fun c6 => ?_) (fun c6 => ?_)
    · replace h := cond_t h c6
      refine tri_seq ?_
      refine tri_region ?_
      refine s_fieldAddr rfl rfl fd83_1 rfl rfl rfl rfl ?_
      refine s_load rfl rfl rfl rfl ty24 rfl (.inr rfl) (by conv => lhs; whnf) rfl rfl rfl ?_
      refine s_fieldAddr rfl rfl fd36_0 rfl rfl rfl rfl ?_
      refine s_load rfl rfl rfl rfl ty9 rfl (.inr rfl) (by conv => lhs; whnf) rfl rfl rfl ?_
      refine s_fieldAddr rfl rfl fd36_1 rfl rfl rfl rfl ?_
      refine s_load rfl rfl rfl rfl ty3 rfl (.inr rfl) (by conv => lhs; whnf) rfl rfl rfl ?_
      refine bnd1_elim h fun x7 q8 h => ?_
      refine s_callN (kb := []) (ns := []) (v := .ref (23, 0) 0 x7.length) rfl rfl cl95 (wi_SetOf p0.l p1.name p1.ty x7 q8) rfl (.cons (.free rfl) (.cons (.free rfl) (.cons (.free rfl) .nil))) trivial memNil .nil memNil rfl ⟨(allSc_map recV_sc), trivial⟩ memNil rfl (by first | (simp only [V.mat, V.mat1, V.mat0, matL, matT, List.length_map]; done) | (simp only [V.mat, V.mat1, V.mat0, matL, matT, List.length_map]; rfl)) rfl rfl rfl rfl ?_
      refine s_mv (.inr rfl) (by conv => lhs; whnf) rfl rfl rfl ?_
      refine rt_nil ?_
      refine tri_ret ?_
      have e0 := (some1 h); subst e0
      exact endY (v' := .ref (2000, 0) 0 x7.length) [((2000, 0), ⟨48, 6, List.map recV x7, false, true⟩, some (23, 0))] [] (rvC (resTmp rfl) rvN) ⟨⟨rfl, _, rfl, rfl, rfl, rfl, id, rowsCv_eq rfl (allFree_map recV_free), rowsZ_map recV_len⟩, trivial⟩ trivial rfl rfl (by kernel_rfl) (by first | (simp only [V.mat, V.mat1, V.mat0, matL, matT, List.length_map]; done) | (simp only [V.mat, V.mat1, V.mat0, matL, matT, List.length_map]; rfl)) (.ref rfl)
    · replace h := cond_f h c6
      refine tri_skip ?_
      refine tri_seq ?_
      refine tri_region ?_
      refine s_mv (.inr rfl) (v := .nils) rfl rfl rfl rfl ?_
      refine rt_nil ?_
      refine tri_ret ?_
      have e0 := (some1 h); subst e0
      exact endY (v' := .ref (2000, 0) 0 (([] : List Rec).length)) [((2000, 0), ⟨48, 6, List.map recV ([] : List Rec), false, true⟩, none)] [] (rvC (resTmp rfl) rvN) ⟨rfl, trivial⟩ trivial rfl rfl (by kernel_rfl) (by first | (simp only [V.mat, V.mat1, V.mat0, matL, matT, List.length_map]; done) | (simp only [V.mat, V.mat1, V.mat0, matL, matT, List.length_map]; rfl)) (.nilRef rfl)

/- impl.some -/

set_option maxRecDepth 4000 in
set_option maxHeartbeats 800000 in
theorem wi_some (p0 : List Rec) (r0 : List Rec) (h : i_some p0 = some r0) : Runs Tryz.prog 131 [.lst 6 (List.map recV p0)] [] (.lst 6 (List.map recV r0)) [] := by
  unfold i_some at h
  refine runsR [.tmp 2] Tryz.func131 rfl rfl rfl rfl ?_
  rw [Tryz.ntmps131]
  refine tri_seq ?_
  refine tri_region ?_
  refine s_mv (.inr rfl) (v := .nils) rfl rfl rfl rfl ?_
  refine rt_nil ?_
  refine tri_seq ?_
  refine tri_region ?_
  refine s_mv (.inl rfl) (by conv => lhs; whnf) rfl rfl rfl ?_
  refine s_mv (.inl rfl) (by conv => lhs; whnf) rfl rfl rfl ?_
  refine s_lenL rfl sl24 rfl rfl rfl rfl ?_
  refine s_of (st_minI rfl rfl rfl) rfl rfl rfl rfl ?_
  refine grd_elim h fun g1 h => ?_
  refine s_sliceFZ (a := ((0 : Nat) : Int)) (b := (if 8 < (p0.length : Int) then 8 else (p0.length : Int))) rfl rfl sl24 rfl ⟨_, rfl⟩ g1 rfl rfl rfl ?_
  refine s_mv (.inr rfl) (by conv => lhs; whnf) rfl rfl rfl ?_
  refine rt_nil ?_
  refine tri_ret ?_
  have e0 := (some1 h); subst e0
  exact endY [] [] (rvC (resTmp rfl) rvN) trivial trivial rfl rfl rfl rfl (.free rfl)

/- impl.firstOf -/
def inv_i_firstOf_1 (p0 : List Rec) (p1 : Int) (v1_0 : Nat) : St := mkT 20 [(1, .sc (.int .i64 p1)), (4, .ptr (4, 0) 0 0), (7, .lst 6 (List.map recV p0)), (8, .sc (.int .i64 (p0.length : Int))), (9, .sc (.int .i64 (v1_0 : Int)))] [((4, 0), some ⟨48, 6, [[.sc (.string (⟨#[]⟩ : ByteArray)), .sc (.int .i64 0), .sc (.int .i64 0), .sc (.int .i64 0), .sc (.string (⟨#[]⟩ : ByteArray)), .sc (.string (⟨#[]⟩ : ByteArray))]], false, true⟩)]
def inv_i_firstOf_0  : St := mkT 20 [(4, .ptr (4, 0) 0 0)] [((4, 0), some ⟨48, 6, [[.sc (.string (⟨#[]⟩ : ByteArray)), .sc (.int .i64 0), .sc (.int .i64 0), .sc (.int .i64 0), .sc (.string (⟨#[]⟩ : ByteArray)), .sc (.string (⟨#[]⟩ : ByteArray))]], false, true⟩)]
set_option maxRecDepth 4000 in
set_option maxHeartbeats 800000 in
theorem wi_firstOf (p0 : List Rec) (p1 : Int) (r0 : Rec) (h : i_firstOf p0 p1 = some r0) : Runs Tryz.prog 182 [.lst 6 (List.map recV p0), .sc (.int .i64 p1)] [] (.agg (recV r0)) [] := by
  unfold i_firstOf at h
  refine runsR [.cell 4 48] Tryz.func182 rfl rfl rfl rfl ?_
  rw [Tryz.ntmps182]
  refine tri_seq ?_
  refine tri_region ?_
  refine s_alloc rfl rfl rfl zc48 rfl rfl rfl rfl rfl ?_
  refine rt_nil ?_
  refine tri_cutI (ι := { p : Unit // i_firstOf_j0 = some r0 }) (fun p => inv_i_firstOf_0) ?_ ?_
  · skip
    refine tri_seq ?_
    refine tri_region ?_
    refine s_mv (.inl rfl) (by conv => lhs; whnf) rfl rfl rfl ?_
    refine s_lenL rfl sl24 rfl rfl rfl rfl ?_
    refine s_mv (.inl rfl) (v := .sc (.int .i64 0)) rfl rfl rfl rfl ?_
    refine rt_nil ?_
    refine tri_block ?_
    refine tri_lstM 0 rfl (fun hl1 => ?_)
    refine tri_loop (ι := { p : (List Rec) × Nat // p0.drop p.2 = p.1 ∧ i_firstOf_l1 p1 p.1 p.2 = some r0 }) (fun p => inv_i_firstOf_1 p0 p1 p.1.2) (fun p => p.1.1.length) ⟨(p0, 0), rfl, h⟩ ?_ ?_
    · skip
      refine entX [((4, 0), ⟨48, 6, [[.sc (.string (⟨#[]⟩ : ByteArray)), .sc (.int .i64 0), .sc (.int .i64 0), .sc (.int .i64 0), .sc (.string (⟨#[]⟩ : ByteArray)), .sc (.string (⟨#[]⟩ : ByteArray))]], false, true⟩, some (4, 0))] [] ⟨⟨rfl, _, rfl, rfl, rfl, rfl, id, rowsCv_one (.cons (.free rfl) (.cons (.free rfl) (.cons (.free rfl) (.cons (.free rfl) (.cons (.free rfl) (.cons (.free rfl) .nil)))))), rowsZ_one rfl⟩, trivial⟩ trivial rfl rfl ?_
      exact ⟨(.free rfl), (.ptr rfl), (.free rfl), (.free rfl), (.free rfl), trivial⟩
    · rintro ⟨⟨lrs1, v1_0⟩, hd1, h⟩
      replace hd1 : p0.drop v1_0 = lrs1 := hd1
      replace h : i_firstOf_l1 p1 lrs1 v1_0 = some r0 := h
      show Tri _ _ _ (inv_i_firstOf_1 p0 p1 v1_0)
      refine tri_seq ?_
      refine tri_region ?_
      refine s_of (st_lss rfl rfl rfl) rfl rfl rfl rfl ?_
      refine rt_nil ?_
      refine tri_seq ?_
      refine tri_cond rfl (fun c1 => ?_) (fun c1 => ?_)
      · refine drop_elim hd1 c1 fun e1 rs1 he hx1 hn1 => ?_
        subst he
        rw [i_firstOf_l1] at h
        refine tri_skip ?_
        refine tri_seq ?_
        refine tri_block ?_
        refine tri_seq ?_
        refine tri_region ?_
        refine s_indexF (i := v1_0) rfl rfl rfl sl24 (get_ltM hx1) rfl rfl rfl ?_
        refine s_loadFR rfl rfl (rowG hx1) ty48 rfl rfl rfl ?_
        refine s_alloc rfl rfl rfl zc48 rfl rfl rfl rfl rfl ?_
        refine s_storeB rfl rfl rfl ty48 rfl rfl rfl rfl rfl ?_
        refine rt_nil ?_
        refine tri_seq ?_
        refine tri_region ?_
        refine s_fieldAddr rfl rfl fd48_1 rfl rfl rfl rfl ?_
        refine s_load rfl rfl rfl rfl ty3 rfl (.inr rfl) (by conv => lhs; whnf) rfl rfl rfl ?_
        refine s_mv (.inl rfl) (by conv => lhs; whnf) rfl rfl rfl ?_
        refine s_of (st_eqI rfl rfl rfl) rfl rfl rfl rfl ?_
        refine rt_nil ?_
        refine tri_cond rfl (fun c2 => ?_) (fun c2 => ?_)
        · replace h := cond_t h c2
          refine tri_seq ?_
          refine tri_region ?_
          refine s_loadR rfl rfl rfl rfl ty48 rfl rfl rfl ?_
          refine s_storeB rfl rfl rfl ty48 rfl rfl rfl rfl rfl ?_
          refine rt_nil ?_
          refine tri_ret ?_
          have e0 := (some1 h); subst e0
          exact endY [] [] (rvC (resCell rfl rfl ty48) rvN) trivial trivial rfl rfl rfl rfl (cvAgg rfl)
        · replace h := cond_f h c2
          refine tri_skip ?_
          refine tri_region ?_
          refine s_inc (a := v1_0) (b := 1) rfl rfl rfl rfl (by have := get_lt hx1; have := hl1; omega) rfl rfl rfl ?_
          refine s_mv (.inl rfl) (by conv => lhs; whnf) rfl rfl rfl ?_
          refine rt_nil ?_
          refine Exists.intro ⟨(rs1, (v1_0 + 1)), hn1, h⟩ (And.intro (Nat.lt_succ_self _) ?_)
          refine entX [((4, 0), ⟨48, 6, [[.sc (.string (⟨#[]⟩ : ByteArray)), .sc (.int .i64 0), .sc (.int .i64 0), .sc (.int .i64 0), .sc (.string (⟨#[]⟩ : ByteArray)), .sc (.string (⟨#[]⟩ : ByteArray))]], false, true⟩, some (4, 0))] [] ⟨⟨rfl, _, rfl, rfl, rfl, rfl, id, rowsCv_one (.cons (.free rfl) (.cons (.free rfl) (.cons (.free rfl) (.cons (.free rfl) (.cons (.free rfl) (.cons (.free rfl) .nil)))))), rowsZ_one rfl⟩, trivial⟩ trivial rfl rfl ?_
          exact ⟨(.free rfl), (.ptr rfl), (.free rfl), (.free rfl), (.free rfl), trivial⟩
      · have he := drop_f hd1 c1; subst he
        rw [i_firstOf_l1] at h
        refine tri_exit ?_
        refine Exists.intro ⟨(), h⟩ ?_
        refine entX [((4, 0), ⟨48, 6, [[.sc (.string (⟨#[]⟩ : ByteArray)), .sc (.int .i64 0), .sc (.int .i64 0), .sc (.int .i64 0), .sc (.string (⟨#[]⟩ : ByteArray)), .sc (.string (⟨#[]⟩ : ByteArray))]], false, true⟩, some (4, 0))] [] ⟨⟨rfl, _, rfl, rfl, rfl, rfl, id, rowsCv_one (.cons (.free rfl) (.cons (.free rfl) (.cons (.free rfl) (.cons (.free rfl) (.cons (.free rfl) (.cons (.free rfl) .nil)))))), rowsZ_one rfl⟩, trivial⟩ trivial rfl rfl ?_
        exact ⟨(.ptr rfl), trivial⟩
  · rintro ⟨u, h⟩
    replace h : i_firstOf_j0 = some r0 := h
    unfold i_firstOf_j0 at h
    show Tri _ _ _ (inv_i_firstOf_0)
    refine tri_seq ?_
    refine tri_region ?_
    refine s_build (cells' := [.sc (.string (⟨#[]⟩ : ByteArray)), .sc (.int .i64 0), .sc (.int .i64 0), .sc (.int .i64 0), .sc (.string (⟨#[]⟩ : ByteArray)), .sc (.string (⟨#[]⟩ : ByteArray))]) rfl stc48 rfl rfl rfl rfl rfl rfl rfl ?_
    refine s_storeB rfl rfl rfl ty48 rfl rfl rfl rfl rfl ?_
    refine rt_nil ?_
    refine tri_ret ?_
    have e0 := (some1 h); subst e0
    exact endY [] [] (rvC (resCell rfl rfl ty48) rvN) trivial trivial rfl rfl rfl rfl (cvAgg rfl)

/- impl.StartOf -/

set_option maxRecDepth 4000 in
set_option maxHeartbeats 800000 in
theorem wi_StartOf (p0 : MZone) (r0 : Rec) (h : i_StartOf p0 = some r0) : Runs Tryz.prog 165 [.agg (mZoneV p0)] [] (.agg (recV r0)) [] := by
  unfold i_StartOf at h
  refine runsR [.cell 2 48] Tryz.func165 rfl rfl rfl rfl ?_
  rw [Tryz.ntmps165]
  refine tri_seq ?_
  refine tri_region ?_
  refine s_box rfl rfl rfl rfl rfl rfl rfl ?_
  refine s_alloc rfl rfl rfl zc48 rfl rfl rfl rfl rfl ?_
  refine rt_nil ?_
  refine tri_seq ?_
  refine tri_region ?_
  refine s_fieldAddr rfl rfl fd83_1 rfl rfl rfl rfl ?_
  refine s_load rfl rfl rfl rfl ty24 rfl (.inr rfl) (by conv => lhs; whnf) rfl rfl rfl ?_
  refine bnd1_elim h fun x1 q2 h => ?_
  refine s_callN (kb := []) (ns := []) (v := .agg (recV x1)) rfl rfl cl182 (wi_firstOf p0.l 6 x1 q2) rfl (.cons (.free rfl) (.cons (.free rfl) .nil)) trivial memNil .nil memNil rfl trivial memNil rfl rfl rfl rfl rfl rfl ?_
  refine s_storeB rfl rfl rfl ty48 rfl rfl rfl rfl rfl ?_
  refine rt_nil ?_
  refine tri_ret ?_
  have e0 := (some1 h); subst e0
  exact endY [] [] (rvC (resCell rfl rfl ty48) rvN) trivial trivial rfl rfl rfl rfl (cvAgg rfl)

/- impl.MoreIn -/
def inv_i_MoreIn_0 (p0 : MZone) (j0_0 : Bool) : St := mkT 29 [(2, .ptr (2, 0) 0 0), (23, .sc (.bool j0_0))] [((2, 0), some ⟨83, 2, [[.sc (.string p0.apex), .lst 6 (List.map recV p0.l)]], false, true⟩)]
set_option maxRecDepth 4000 in
set_option maxHeartbeats 800000 in
theorem wi_MoreIn (p0 : MZone) (p1 : Quest) (r0 : List Rec) (h : i_MoreIn p0 p1 = some r0) : Runs Tryz.prog 132 [.agg (mZoneV p0), .agg (questV p1)] [] (.own 48 6 (List.map recV r0)) [] := by
  unfold i_MoreIn at h
  refine runsR [.tmp 4] Tryz.func132 rfl rfl rfl rfl ?_
  rw [Tryz.ntmps132]
  refine tri_seq ?_
  refine tri_region ?_
  refine s_box rfl rfl rfl rfl rfl rfl rfl ?_
  refine s_box rfl rfl rfl rfl rfl rfl rfl ?_
  refine s_mv (.inr rfl) (v := .nils) rfl rfl rfl rfl ?_
  refine rt_nil ?_
  refine tri_seq ?_
  refine tri_seq ?_
  refine tri_region ?_
  refine s_loadR rfl rfl rfl rfl ty83 rfl rfl rfl ?_
  refine s_loadR rfl rfl rfl rfl ty36 rfl rfl rfl ?_
  refine bnd1_elim h fun x1 q2 h => ?_
  refine s_callN (kb := []) (ns := []) (v := .sc (.int .i64 x1)) rfl rfl cl46 (wi_KindIn p0 p1 x1 q2) rfl (.cons (relAgg rfl) (.cons (relAgg rfl) .nil)) trivial memNil .nil memNil rfl trivial memNil rfl rfl rfl rfl rfl rfl ?_
  refine rt_nil ?_
  refine tri_block ?_
  refine tri_seq ?_
  refine tri_region ?_
  refine s_of (st_eqI rfl rfl rfl) rfl rfl rfl rfl ?_
  refine s_mv (.inr rfl) (by conv => lhs; whnf) rfl rfl rfl ?_
  refine rt_nil ?_
  refine tri_cond rfl (fun c3 => ?_) (fun c3 => ?_)
  · replace h := cond_t h c3
    refine tri_seq ?_
    refine tri_region ?_
    refine s_loadR rfl rfl rfl rfl ty83 rfl rfl rfl ?_
    refine s_fieldAddr rfl rfl fd36_0 rfl rfl rfl rfl ?_
    refine s_load rfl rfl rfl rfl ty9 rfl (.inr rfl) (by conv => lhs; whnf) rfl rfl rfl ?_
    refine bnd2_elim h fun x4 x5 q6 h => ?_
    refine s_callN (kb := []) (ns := []) (v := .tup [.sc (.string x4), .sc (.bool x5)]) rfl rfl cl93 (wi_CutOf p0 p1.name x4 x5 q6) rfl (.cons (relAgg rfl) (.cons (.free rfl) .nil)) trivial memNil .nil memNil rfl trivial memNil rfl rfl rfl rfl rfl rfl ?_
    refine s_mv (.inl rfl) (by conv => lhs; whnf) rfl rfl rfl ?_
    refine s_extract rfl rfl rfl rfl rfl rfl ?_
    refine s_extract rfl rfl rfl rfl rfl rfl ?_
    refine s_mv (.inr rfl) (by conv => lhs; whnf) rfl rfl rfl ?_
    refine s_mv (.inr rfl) (by conv => lhs; whnf) rfl rfl rfl ?_
    refine rt_nil ?_
    refine tri_seq ?_
    refine tri_region ?_
    refine s_fieldAddr rfl rfl fd83_1 rfl rfl rfl rfl ?_
    refine s_load rfl rfl rfl rfl ty24 rfl (.inr rfl) (by conv => lhs; whnf) rfl rfl rfl ?_
    refine s_mv (.inl rfl) (by conv => lhs; whnf) rfl rfl rfl ?_
    refine bnd1_elim h fun x7 q8 h => ?_
    refine s_callN (kb := []) (ns := []) (v := .ref (22, 0) 0 x7.length) rfl rfl cl95 (wi_SetOf p0.l x4 2 x7 q8) rfl (.cons (.free rfl) (.cons (.free rfl) (.cons (.free rfl) .nil))) trivial memNil .nil memNil rfl ⟨(allSc_map recV_sc), trivial⟩ memNil rfl (by first | (simp only [V.mat, V.mat1, V.mat0, matL, matT, List.length_map]; done) | (simp only [V.mat, V.mat1, V.mat0, matL, matT, List.length_map]; rfl)) rfl rfl rfl rfl ?_
    refine s_mv (.inr rfl) (by conv => lhs; whnf) rfl rfl rfl ?_
    refine rt_nil ?_
    refine tri_ret ?_
    have e0 := (some1 h); subst e0
    exact endY (v' := .ref (2000, 0) 0 x7.length) [((2000, 0), ⟨48, 6, List.map recV x7, false, true⟩, some (22, 0))] [] (rvC (resTmp rfl) rvN) ⟨⟨rfl, _, rfl, rfl, rfl, rfl, id, rowsCv_eq rfl (allFree_map recV_free), rowsZ_map recV_len⟩, trivial⟩ trivial rfl rfl (by kernel_rfl) (by first | (simp only [V.mat, V.mat1, V.mat0, matL, matT, List.length_map]; done) | (simp only [V.mat, V.mat1, V.mat0, matL, matT, List.length_map]; rfl)) (.ref rfl)
  · replace h := cond_f h c3
    refine tri_cutI (ι := { p : Bool // i_MoreIn_j0 p0 p = some r0 }) (fun p => inv_i_MoreIn_0 p0 p.1) ?_ ?_
    · skip
      refine tri_seq ?_
      refine tri_region ?_
      refine s_of (st_eqI rfl rfl rfl) rfl rfl rfl rfl ?_
      refine s_mv (.inr rfl) (by conv => lhs; whnf) rfl rfl rfl ?_
      refine rt_nil ?_
      refine tri_cond rfl (fun c9 => ?_) (fun c9 => ?_)
      · replace h := cond_t h c9
        refine tri_skip ?_
        refine Exists.intro ⟨decide (x1 = 4), h⟩ ?_
        refine entX [((2, 0), ⟨83, 2, [[.sc (.string p0.apex), .lst 6 (List.map recV p0.l)]], false, true⟩, some (2, 0))] [] ⟨⟨rfl, _, rfl, rfl, rfl, rfl, id, rowsCv_one (.cons (.free rfl) (.cons (.free rfl) .nil)), rowsZ_one rfl⟩, trivial⟩ trivial rfl rfl ?_
        exact ⟨(.ptr rfl), (.free rfl), trivial⟩
      · replace h := cond_f h c9
        refine tri_region ?_
        refine s_of (st_eqI rfl rfl rfl) rfl rfl rfl rfl ?_
        refine s_mv (.inr rfl) (by conv => lhs; whnf) rfl rfl rfl ?_
        refine rt_nil ?_
        refine Exists.intro ⟨decide (x1 = 5), h⟩ ?_
        refine entX [((2, 0), ⟨83, 2, [[.sc (.string p0.apex), .lst 6 (List.map recV p0.l)]], false, true⟩, some (2, 0))] [] ⟨⟨rfl, _, rfl, rfl, rfl, rfl, id, rowsCv_one (.cons (.free rfl) (.cons (.free rfl) .nil)), rowsZ_one rfl⟩, trivial⟩ trivial rfl rfl ?_
        exact ⟨(.ptr rfl), (.free rfl), trivial⟩
    · rintro ⟨j0_0, h⟩
      replace h : i_MoreIn_j0 p0 j0_0 = some r0 := h
      unfold i_MoreIn_j0 at h
      show Tri _ _ _ (inv_i_MoreIn_0 p0 j0_0)
      refine tri_cond rfl (fun c9 => ?_) (fun c9 => ?_)
      · replace h := cond_t h c9
        refine tri_seq ?_
        refine tri_region ?_
        refine s_loadR rfl rfl rfl rfl ty83 rfl rfl rfl ?_
        refine bnd1_elim h fun x10 q11 h => ?_
        refine s_callN (kb := []) (ns := []) (v := .agg (recV x10)) rfl rfl cl165 (wi_StartOf p0 x10 q11) rfl (.cons (relAgg rfl) .nil) trivial memNil .nil memNil rfl trivial memNil rfl rfl rfl rfl rfl rfl ?_
        refine s_buildSlice (rows' := List.map recV [x10]) rfl rfl rfl sl24 zc48 rfl rfl rfl rfl rfl rfl rfl rfl rfl ?_
        refine s_mv (.inr rfl) (by conv => lhs; whnf) rfl rfl rfl ?_
        refine rt_nil ?_
        refine tri_ret ?_
        have e0 := (some1 h); subst e0
        exact endY (v' := .ref (2000, 0) 0 ([x10].length)) [((2000, 0), ⟨48, 6, List.map recV [x10], false, true⟩, some (28, 0))] [] (rvC (resTmp rfl) rvN) ⟨⟨rfl, _, rfl, rfl, rfl, rfl, id, rowsCv_eq rfl (allFree_map recV_free), rowsZ_map recV_len⟩, trivial⟩ trivial rfl rfl (by kernel_rfl) (by first | (simp only [V.mat, V.mat1, V.mat0, matL, matT, List.length_map]; done) | (simp only [V.mat, V.mat1, V.mat0, matL, matT, List.length_map]; rfl)) (.ref rfl)
      · replace h := cond_f h c9
        refine tri_skip ?_
        refine tri_seq ?_
        refine tri_region ?_
        refine s_mv (.inr rfl) (v := .nils) rfl rfl rfl rfl ?_
        refine rt_nil ?_
        refine tri_ret ?_
        have e0 := (some1 h); subst e0
        exact endY (v' := .ref (2000, 0) 0 (([] : List Rec).length)) [((2000, 0), ⟨48, 6, List.map recV ([] : List Rec), false, true⟩, none)] [] (rvC (resTmp rfl) rvN) ⟨rfl, trivial⟩ trivial rfl rfl (by kernel_rfl) (by first | (simp only [V.mat, V.mat1, V.mat0, matL, matT, List.length_map]; done) | (simp only [V.mat, V.mat1, V.mat0, matL, matT, List.length_map]; rfl)) (.nilRef rfl)

/- impl.Hosts -/
def inv_i_Hosts_1 (p0 : List Rec) (v0_0 : List ByteArray) (v0_1 : Nat) (e0 : Rec) (j1_0 : Bool) : St := mkT 30 [(3, .ref (2003, 0) 0 v0_0.length), (5, .ptr (5, 0) 0 0), (7, .lst 6 (List.map recV p0)), (8, .sc (.int .i64 (p0.length : Int))), (9, .sc (.int .i64 (v0_1 : Int))), (22, .sc (.bool j1_0))] [((2003, 0), some ⟨9, 1, List.map strV v0_0, false, true⟩), ((5, 0), some ⟨48, 6, [[.sc (.string e0.name), .sc (.int .i64 e0.ty), .sc (.int .i64 e0.ttl), .sc (.int .i64 e0.n), .sc (.string e0.host), .sc (.string e0.text)]], false, true⟩)]
def inv_i_Hosts_0 (p0 : List Rec) (v0_0 : List ByteArray) (v0_1 : Nat) : St := mkT 30 [(3, .ref (2003, 0) 0 v0_0.length), (7, .lst 6 (List.map recV p0)), (8, .sc (.int .i64 (p0.length : Int))), (9, .sc (.int .i64 (v0_1 : Int)))] [((2003, 0), some ⟨9, 1, List.map strV v0_0, false, true⟩)]
set_option maxRecDepth 4000 in
set_option maxHeartbeats 800000 in
theorem wi_Hosts (p0 : List Rec) (r0 : List ByteArray) (h : i_Hosts p0 = some r0) : Runs Tryz.prog 167 [.lst 6 (List.map recV p0)] [] (.own 9 1 (List.map strV r0)) [] := by
  unfold i_Hosts at h
  refine runsR [.tmp 2] Tryz.func167 rfl rfl rfl rfl ?_
  rw [Tryz.ntmps167]
  refine tri_seq ?_
  refine tri_region ?_
  refine s_mv (.inr rfl) (v := .nils) rfl rfl rfl rfl ?_
  refine rt_nil ?_
  refine tri_seq ?_
  refine tri_region ?_
  refine s_buildSlice (rows' := List.map strV ([] : List ByteArray)) rfl rfl rfl sl112 zc9 rfl rfl rfl rfl rfl rfl rfl rfl rfl ?_
  refine s_mv (.inr rfl) (by conv => lhs; whnf) rfl rfl rfl ?_
  refine rt_nil ?_
  refine tri_seq ?_
  refine tri_seq ?_
  refine tri_region ?_
  refine s_mv (.inl rfl) (by conv => lhs; whnf) rfl rfl rfl ?_
  refine s_lenL rfl sl24 rfl rfl rfl rfl ?_
  refine s_mv (.inl rfl) (v := .sc (.int .i64 0)) rfl rfl rfl rfl ?_
  refine rt_nil ?_
  refine tri_block ?_
  refine tri_lstM 0 rfl (fun hl0 => ?_)
  refine tri_loop (ι := { p : (List Rec) × (List ByteArray) × Nat // p0.drop p.2.2 = p.1 ∧ i_Hosts_l0 p.1 p.2.1 p.2.2 = some r0 }) (fun p => inv_i_Hosts_0 p0 p.1.2.1 p.1.2.2) (fun p => p.1.1.length) ⟨(p0, ([] : List ByteArray), 0), rfl, h⟩ ?_ ?_
  · skip
    refine entX [((2003, 0), ⟨9, 1, List.map strV ([] : List ByteArray), false, true⟩, some (6, 0))] [] ⟨⟨rfl, _, rfl, rfl, rfl, rfl, id, rowsCv_eq rfl (allFree_map strV_free), rowsZ_map strV_len⟩, trivial⟩ trivial rfl rfl ?_
    exact ⟨(.ref rfl), (.free rfl), (.free rfl), (.free rfl), trivial⟩
  · rintro ⟨⟨lrs0, v0_0, v0_1⟩, hd0, h⟩
    replace hd0 : p0.drop v0_1 = lrs0 := hd0
    replace h : i_Hosts_l0 lrs0 v0_0 v0_1 = some r0 := h
    show Tri _ _ _ (inv_i_Hosts_0 p0 v0_0 v0_1)
    refine tri_seq ?_
    refine tri_region ?_
    refine s_of (st_lss rfl rfl rfl) rfl rfl rfl rfl ?_
    refine rt_nil ?_
    refine tri_seq ?_
    refine tri_cond rfl (fun c1 => ?_) (fun c1 => ?_)
    · refine drop_elim hd0 c1 fun e0 rs0 he hx0 hn0 => ?_
      subst he
      rw [i_Hosts_l0] at h
      refine tri_skip ?_
      refine tri_seq ?_
      refine tri_block ?_
      refine tri_seq ?_
      refine tri_region ?_
      refine s_indexF (i := v0_1) rfl rfl rfl sl24 (get_ltM hx0) rfl rfl rfl ?_
      refine s_loadFR rfl rfl (rowG hx0) ty48 rfl rfl rfl ?_
      refine s_alloc rfl rfl rfl zc48 rfl rfl rfl rfl rfl ?_
      refine s_storeB rfl rfl rfl ty48 rfl rfl rfl rfl rfl ?_
      refine rt_nil ?_
      refine tri_cutI (ι := { p : Bool // i_Hosts_j1 v0_0 v0_1 e0 (i_Hosts_l0 rs0) p = some r0 }) (fun p => inv_i_Hosts_1 p0 v0_0 v0_1 e0 p.1) ?_ ?_
      · skip
        refine tri_region ?_
        refine s_fieldAddr rfl rfl fd48_1 rfl rfl rfl rfl ?_
        refine s_load rfl rfl rfl rfl ty3 rfl (.inr rfl) (by conv => lhs; whnf) rfl rfl rfl ?_
        refine s_of (st_eqI rfl rfl rfl) rfl rfl rfl rfl ?_
        refine s_mv (.inl rfl) (by conv => lhs; whnf) rfl rfl rfl ?_
        refine s_split (t := 16) rfl (fun b2 => ?_) (fun b2 => ?_)
        · replace h := cond_t h b2
          refine s_mv (.inl rfl) (by conv => lhs; whnf) rfl rfl rfl ?_
          refine s_fieldAddr rfl rfl fd48_4 rfl rfl rfl rfl ?_
          refine s_load rfl rfl rfl rfl ty9 rfl (.inr rfl) (by conv => lhs; whnf) rfl rfl rfl ?_
          refine bnd1_elim h fun x3 q4 h => ?_
          refine s_callN (kb := [(2003, 0)]) (ns := []) (v := .sc (.bool x3)) rfl rfl cl169 (wslices_Contains_string v0_0 e0.host x3 q4) rfl (.cons (lendL rfl (.head _) rfl strV_free strV_len) (.cons (.free rfl) .nil)) trivial memNil .nil (fun _ _ => List.not_mem_nil) rfl trivial memNil rfl rfl rfl rfl rfl rfl ?_
          refine s_of (st_not rfl rfl) rfl rfl rfl rfl ?_
          refine s_pickT rfl rfl (by conv => lhs; whnf) rfl rfl rfl ?_
          refine rt_nil ?_
          refine Exists.intro ⟨!x3, h⟩ ?_
          refine entX [((2003, 0), ⟨9, 1, List.map strV v0_0, false, true⟩, some (2003, 0)), ((5, 0), ⟨48, 6, [[.sc (.string e0.name), .sc (.int .i64 e0.ty), .sc (.int .i64 e0.ttl), .sc (.int .i64 e0.n), .sc (.string e0.host), .sc (.string e0.text)]], false, true⟩, some (5, 0))] [] ⟨⟨rfl, _, rfl, rfl, rfl, rfl, id, rowsCv_eq rfl (allFree_map strV_free), rowsZ_map strV_len⟩, ⟨rfl, _, rfl, rfl, rfl, rfl, id, rowsCv_one (.cons (.free rfl) (.cons (.free rfl) (.cons (.free rfl) (.cons (.free rfl) (.cons (.free rfl) (.cons (.free rfl) .nil)))))), rowsZ_one rfl⟩, trivial⟩ trivial rfl rfl ?_
          exact ⟨(.ref rfl), (.ptr rfl), (.free rfl), (.free rfl), (.free rfl), (.free rfl), trivial⟩
        · replace h := cond_f h b2
          refine s_skip rfl rfl rfl ?_
          refine s_skip rfl rfl rfl ?_
          refine s_skip rfl rfl rfl ?_
          refine s_skip rfl rfl rfl ?_
          refine s_skip rfl rfl rfl ?_
          refine s_pickF rfl rfl (v := .sc (.bool false)) rfl rfl rfl rfl ?_
          refine rt_nil ?_
          refine Exists.intro ⟨false, h⟩ ?_
          refine entX [((2003, 0), ⟨9, 1, List.map strV v0_0, false, true⟩, some (2003, 0)), ((5, 0), ⟨48, 6, [[.sc (.string e0.name), .sc (.int .i64 e0.ty), .sc (.int .i64 e0.ttl), .sc (.int .i64 e0.n), .sc (.string e0.host), .sc (.string e0.text)]], false, true⟩, some (5, 0))] [] ⟨⟨rfl, _, rfl, rfl, rfl, rfl, id, rowsCv_eq rfl (allFree_map strV_free), rowsZ_map strV_len⟩, ⟨rfl, _, rfl, rfl, rfl, rfl, id, rowsCv_one (.cons (.free rfl) (.cons (.free rfl) (.cons (.free rfl) (.cons (.free rfl) (.cons (.free rfl) (.cons (.free rfl) .nil)))))), rowsZ_one rfl⟩, trivial⟩ trivial rfl rfl ?_
          exact ⟨(.ref rfl), (.ptr rfl), (.free rfl), (.free rfl), (.free rfl), (.free rfl), trivial⟩
      · rintro ⟨j1_0, h⟩
        replace h : i_Hosts_j1 v0_0 v0_1 e0 (i_Hosts_l0 rs0) j1_0 = some r0 := h
        unfold i_Hosts_j1 at h
        show Tri _ _ _ (inv_i_Hosts_1 p0 v0_0 v0_1 e0 j1_0)
        refine tri_cond rfl (fun c2 => ?_) (fun c2 => ?_)
        · replace h := cond_t h c2
          refine tri_region ?_
          refine s_mv (.inl rfl) (by conv => lhs; whnf) rfl rfl rfl ?_
          refine s_fieldAddr rfl rfl fd48_4 rfl rfl rfl rfl ?_
          refine s_load rfl rfl rfl rfl ty9 rfl (.inr rfl) (by conv => lhs; whnf) rfl rfl rfl ?_
          refine s_buildSlice (rows' := List.map strV [e0.host]) rfl rfl rfl sl112 zc9 rfl rfl rfl rfl rfl rfl rfl rfl rfl ?_
          refine grd_elim h fun g3 h => ?_
          refine s_appL rfl rfl rfl sl112 zc9 rfl rfl rfl rfl rfl rfl (src_refL rfl rfl) g3 rfl rfl ?_
          refine s_mv (.inr rfl) (by conv => lhs; whnf) rfl rfl rfl ?_
          refine rt_nil ?_
          refine tri_region ?_
          refine s_inc (a := v0_1) (b := 1) rfl rfl rfl rfl (by have := get_lt hx0; have := hl0; omega) rfl rfl rfl ?_
          refine s_mv (.inl rfl) (by conv => lhs; whnf) rfl rfl rfl ?_
          refine rt_nil ?_
          refine Exists.intro ⟨(rs0, v0_0 ++ [e0.host], (v0_1 + 1)), hn0, h⟩ (And.intro (Nat.lt_succ_self _) ?_)
          refine entX [((2003, 0), ⟨9, 1, List.map strV (v0_0 ++ [e0.host]), false, true⟩, some (27, 0))] [] ⟨⟨rfl, _, rfl, rfl, rfl, rfl, id, rowsCv_eq rfl (allFree_map strV_free), rowsZ_map strV_len⟩, trivial⟩ trivial rfl rfl ?_
          exact ⟨(.ref rfl), (.free rfl), (.free rfl), (.free rfl), trivial⟩
        · replace h := cond_f h c2
          refine tri_skip ?_
          refine tri_region ?_
          refine s_inc (a := v0_1) (b := 1) rfl rfl rfl rfl (by have := get_lt hx0; have := hl0; omega) rfl rfl rfl ?_
          refine s_mv (.inl rfl) (by conv => lhs; whnf) rfl rfl rfl ?_
          refine rt_nil ?_
          refine Exists.intro ⟨(rs0, v0_0, (v0_1 + 1)), hn0, h⟩ (And.intro (Nat.lt_succ_self _) ?_)
          refine entX [((2003, 0), ⟨9, 1, List.map strV v0_0, false, true⟩, some (2003, 0))] [] ⟨⟨rfl, _, rfl, rfl, rfl, rfl, id, rowsCv_eq rfl (allFree_map strV_free), rowsZ_map strV_len⟩, trivial⟩ trivial rfl rfl ?_
          exact ⟨(.ref rfl), (.free rfl), (.free rfl), (.free rfl), trivial⟩
    · have he := drop_f hd0 c1; subst he
      rw [i_Hosts_l0] at h
      refine tri_exit ?_
      refine tri_seq ?_
      refine tri_region ?_
      refine s_mv (.inl rfl) (by conv => lhs; whnf) rfl rfl rfl ?_
      refine s_mv (.inr rfl) (by conv => lhs; whnf) rfl rfl rfl ?_
      refine rt_nil ?_
      refine tri_ret ?_
      have e0 := (some1 h); subst e0
      exact endY (v' := .ref (2000, 0) 0 v0_0.length) [((2000, 0), ⟨9, 1, List.map strV v0_0, false, true⟩, some (2003, 0))] [] (rvC (resTmp rfl) rvN) ⟨⟨rfl, _, rfl, rfl, rfl, rfl, id, rowsCv_eq rfl (allFree_map strV_free), rowsZ_map strV_len⟩, trivial⟩ trivial rfl rfl (by kernel_rfl) (by first | (simp only [V.mat, V.mat1, V.mat0, matL, matT, List.length_map]; done) | (simp only [V.mat, V.mat1, V.mat0, matL, matT, List.length_map]; rfl)) (.ref rfl)

/- impl.Glue -/
def inv_i_Glue_0 (p0 : MZone) (p1 : List ByteArray) (v0_0 : List Rec) (v0_1 : Nat) : St := mkT 23 [(2, .ptr (2, 0) 0 0), (5, .ref (2005, 0) 0 v0_0.length), (9, .lst 1 (List.map strV p1)), (10, .sc (.int .i64 (p1.length : Int))), (11, .sc (.int .i64 (v0_1 : Int)))] [((2, 0), some ⟨83, 2, [[.sc (.string p0.apex), .lst 6 (List.map recV p0.l)]], false, true⟩), ((2005, 0), some ⟨48, 6, List.map recV v0_0, false, true⟩)]
set_option maxRecDepth 4000 in
set_option maxHeartbeats 800000 in
theorem wi_Glue (p0 : MZone) (p1 : List ByteArray) (r0 : List Rec) (h : i_Glue p0 p1 = some r0) : Runs Tryz.prog 166 [.agg (mZoneV p0), .lst 1 (List.map strV p1)] [] (.own 48 6 (List.map recV r0)) [] := by
  unfold i_Glue at h
  refine runsR [.tmp 4] Tryz.func166 rfl rfl rfl rfl ?_
  rw [Tryz.ntmps166]
  refine tri_seq ?_
  refine tri_region ?_
  refine s_box rfl rfl rfl rfl rfl rfl rfl ?_
  refine s_mv (.inr rfl) (v := .nils) rfl rfl rfl rfl ?_
  refine rt_nil ?_
  refine tri_seq ?_
  refine tri_region ?_
  refine s_buildSlice (rows' := List.map recV ([] : List Rec)) rfl rfl rfl sl24 zc48 rfl rfl rfl rfl rfl rfl rfl rfl rfl ?_
  refine s_mv (.inr rfl) (by conv => lhs; whnf) rfl rfl rfl ?_
  refine rt_nil ?_
  refine tri_seq ?_
  refine tri_seq ?_
  refine tri_region ?_
  refine s_mv (.inl rfl) (by conv => lhs; whnf) rfl rfl rfl ?_
  refine s_lenL rfl sl112 rfl rfl rfl rfl ?_
  refine s_mv (.inl rfl) (v := .sc (.int .i64 0)) rfl rfl rfl rfl ?_
  refine rt_nil ?_
  refine tri_block ?_
  refine tri_lstM 1 rfl (fun hl0 => ?_)
  refine tri_loop (ι := { p : (List ByteArray) × (List Rec) × Nat // p1.drop p.2.2 = p.1 ∧ i_Glue_l0 p0 p.1 p.2.1 p.2.2 = some r0 }) (fun p => inv_i_Glue_0 p0 p1 p.1.2.1 p.1.2.2) (fun p => p.1.1.length) ⟨(p1, ([] : List Rec), 0), rfl, h⟩ ?_ ?_
  · skip
    refine entX [((2, 0), ⟨83, 2, [[.sc (.string p0.apex), .lst 6 (List.map recV p0.l)]], false, true⟩, some (2, 0)), ((2005, 0), ⟨48, 6, List.map recV ([] : List Rec), false, true⟩, some (8, 0))] [] ⟨⟨rfl, _, rfl, rfl, rfl, rfl, id, rowsCv_one (.cons (.free rfl) (.cons (.free rfl) .nil)), rowsZ_one rfl⟩, ⟨rfl, _, rfl, rfl, rfl, rfl, id, rowsCv_eq rfl (allFree_map recV_free), rowsZ_map recV_len⟩, trivial⟩ trivial rfl rfl ?_
    exact ⟨(.ptr rfl), (.ref rfl), (.free rfl), (.free rfl), (.free rfl), trivial⟩
  · rintro ⟨⟨lrs0, v0_0, v0_1⟩, hd0, h⟩
    replace hd0 : p1.drop v0_1 = lrs0 := hd0
    replace h : i_Glue_l0 p0 lrs0 v0_0 v0_1 = some r0 := h
    show Tri _ _ _ (inv_i_Glue_0 p0 p1 v0_0 v0_1)
    refine tri_seq ?_
    refine tri_region ?_
    refine s_of (st_lss rfl rfl rfl) rfl rfl rfl rfl ?_
    refine rt_nil ?_
    refine tri_seq ?_
    refine tri_cond rfl (fun c1 => ?_) (fun c1 => ?_)
    · refine drop_elim hd0 c1 fun e0 rs0 he hx0 hn0 => ?_
      subst he
      rw [i_Glue_l0] at h
      refine tri_skip ?_
      refine tri_seq ?_
      refine tri_block ?_
      refine tri_seq ?_
      refine tri_region ?_
      refine s_indexF (i := v0_1) rfl rfl rfl sl112 (get_ltM hx0) rfl rfl rfl ?_
      refine s_loadF rfl rfl (rowG hx0) ty9 rfl (.inr rfl) (by conv => lhs; whnf) rfl rfl rfl ?_
      refine s_mv (.inr rfl) (by conv => lhs; whnf) rfl rfl rfl ?_
      refine rt_nil ?_
      refine tri_region ?_
      refine s_mv (.inl rfl) (by conv => lhs; whnf) rfl rfl rfl ?_
      refine s_fieldAddr rfl rfl fd83_1 rfl rfl rfl rfl ?_
      refine s_load rfl rfl rfl rfl ty24 rfl (.inr rfl) (by conv => lhs; whnf) rfl rfl rfl ?_
      refine s_mv (.inl rfl) (by conv => lhs; whnf) rfl rfl rfl ?_
      refine bnd1_elim h fun x2 q3 h => ?_
      refine s_callN (kb := []) (ns := []) (v := .ref (19, 0) 0 x2.length) rfl rfl cl95 (wi_SetOf p0.l e0 1 x2 q3) rfl (.cons (.free rfl) (.cons (.free rfl) (.cons (.free rfl) .nil))) trivial memNil .nil memNil rfl ⟨(allSc_map recV_sc), trivial⟩ memNil rfl (by first | (simp only [V.mat, V.mat1, V.mat0, matL, matT, List.length_map]; done) | (simp only [V.mat, V.mat1, V.mat0, matL, matT, List.length_map]; rfl)) rfl rfl rfl rfl ?_
      refine grd_elim h fun g4 h => ?_
      refine s_appL rfl rfl rfl sl24 zc48 rfl rfl rfl rfl rfl rfl (src_refL rfl rfl) g4 rfl rfl ?_
      refine s_mv (.inr rfl) (by conv => lhs; whnf) rfl rfl rfl ?_
      refine rt_nil ?_
      refine tri_region ?_
      refine s_inc (a := v0_1) (b := 1) rfl rfl rfl rfl (by have := get_lt hx0; have := hl0; omega) rfl rfl rfl ?_
      refine s_mv (.inl rfl) (by conv => lhs; whnf) rfl rfl rfl ?_
      refine rt_nil ?_
      refine Exists.intro ⟨(rs0, v0_0 ++ x2, (v0_1 + 1)), hn0, h⟩ (And.intro (Nat.lt_succ_self _) ?_)
      refine entX [((2, 0), ⟨83, 2, [[.sc (.string p0.apex), .lst 6 (List.map recV p0.l)]], false, true⟩, some (2, 0)), ((2005, 0), ⟨48, 6, List.map recV (v0_0 ++ x2), false, true⟩, some (20, 0))] [] ⟨⟨rfl, _, rfl, rfl, rfl, rfl, id, rowsCv_one (.cons (.free rfl) (.cons (.free rfl) .nil)), rowsZ_one rfl⟩, ⟨rfl, _, rfl, rfl, rfl, rfl, id, rowsCv_eq rfl (allFree_map recV_free), rowsZ_map recV_len⟩, trivial⟩ trivial rfl rfl ?_
      exact ⟨(.ptr rfl), (.ref rfl), (.free rfl), (.free rfl), (.free rfl), trivial⟩
    · have he := drop_f hd0 c1; subst he
      rw [i_Glue_l0] at h
      refine tri_exit ?_
      refine tri_seq ?_
      refine tri_region ?_
      refine s_mv (.inl rfl) (by conv => lhs; whnf) rfl rfl rfl ?_
      refine s_mv (.inr rfl) (by conv => lhs; whnf) rfl rfl rfl ?_
      refine rt_nil ?_
      refine tri_ret ?_
      have e0 := (some1 h); subst e0
      exact endY (v' := .ref (2000, 0) 0 v0_0.length) [((2000, 0), ⟨48, 6, List.map recV v0_0, false, true⟩, some (2005, 0))] [] (rvC (resTmp rfl) rvN) ⟨⟨rfl, _, rfl, rfl, rfl, rfl, id, rowsCv_eq rfl (allFree_map recV_free), rowsZ_map recV_len⟩, trivial⟩ trivial rfl rfl (by kernel_rfl) (by first | (simp only [V.mat, V.mat1, V.mat0, matL, matT, List.length_map]; done) | (simp only [V.mat, V.mat1, V.mat0, matL, matT, List.length_map]; rfl)) (.ref rfl)

/- impl.HelpIn -/

set_option maxRecDepth 4000 in
set_option maxHeartbeats 800000 in
theorem wi_HelpIn (p0 : MZone) (p1 : Quest) (r0 : List Rec) (h : i_HelpIn p0 p1 = some r0) : Runs Tryz.prog 133 [.agg (mZoneV p0), .agg (questV p1)] [] (.own 48 6 (List.map recV r0)) [] := by
  unfold i_HelpIn at h
  refine runsR [.tmp 4] Tryz.func133 rfl rfl rfl rfl ?_
  rw [Tryz.ntmps133]
  refine tri_seq ?_
  refine tri_region ?_
  refine s_box rfl rfl rfl rfl rfl rfl rfl ?_
  refine s_box rfl rfl rfl rfl rfl rfl rfl ?_
  refine s_mv (.inr rfl) (v := .nils) rfl rfl rfl rfl ?_
  refine rt_nil ?_
  refine tri_seq ?_
  refine tri_seq ?_
  refine tri_region ?_
  refine s_loadR rfl rfl rfl rfl ty83 rfl rfl rfl ?_
  refine s_loadR rfl rfl rfl rfl ty36 rfl rfl rfl ?_
  refine bnd1_elim h fun x1 q2 h => ?_
  refine s_callN (kb := []) (ns := []) (v := .sc (.int .i64 x1)) rfl rfl cl46 (wi_KindIn p0 p1 x1 q2) rfl (.cons (relAgg rfl) (.cons (relAgg rfl) .nil)) trivial memNil .nil memNil rfl trivial memNil rfl rfl rfl rfl rfl rfl ?_
  refine s_of (st_neI rfl rfl rfl) rfl rfl rfl rfl ?_
  refine rt_nil ?_
  refine tri_cond rfl (fun c3 => ?_) (fun c3 => ?_)
  · replace h := cond_t h c3
    refine tri_seq ?_
    refine tri_region ?_
    refine s_mv (.inr rfl) (v := .nils) rfl rfl rfl rfl ?_
    refine rt_nil ?_
    refine tri_ret ?_
    have e0 := (some1 h); subst e0
    exact endY (v' := .ref (2000, 0) 0 (([] : List Rec).length)) [((2000, 0), ⟨48, 6, List.map recV ([] : List Rec), false, true⟩, none)] [] (rvC (resTmp rfl) rvN) ⟨rfl, trivial⟩ trivial rfl rfl (by kernel_rfl) (by first | (simp only [V.mat, V.mat1, V.mat0, matL, matT, List.length_map]; done) | (simp only [V.mat, V.mat1, V.mat0, matL, matT, List.length_map]; rfl)) (.nilRef rfl)
  · replace h := cond_f h c3
    refine tri_skip ?_
    refine tri_seq ?_
    refine tri_draw mixed ?_
    refine s_loadR rfl rfl rfl rfl ty83 rfl rfl rfl ?_
    refine s_loadR rfl rfl rfl rfl ty83 rfl rfl rfl ?_
    refine s_loadR rfl rfl rfl rfl ty36 rfl rfl rfl ?_
    refine bnd1_elim h fun x4 q5 h => ?_
    refine s_callN (kb := []) (ns := []) (v := .ref (12, 0) 0 x4.length) rfl rfl cl132 (wi_MoreIn p0 p1 x4 q5) rfl (.cons (relAgg rfl) (.cons (relAgg rfl) .nil)) trivial memNil .nil memNil rfl ⟨(allSc_map recV_sc), trivial⟩ memNil rfl (by first | (simp only [V.mat, V.mat1, V.mat0, matL, matT, List.length_map]; done) | (simp only [V.mat, V.mat1, V.mat0, matL, matT, List.length_map]; rfl)) rfl rfl rfl rfl ?_
    refine bnd1_elim h fun x6 q7 h => ?_
    refine s_callN (kb := [(12, 0)]) (ns := []) (v := .ref (13, 0) 0 x6.length) rfl rfl cl167 (wi_Hosts x4 x6 q7) rfl (.cons (lendL rfl (.head _) rfl recV_free recV_len) .nil) trivial memNil .nil (fun _ _ => List.not_mem_nil) rfl ⟨(allSc_map strV_sc), trivial⟩ memNil rfl (by first | (simp only [V.mat, V.mat1, V.mat0, matL, matT, List.length_map]; done) | (simp only [V.mat, V.mat1, V.mat0, matL, matT, List.length_map]; rfl)) rfl rfl rfl rfl ?_
    refine bnd1_elim h fun x8 q9 h => ?_
    refine s_callN (kb := [(13, 0)]) (ns := []) (v := .ref (14, 0) 0 x8.length) rfl rfl cl166 (wi_Glue p0 x6 x8 q9) rfl (.cons (relAgg rfl) (.cons (lendL rfl (.head _) rfl strV_free strV_len) .nil)) trivial memNil .nil (fun _ _ => List.not_mem_nil) rfl ⟨(allSc_map recV_sc), trivial⟩ memNil rfl (by first | (simp only [V.mat, V.mat1, V.mat0, matL, matT, List.length_map]; done) | (simp only [V.mat, V.mat1, V.mat0, matL, matT, List.length_map]; rfl)) rfl rfl rfl rfl ?_
    refine s_mv (.inr rfl) (by conv => lhs; whnf) rfl rfl rfl ?_
    refine rt_nil ⟨by kernel_rfl, ?_⟩
    refine tri_ret ?_
    have e0 := (some1 h); subst e0
    exact endY (v' := .ref (2000, 0) 0 x8.length) [((2000, 0), ⟨48, 6, List.map recV x8, false, true⟩, some (14, 0))] [] (rvC (resTmp rfl) rvN) ⟨⟨rfl, _, rfl, rfl, rfl, rfl, id, rowsCv_eq rfl (allFree_map recV_free), rowsZ_map recV_len⟩, trivial⟩ trivial rfl rfl (by kernel_rfl) (by first | (simp only [V.mat, V.mat1, V.mat0, matL, matT, List.length_map]; done) | (simp only [V.mat, V.mat1, V.mat0, matL, matT, List.length_map]; rfl)) (.ref rfl)

end Go.Abs.M
