/- Walks of the functions that the law of FnClassesBent reaches: what each of them computes, where its pure function does not fail. -/
import Derived.Test.YtbkmnbpgpklojaaDoorWalkFnClassesBent1
set_option linter.unusedSimpArgs false
set_option linter.unusedVariables false
namespace Go.Abs.M
open Go Go.Abs Go.Proofs
theorem cl101 : callable Tryd.prog 101 = true := by kernel_rfl
theorem cl102 : callable Tryd.prog 102 = true := by kernel_rfl
theorem cl138 : callable Tryd.prog 138 = true := by kernel_rfl
theorem cl151 : callable Tryd.prog 151 = true := by kernel_rfl
theorem cl17 : callable Tryd.prog 17 = true := by kernel_rfl
theorem cl180 : callable Tryd.prog 180 = true := by kernel_rfl
theorem cl181 : callable Tryd.prog 181 = true := by kernel_rfl
theorem cl186 : callable Tryd.prog 186 = true := by kernel_rfl
theorem cl208 : callable Tryd.prog 208 = true := by kernel_rfl
theorem cl209 : callable Tryd.prog 209 = true := by kernel_rfl
theorem cl21 : callable Tryd.prog 21 = true := by kernel_rfl
theorem cl221 : callable Tryd.prog 221 = true := by kernel_rfl
theorem cl226 : callable Tryd.prog 226 = true := by kernel_rfl
theorem cl28 : callable Tryd.prog 28 = true := by kernel_rfl
theorem cl77 : callable Tryd.prog 77 = true := by kernel_rfl
theorem cl78 : callable Tryd.prog 78 = true := by kernel_rfl
theorem cl79 : callable Tryd.prog 79 = true := by kernel_rfl
theorem cl81 : callable Tryd.prog 81 = true := by kernel_rfl
theorem cl82 : callable Tryd.prog 82 = true := by kernel_rfl
theorem cl88 : callable Tryd.prog 88 = true := by kernel_rfl
theorem cl96 : callable Tryd.prog 96 = true := by kernel_rfl
theorem cl97 : callable Tryd.prog 97 = true := by kernel_rfl
/- spec.l14Reply -/
def inv_s_l14Reply_0  (j0_0 : List Int) (j0_1 : Int) (j0_2 : Int) (j0_3 : Int) (j0_4 : Bool) (j0_5 : Bool) (j0_6 : Bool) (j0_7 : Bool) (j0_8 : Bool) (j0_9 : Int) (j0_10 : ByteArray) (j0_11 : Int) (j0_12 : List Rec) (j0_13 : List Rec) (j0_14 : List Rec) : St := mkT 64 [(0, .ptr (1000, 0) 0 0), (2, .ptr (2, 0) 0 0), (5, .ptr (5, 0) 0 0)] [((1000, 0), some ⟨136, 3, [[.lst 1 (List.map byteV j0_0), .sc (.int .i64 j0_1), .sc (.int .i64 j0_2)]], false, false⟩), ((2, 0), some ⟨50, 12, [[.sc (.int .i64 0), .sc (.bool false), .sc (.bool false), .sc (.bool false), .sc (.bool false), .sc (.bool false), .sc (.int .i64 0), .sc (.string (⟨#[]⟩ : ByteArray)), .sc (.int .i64 0), .nils, .nils, .nils]], false, true⟩), ((5, 0), some ⟨50, 12, [[.sc (.int .i64 j0_3), .sc (.bool j0_4), .sc (.bool j0_5), .sc (.bool j0_6), .sc (.bool j0_7), .sc (.bool j0_8), .sc (.int .i64 j0_9), .sc (.string j0_10), .sc (.int .i64 j0_11), .ref (2005, 10) 0 j0_12.length, .ref (2005, 11) 0 j0_13.length, .ref (2005, 12) 0 j0_14.length]], false, true⟩), ((2005, 10), some ⟨39, 6, List.map recV j0_12, false, true⟩), ((2005, 11), some ⟨39, 6, List.map recV j0_13, false, true⟩), ((2005, 12), some ⟨39, 6, List.map recV j0_14, false, true⟩)]
set_option maxRecDepth 4000 in
set_option maxHeartbeats 800000 in
theorem ws_l14Reply (p0 : Cur) (r0 : MMsg) (r1 : ByteArray) (r2 : Cur) (h : s_l14Reply p0 = some (r0, r1, r2)) : Runs Tryd.prog 138 [.ptr (1000, 0) 0 0] [⟨136, 3, [[.lst 1 (List.map byteV p0.b), .sc (.int .i64 p0.i), .sc (.int .i64 p0.h)]], false, false⟩] (.tup [.agg [.sc (.int .i64 r0.id), .sc (.bool r0.reply), .sc (.bool r0.auth), .sc (.bool r0.cut), .sc (.bool r0.want), .sc (.bool r0.can), .sc (.int .i64 r0.code), .sc (.string r0.q.name), .sc (.int .i64 r0.q.ty), .own 39 6 (List.map recV r0.an), .own 39 6 (List.map recV r0.au), .own 39 6 (List.map recV r0.ad)], .sc (.string r1)]) [⟨136, 3, [[.lst 1 (List.map byteV r2.b), .sc (.int .i64 r2.i), .sc (.int .i64 r2.h)]], false, false⟩] := by
 unfold s_l14Reply at h
 refine runsR [.cell 2 50, .tmp 3] Tryd.func138 rfl rfl rfl rfl ?_
 rw [Tryd.ntmps138]
 refine tri_sr ?_
 refine s_alloc rfl rfl rfl zc50 rfl rfl rfl rfl rfl ?_
 refine s_mv (.inr rfl) (v := .sc (.string (⟨#[]⟩ : ByteArray))) rfl rfl rfl rfl ?_
 refine rt_nil ?_
 refine tri_sr ?_
 refine m1 ?_
 refine bnd2_elim h fun x1 x2 q3 h => ?_
 refine s_callZ (kb := []) (ns := [(1000, 0)]) (v := .agg [.ref (7, 0) 0 x1.zones.length, .ref (7, 1) 0 x1.posts.length]) rfl rfl cl101 (ws_l12Draw p0 x1 x2 q3) rfl (.cons (.ptrOwn rfl) .nil) ⟨⟨_, rfl, rfl⟩, trivial⟩ (memCons (allFree_one rfl) memNil) (List.nodup_cons.2 ⟨List.not_mem_nil, .nil⟩) memNil trivial rfl ⟨(allFree_map mZoneV_free), ⟨(allFree_map mPostV_free), trivial⟩⟩ (memCons (allFree_one rfl) memNil) rfl (by simp only [V.mat, V.mat1, V.mat0, matL, matT, List.length_map] <;> rfl) rfl rfl rfl rfl ?_
 refine s_alloc rfl rfl rfl zc45 rfl rfl rfl rfl rfl ?_
 refine s_storeB rfl rfl rfl ty45 rfl rfl rfl rfl rfl ?_
 refine rt_nil ?_
 refine tri_seq ?_
 refine tri_draw mixed ?_
 refine s_loadR rfl rfl rfl rfl ty45 rfl rfl rfl ?_
 refine m1 ?_
 refine s_buildSlice (rows' := List.map intV [2, 2, 2, 3, 4]) rfl rfl rfl sl76 zc3 rfl rfl rfl rfl rfl rfl rfl rfl rfl ?_
 refine bnd2_elim h fun x4 x5 q6 h => ?_
 refine s_callZ (kb := [(10, 0)]) (ns := [(1000, 0)]) (v := .sc (.int .i64 x4)) rfl rfl cl140 (ws_l1Int x2 [2, 2, 2, 3, 4] x4 x5 q6) rfl (.cons (.ptrOwn rfl) (.cons (lendL rfl (.head _) rfl intV_free intV_len) .nil)) ⟨⟨_, rfl, rfl⟩, trivial⟩ (memCons (allFree_one rfl) memNil) (List.nodup_cons.2 ⟨List.not_mem_nil, .nil⟩) (by decide) ⟨⟨_, rfl, rfl⟩, trivial⟩ rfl trivial (memCons (allFree_one rfl) memNil) rfl rfl rfl rfl rfl rfl ?_
 refine m1 ?_
 refine bnd2_elim h fun x7 x8 q9 h => ?_
 refine s_callZ (kb := []) (ns := [(1000, 0)]) (v := .sc (.int .i64 x7)) rfl rfl cl116 (ws_l1Below x5 9 x7 x8 q9) rfl (.cons (.ptrOwn rfl) (.cons (.free rfl) .nil)) ⟨⟨_, rfl, rfl⟩, trivial⟩ (memCons (allFree_one rfl) memNil) (List.nodup_cons.2 ⟨List.not_mem_nil, .nil⟩) memNil trivial rfl trivial (memCons (allFree_one rfl) memNil) rfl rfl rfl rfl rfl rfl ?_
 refine m1 ?_
 refine bnd2_elim h fun x10 x11 q12 h => ?_
 refine s_callZ (kb := []) (ns := [(1000, 0)]) (v := .agg (questV x10)) rfl rfl cl102 (ws_l12Quest x8 x10 x11 q12) rfl (.cons (.ptrOwn rfl) .nil) ⟨⟨_, rfl, rfl⟩, trivial⟩ (memCons (allFree_one rfl) memNil) (List.nodup_cons.2 ⟨List.not_mem_nil, .nil⟩) memNil trivial rfl trivial (memCons (allFree_one rfl) memNil) rfl rfl rfl rfl rfl rfl ?_
 refine bnd1_elim h fun x13 q14 h => ?_
 refine s_callN (kb := []) (ns := []) (v := .agg [.sc (.int .i64 x13.id), .sc (.bool x13.reply), .sc (.bool x13.auth), .sc (.bool x13.cut), .sc (.bool x13.want), .sc (.bool x13.can), .sc (.int .i64 x13.code), .sc (.string x13.q.name), .sc (.int .i64 x13.q.ty), .ref (16, 9) 0 x13.an.length, .ref (16, 10) 0 x13.au.length, .ref (16, 11) 0 x13.ad.length]) rfl rfl cl133 (ws_AskMsg x7 x10 x13 q14) rfl (.cons (.free rfl) (.cons (relAgg rfl) .nil)) trivial memNil .nil memNil rfl ⟨(allSc_map recV_sc), ⟨(allSc_map recV_sc), ⟨(allSc_map recV_sc), trivial⟩⟩⟩ memNil rfl (by simp only [V.mat, V.mat1, V.mat0, matL, matT, List.length_map] <;> rfl) rfl rfl rfl rfl ?_
 refine bnd1_elim h fun x15 q16 h => ?_
 refine s_callN (kb := [(7, 0), (7, 1), (16, 9), (16, 10), (16, 11)]) (ns := []) (v := .agg [.sc (.int .i64 x15.id), .sc (.bool x15.reply), .sc (.bool x15.auth), .sc (.bool x15.cut), .sc (.bool x15.want), .sc (.bool x15.can), .sc (.int .i64 x15.code), .sc (.string x15.q.name), .sc (.int .i64 x15.q.ty), .ref (17, 9) 0 x15.an.length, .ref (17, 10) 0 x15.au.length, .ref (17, 11) 0 x15.ad.length]) rfl rfl cl180 (ws_ReplyAt x1 x4 x13 x15 q16) rfl (.cons (relAggL (.cons (lendL rfl (.head _) rfl mZoneV_free mZoneV_len) (.cons (lendL rfl (.tail _ (.head _)) rfl mPostV_free mPostV_len) .nil))) (.cons (.free rfl) (.cons (relAggL (.cons (.free rfl) (.cons (.free rfl) (.cons (.free rfl) (.cons (.free rfl) (.cons (.free rfl) (.cons (.free rfl) (.cons (.free rfl) (.cons (.free rfl) (.cons (.free rfl) (.cons (lendL rfl (.tail _ (.tail _ (.head _))) rfl recV_free recV_len) (.cons (lendL rfl (.tail _ (.tail _ (.tail _ (.head _)))) rfl recV_free recV_len) (.cons (lendL rfl (.tail _ (.tail _ (.tail _ (.tail _ (.head _))))) rfl recV_free recV_len) .nil))))))))))))) .nil))) trivial memNil .nil (fun _ _ => List.not_mem_nil) rfl ⟨(allSc_map recV_sc), ⟨(allSc_map recV_sc), ⟨(allSc_map recV_sc), trivial⟩⟩⟩ memNil rfl (by simp only [V.mat, V.mat1, V.mat0, matL, matT, List.length_map] <;> rfl) rfl rfl rfl rfl ?_
 refine s_alloc rfl rfl rfl zc50 rfl rfl rfl rfl rfl ?_
 refine s_storeB rfl rfl rfl ty50 rfl rfl rfl rfl rfl ?_
 refine rt_nil ⟨by kernel_rfl, ?_⟩
 refine tri_cutI (ι := { p : (List Int) × Int × Int × Int × Bool × Bool × Bool × Bool × Bool × Int × ByteArray × Int × (List Rec) × (List Rec) × (List Rec) // s_l14Reply_j0 p.1 p.2.1 p.2.2.1 p.2.2.2.1 p.2.2.2.2.1 p.2.2.2.2.2.1 p.2.2.2.2.2.2.1 p.2.2.2.2.2.2.2.1 p.2.2.2.2.2.2.2.2.1 p.2.2.2.2.2.2.2.2.2.1 p.2.2.2.2.2.2.2.2.2.2.1 p.2.2.2.2.2.2.2.2.2.2.2.1 p.2.2.2.2.2.2.2.2.2.2.2.2.1 p.2.2.2.2.2.2.2.2.2.2.2.2.2.1 p.2.2.2.2.2.2.2.2.2.2.2.2.2.2 = some (r0, r1, r2) }) (fun p => inv_s_l14Reply_0 p.1.1 p.1.2.1 p.1.2.2.1 p.1.2.2.2.1 p.1.2.2.2.2.1 p.1.2.2.2.2.2.1 p.1.2.2.2.2.2.2.1 p.1.2.2.2.2.2.2.2.1 p.1.2.2.2.2.2.2.2.2.1 p.1.2.2.2.2.2.2.2.2.2.1 p.1.2.2.2.2.2.2.2.2.2.2.1 p.1.2.2.2.2.2.2.2.2.2.2.2.1 p.1.2.2.2.2.2.2.2.2.2.2.2.2.1 p.1.2.2.2.2.2.2.2.2.2.2.2.2.2.1 p.1.2.2.2.2.2.2.2.2.2.2.2.2.2.2) ?_ ?_
 ·skip
  refine tri_sr ?_
  refine m1 ?_
  refine bnd2_elim h fun x17 x18 q19 h => ?_
  refine s_callZ (kb := []) (ns := [(1000, 0)]) (v := .sc (.int .i64 x17)) rfl rfl cl116 (ws_l1Below x11 10 x17 x18 q19) rfl (.cons (.ptrOwn rfl) (.cons (.free rfl) .nil)) ⟨⟨_, rfl, rfl⟩, trivial⟩ (memCons (allFree_one rfl) memNil) (List.nodup_cons.2 ⟨List.not_mem_nil, .nil⟩) memNil trivial rfl trivial (memCons (allFree_one rfl) memNil) rfl rfl rfl rfl rfl rfl ?_
  refine rt_nil ?_
  refine tri_block ?_
  refine tri_sr ?_
  refine s_of (st_eqI rfl rfl rfl) rfl rfl rfl rfl ?_
  refine m2 ?_
  refine rt_nil ?_
  refine tri_cond rfl (fun c20 => ?_) (fun c20 => ?_)
  ·replace h := cond_t h c20
   refine tri_region ?_
   refine s_fieldAddr rfl rfl fd50_2 rfl rfl rfl rfl ?_
   refine s_load rfl rfl rfl rfl ty4 rfl (.inr rfl) (by conv => lhs; whnf) rfl rfl rfl ?_
   refine s_of (st_not rfl rfl) rfl rfl rfl rfl ?_
   refine s_fieldAddr rfl rfl fd50_2 rfl rfl rfl rfl ?_
   refine s_store (rows' := [[.sc (.int .i64 x15.id), .sc (.bool x15.reply), .sc (.bool (!x15.auth)), .sc (.bool x15.cut), .sc (.bool x15.want), .sc (.bool x15.can), .sc (.int .i64 x15.code), .sc (.string x15.q.name), .sc (.int .i64 x15.q.ty), .ref (17, 9) 0 x15.an.length, .ref (17, 10) 0 x15.au.length, .ref (17, 11) 0 x15.ad.length]]) rfl rfl rfl rfl ty4 rfl rfl rfl rfl rfl rfl ?_
   refine rt_nil ?_
   refine Exists.intro ⟨(x18.b, x18.i, x18.h, x15.id, x15.reply, !x15.auth, x15.cut, x15.want, x15.can, x15.code, x15.q.name, x15.q.ty, x15.an, x15.au, x15.ad), h⟩ ?_
   refine entX [((1000, 0), ⟨136, 3, [[.lst 1 (List.map byteV x18.b), .sc (.int .i64 x18.i), .sc (.int .i64 x18.h)]], false, false⟩, some (1000, 0)), ((2, 0), ⟨50, 12, [[.sc (.int .i64 0), .sc (.bool false), .sc (.bool false), .sc (.bool false), .sc (.bool false), .sc (.bool false), .sc (.int .i64 0), .sc (.string (⟨#[]⟩ : ByteArray)), .sc (.int .i64 0), .nils, .nils, .nils]], false, true⟩, some (2, 0)), ((5, 0), ⟨50, 12, [[.sc (.int .i64 x15.id), .sc (.bool x15.reply), .sc (.bool (!x15.auth)), .sc (.bool x15.cut), .sc (.bool x15.want), .sc (.bool x15.can), .sc (.int .i64 x15.code), .sc (.string x15.q.name), .sc (.int .i64 x15.q.ty), .ref (2005, 10) 0 x15.an.length, .ref (2005, 11) 0 x15.au.length, .ref (2005, 12) 0 x15.ad.length]], false, true⟩, some (5, 0)), ((2005, 10), ⟨39, 6, List.map recV x15.an, false, true⟩, some (17, 9)), ((2005, 11), ⟨39, 6, List.map recV x15.au, false, true⟩, some (17, 10)), ((2005, 12), ⟨39, 6, List.map recV x15.ad, false, true⟩, some (17, 11))] [] ⟨⟨rfl, _, rfl, rfl, rfl, rfl, id, rowsCv_one (.cons (.free rfl) (.cons (.free rfl) (.cons (.free rfl) .nil))), rowsZ_one rfl⟩, ⟨rfl, _, rfl, rfl, rfl, rfl, id, rowsCv_one (.cons (.free rfl) (.cons (.free rfl) (.cons (.free rfl) (.cons (.free rfl) (.cons (.free rfl) (.cons (.free rfl) (.cons (.free rfl) (.cons (.free rfl) (.cons (.free rfl) (.cons (.free rfl) (.cons (.free rfl) (.cons (.free rfl) .nil)))))))))))), rowsZ_one rfl⟩, ⟨rfl, _, rfl, rfl, rfl, rfl, id, rowsCv_one (.cons (.free rfl) (.cons (.free rfl) (.cons (.free rfl) (.cons (.free rfl) (.cons (.free rfl) (.cons (.free rfl) (.cons (.free rfl) (.cons (.free rfl) (.cons (.free rfl) (.cons (.ref rfl) (.cons (.ref rfl) (.cons (.ref rfl) .nil)))))))))))), rowsZ_one rfl⟩, ⟨rfl, _, rfl, rfl, rfl, rfl, id, rowsCv_eq rfl (allFree_map recV_free), rowsZ_map recV_len⟩, ⟨rfl, _, rfl, rfl, rfl, rfl, id, rowsCv_eq rfl (allFree_map recV_free), rowsZ_map recV_len⟩, ⟨rfl, _, rfl, rfl, rfl, rfl, id, rowsCv_eq rfl (allFree_map recV_free), rowsZ_map recV_len⟩, trivial⟩ trivial rfl rfl ?_
   exact ⟨(.ptr rfl), (.ptr rfl), (.ptr rfl), trivial⟩
  ·replace h := cond_f h c20
   refine tri_sr ?_
   refine s_of (st_eqI rfl rfl rfl) rfl rfl rfl rfl ?_
   refine m2 ?_
   refine rt_nil ?_
   refine tri_cond rfl (fun c21 => ?_) (fun c21 => ?_)
   ·replace h := cond_t h c21
    refine tri_region ?_
    refine m1 ?_
    refine s_buildSlice (rows' := List.map intV [0, 2, 3, 5]) rfl rfl rfl sl76 zc3 rfl rfl rfl rfl rfl rfl rfl rfl rfl ?_
    refine bnd2_elim h fun x22 x23 q24 h => ?_
    refine s_callZ (kb := [(29, 0)]) (ns := [(1000, 0)]) (v := .sc (.int .i64 x22)) rfl rfl cl140 (ws_l1Int x18 [0, 2, 3, 5] x22 x23 q24) rfl (.cons (.ptrOwn rfl) (.cons (lendL rfl (.head _) rfl intV_free intV_len) .nil)) ⟨⟨_, rfl, rfl⟩, trivial⟩ (memCons (allFree_one rfl) memNil) (List.nodup_cons.2 ⟨List.not_mem_nil, .nil⟩) (by decide) ⟨⟨_, rfl, rfl⟩, trivial⟩ rfl trivial (memCons (allFree_one rfl) memNil) rfl rfl rfl rfl rfl rfl ?_
    refine s_fieldAddr rfl rfl fd50_6 rfl rfl rfl rfl ?_
    refine s_store (rows' := [[.sc (.int .i64 x15.id), .sc (.bool x15.reply), .sc (.bool x15.auth), .sc (.bool x15.cut), .sc (.bool x15.want), .sc (.bool x15.can), .sc (.int .i64 x22), .sc (.string x15.q.name), .sc (.int .i64 x15.q.ty), .ref (17, 9) 0 x15.an.length, .ref (17, 10) 0 x15.au.length, .ref (17, 11) 0 x15.ad.length]]) rfl rfl rfl rfl ty3 rfl rfl rfl rfl rfl rfl ?_
    refine rt_nil ?_
    refine Exists.intro ⟨(x23.b, x23.i, x23.h, x15.id, x15.reply, x15.auth, x15.cut, x15.want, x15.can, x22, x15.q.name, x15.q.ty, x15.an, x15.au, x15.ad), h⟩ ?_
    refine entX [((1000, 0), ⟨136, 3, [[.lst 1 (List.map byteV x23.b), .sc (.int .i64 x23.i), .sc (.int .i64 x23.h)]], false, false⟩, some (1000, 0)), ((2, 0), ⟨50, 12, [[.sc (.int .i64 0), .sc (.bool false), .sc (.bool false), .sc (.bool false), .sc (.bool false), .sc (.bool false), .sc (.int .i64 0), .sc (.string (⟨#[]⟩ : ByteArray)), .sc (.int .i64 0), .nils, .nils, .nils]], false, true⟩, some (2, 0)), ((5, 0), ⟨50, 12, [[.sc (.int .i64 x15.id), .sc (.bool x15.reply), .sc (.bool x15.auth), .sc (.bool x15.cut), .sc (.bool x15.want), .sc (.bool x15.can), .sc (.int .i64 x22), .sc (.string x15.q.name), .sc (.int .i64 x15.q.ty), .ref (2005, 10) 0 x15.an.length, .ref (2005, 11) 0 x15.au.length, .ref (2005, 12) 0 x15.ad.length]], false, true⟩, some (5, 0)), ((2005, 10), ⟨39, 6, List.map recV x15.an, false, true⟩, some (17, 9)), ((2005, 11), ⟨39, 6, List.map recV x15.au, false, true⟩, some (17, 10)), ((2005, 12), ⟨39, 6, List.map recV x15.ad, false, true⟩, some (17, 11))] [] ⟨⟨rfl, _, rfl, rfl, rfl, rfl, id, rowsCv_one (.cons (.free rfl) (.cons (.free rfl) (.cons (.free rfl) .nil))), rowsZ_one rfl⟩, ⟨rfl, _, rfl, rfl, rfl, rfl, id, rowsCv_one (.cons (.free rfl) (.cons (.free rfl) (.cons (.free rfl) (.cons (.free rfl) (.cons (.free rfl) (.cons (.free rfl) (.cons (.free rfl) (.cons (.free rfl) (.cons (.free rfl) (.cons (.free rfl) (.cons (.free rfl) (.cons (.free rfl) .nil)))))))))))), rowsZ_one rfl⟩, ⟨rfl, _, rfl, rfl, rfl, rfl, id, rowsCv_one (.cons (.free rfl) (.cons (.free rfl) (.cons (.free rfl) (.cons (.free rfl) (.cons (.free rfl) (.cons (.free rfl) (.cons (.free rfl) (.cons (.free rfl) (.cons (.free rfl) (.cons (.ref rfl) (.cons (.ref rfl) (.cons (.ref rfl) .nil)))))))))))), rowsZ_one rfl⟩, ⟨rfl, _, rfl, rfl, rfl, rfl, id, rowsCv_eq rfl (allFree_map recV_free), rowsZ_map recV_len⟩, ⟨rfl, _, rfl, rfl, rfl, rfl, id, rowsCv_eq rfl (allFree_map recV_free), rowsZ_map recV_len⟩, ⟨rfl, _, rfl, rfl, rfl, rfl, id, rowsCv_eq rfl (allFree_map recV_free), rowsZ_map recV_len⟩, trivial⟩ trivial rfl rfl ?_
    exact ⟨(.ptr rfl), (.ptr rfl), (.ptr rfl), trivial⟩
   ·replace h := cond_f h c21
    refine tri_sr ?_
    refine s_of (st_eqI rfl rfl rfl) rfl rfl rfl rfl ?_
    refine m2 ?_
    refine rt_nil ?_
    refine tri_cond rfl (fun c25 => ?_) (fun c25 => ?_)
    ·replace h := cond_t h c25
     refine tri_region ?_
     refine s_fieldAddr rfl rfl fd50_3 rfl rfl rfl rfl ?_
     refine s_store (rows' := [[.sc (.int .i64 x15.id), .sc (.bool x15.reply), .sc (.bool x15.auth), .sc (.bool true), .sc (.bool x15.want), .sc (.bool x15.can), .sc (.int .i64 x15.code), .sc (.string x15.q.name), .sc (.int .i64 x15.q.ty), .ref (17, 9) 0 x15.an.length, .ref (17, 10) 0 x15.au.length, .ref (17, 11) 0 x15.ad.length]]) rfl rfl rfl rfl ty4 rfl rfl rfl rfl rfl rfl ?_
     refine rt_nil ?_
     refine Exists.intro ⟨(x18.b, x18.i, x18.h, x15.id, x15.reply, x15.auth, true, x15.want, x15.can, x15.code, x15.q.name, x15.q.ty, x15.an, x15.au, x15.ad), h⟩ ?_
     refine entX [((1000, 0), ⟨136, 3, [[.lst 1 (List.map byteV x18.b), .sc (.int .i64 x18.i), .sc (.int .i64 x18.h)]], false, false⟩, some (1000, 0)), ((2, 0), ⟨50, 12, [[.sc (.int .i64 0), .sc (.bool false), .sc (.bool false), .sc (.bool false), .sc (.bool false), .sc (.bool false), .sc (.int .i64 0), .sc (.string (⟨#[]⟩ : ByteArray)), .sc (.int .i64 0), .nils, .nils, .nils]], false, true⟩, some (2, 0)), ((5, 0), ⟨50, 12, [[.sc (.int .i64 x15.id), .sc (.bool x15.reply), .sc (.bool x15.auth), .sc (.bool true), .sc (.bool x15.want), .sc (.bool x15.can), .sc (.int .i64 x15.code), .sc (.string x15.q.name), .sc (.int .i64 x15.q.ty), .ref (2005, 10) 0 x15.an.length, .ref (2005, 11) 0 x15.au.length, .ref (2005, 12) 0 x15.ad.length]], false, true⟩, some (5, 0)), ((2005, 10), ⟨39, 6, List.map recV x15.an, false, true⟩, some (17, 9)), ((2005, 11), ⟨39, 6, List.map recV x15.au, false, true⟩, some (17, 10)), ((2005, 12), ⟨39, 6, List.map recV x15.ad, false, true⟩, some (17, 11))] [] ⟨⟨rfl, _, rfl, rfl, rfl, rfl, id, rowsCv_one (.cons (.free rfl) (.cons (.free rfl) (.cons (.free rfl) .nil))), rowsZ_one rfl⟩, ⟨rfl, _, rfl, rfl, rfl, rfl, id, rowsCv_one (.cons (.free rfl) (.cons (.free rfl) (.cons (.free rfl) (.cons (.free rfl) (.cons (.free rfl) (.cons (.free rfl) (.cons (.free rfl) (.cons (.free rfl) (.cons (.free rfl) (.cons (.free rfl) (.cons (.free rfl) (.cons (.free rfl) .nil)))))))))))), rowsZ_one rfl⟩, ⟨rfl, _, rfl, rfl, rfl, rfl, id, rowsCv_one (.cons (.free rfl) (.cons (.free rfl) (.cons (.free rfl) (.cons (.free rfl) (.cons (.free rfl) (.cons (.free rfl) (.cons (.free rfl) (.cons (.free rfl) (.cons (.free rfl) (.cons (.ref rfl) (.cons (.ref rfl) (.cons (.ref rfl) .nil)))))))))))), rowsZ_one rfl⟩, ⟨rfl, _, rfl, rfl, rfl, rfl, id, rowsCv_eq rfl (allFree_map recV_free), rowsZ_map recV_len⟩, ⟨rfl, _, rfl, rfl, rfl, rfl, id, rowsCv_eq rfl (allFree_map recV_free), rowsZ_map recV_len⟩, ⟨rfl, _, rfl, rfl, rfl, rfl, id, rowsCv_eq rfl (allFree_map recV_free), rowsZ_map recV_len⟩, trivial⟩ trivial rfl rfl ?_
     exact ⟨(.ptr rfl), (.ptr rfl), (.ptr rfl), trivial⟩
    ·replace h := cond_f h c25
     refine tri_sr ?_
     refine s_of (st_eqI rfl rfl rfl) rfl rfl rfl rfl ?_
     refine m2 ?_
     refine rt_nil ?_
     refine tri_cond rfl (fun c26 => ?_) (fun c26 => ?_)
     ·replace h := cond_t h c26
      refine tri_draw mixed ?_
      refine s_fieldAddr rfl rfl fd50_8 rfl rfl rfl rfl ?_
      refine s_load rfl rfl rfl rfl ty24 rfl (.inr rfl) (by conv => lhs; whnf) rfl rfl rfl ?_
      refine m1 ?_
      refine bnd2_elim h fun x27 x28 q29 h => ?_
      refine s_callZ (kb := []) (ns := [(1000, 0)]) (v := .agg (recV x27)) rfl rfl cl164 (ws_l5Draw x18 x27 x28 q29) rfl (.cons (.ptrOwn rfl) .nil) ⟨⟨_, rfl, rfl⟩, trivial⟩ (memCons (allFree_one rfl) memNil) (List.nodup_cons.2 ⟨List.not_mem_nil, .nil⟩) memNil trivial rfl trivial (memCons (allFree_one rfl) memNil) rfl rfl rfl rfl rfl rfl ?_
      refine s_buildSlice (rows' := List.map recV [x27]) rfl rfl rfl sl24 zc39 rfl rfl rfl rfl rfl rfl rfl rfl rfl ?_
      refine grd_elim h fun g30 h => ?_
      refine s_appL rfl rfl rfl sl24 zc39 rfl rfl rfl rfl rfl rfl (src_refL rfl rfl) g30 rfl rfl ?_
      refine s_fieldAddr rfl rfl fd50_8 rfl rfl rfl rfl ?_
      refine s_store (rows' := [[.sc (.int .i64 x15.id), .sc (.bool x15.reply), .sc (.bool x15.auth), .sc (.bool x15.cut), .sc (.bool x15.want), .sc (.bool x15.can), .sc (.int .i64 x15.code), .sc (.string x15.q.name), .sc (.int .i64 x15.q.ty), .ref (42, 0) 0 ((x15.an ++ [x27]).length), .ref (17, 10) 0 x15.au.length, .ref (17, 11) 0 x15.ad.length]]) rfl rfl rfl rfl ty24 rfl rfl rfl rfl rfl rfl ?_
      refine rt_nil ⟨by kernel_rfl, ?_⟩
      refine Exists.intro ⟨(x28.b, x28.i, x28.h, x15.id, x15.reply, x15.auth, x15.cut, x15.want, x15.can, x15.code, x15.q.name, x15.q.ty, x15.an ++ [x27], x15.au, x15.ad), h⟩ ?_
      refine entX [((1000, 0), ⟨136, 3, [[.lst 1 (List.map byteV x28.b), .sc (.int .i64 x28.i), .sc (.int .i64 x28.h)]], false, false⟩, some (1000, 0)), ((2, 0), ⟨50, 12, [[.sc (.int .i64 0), .sc (.bool false), .sc (.bool false), .sc (.bool false), .sc (.bool false), .sc (.bool false), .sc (.int .i64 0), .sc (.string (⟨#[]⟩ : ByteArray)), .sc (.int .i64 0), .nils, .nils, .nils]], false, true⟩, some (2, 0)), ((5, 0), ⟨50, 12, [[.sc (.int .i64 x15.id), .sc (.bool x15.reply), .sc (.bool x15.auth), .sc (.bool x15.cut), .sc (.bool x15.want), .sc (.bool x15.can), .sc (.int .i64 x15.code), .sc (.string x15.q.name), .sc (.int .i64 x15.q.ty), .ref (2005, 10) 0 (x15.an ++ [x27]).length, .ref (2005, 11) 0 x15.au.length, .ref (2005, 12) 0 x15.ad.length]], false, true⟩, some (5, 0)), ((2005, 10), ⟨39, 6, List.map recV (x15.an ++ [x27]), false, true⟩, some (42, 0)), ((2005, 11), ⟨39, 6, List.map recV x15.au, false, true⟩, some (17, 10)), ((2005, 12), ⟨39, 6, List.map recV x15.ad, false, true⟩, some (17, 11))] [] ⟨⟨rfl, _, rfl, rfl, rfl, rfl, id, rowsCv_one (.cons (.free rfl) (.cons (.free rfl) (.cons (.free rfl) .nil))), rowsZ_one rfl⟩, ⟨rfl, _, rfl, rfl, rfl, rfl, id, rowsCv_one (.cons (.free rfl) (.cons (.free rfl) (.cons (.free rfl) (.cons (.free rfl) (.cons (.free rfl) (.cons (.free rfl) (.cons (.free rfl) (.cons (.free rfl) (.cons (.free rfl) (.cons (.free rfl) (.cons (.free rfl) (.cons (.free rfl) .nil)))))))))))), rowsZ_one rfl⟩, ⟨rfl, _, rfl, rfl, rfl, rfl, id, rowsCv_one (.cons (.free rfl) (.cons (.free rfl) (.cons (.free rfl) (.cons (.free rfl) (.cons (.free rfl) (.cons (.free rfl) (.cons (.free rfl) (.cons (.free rfl) (.cons (.free rfl) (.cons (.ref rfl) (.cons (.ref rfl) (.cons (.ref rfl) .nil)))))))))))), rowsZ_one rfl⟩, ⟨rfl, _, rfl, rfl, rfl, rfl, id, rowsCv_eq rfl (allFree_map recV_free), rowsZ_map recV_len⟩, ⟨rfl, _, rfl, rfl, rfl, rfl, id, rowsCv_eq rfl (allFree_map recV_free), rowsZ_map recV_len⟩, ⟨rfl, _, rfl, rfl, rfl, rfl, id, rowsCv_eq rfl (allFree_map recV_free), rowsZ_map recV_len⟩, trivial⟩ trivial rfl rfl ?_
      exact ⟨(.ptr rfl), (.ptr rfl), (.ptr rfl), trivial⟩
     ·replace h := cond_f h c26
      refine tri_sr ?_
      refine s_of (st_eqI rfl rfl rfl) rfl rfl rfl rfl ?_
      refine m2 ?_
      refine rt_nil ?_
      refine tri_cond rfl (fun c31 => ?_) (fun c31 => ?_)
      ·replace h := cond_t h c31
       refine tri_draw mixed ?_
       refine m1 ?_
       refine bnd2_elim h fun x32 x33 q34 h => ?_
       refine s_callZ (kb := []) (ns := [(1000, 0)]) (v := .sc (.string x32)) rfl rfl cl153 (ws_l12Name x18 x32 x33 q34) rfl (.cons (.ptrOwn rfl) .nil) ⟨⟨_, rfl, rfl⟩, trivial⟩ (memCons (allFree_one rfl) memNil) (List.nodup_cons.2 ⟨List.not_mem_nil, .nil⟩) memNil trivial rfl trivial (memCons (allFree_one rfl) memNil) rfl rfl rfl rfl rfl rfl ?_
       refine m1 ?_
       refine bnd2_elim h fun x35 x36 q37 h => ?_
       refine s_callZ (kb := []) (ns := [(1000, 0)]) (v := .sc (.string x35)) rfl rfl cl153 (ws_l12Name x33 x35 x36 q37) rfl (.cons (.ptrOwn rfl) .nil) ⟨⟨_, rfl, rfl⟩, trivial⟩ (memCons (allFree_one rfl) memNil) (List.nodup_cons.2 ⟨List.not_mem_nil, .nil⟩) memNil trivial rfl trivial (memCons (allFree_one rfl) memNil) rfl rfl rfl rfl rfl rfl ?_
       refine bnd1_elim h fun x38 q39 h => ?_
       refine s_callN (kb := []) (ns := []) (v := .agg (recV x38)) rfl rfl cl142 (ws_l10Server x32 x35 9 x38 q39) rfl (.cons (.free rfl) (.cons (.free rfl) (.cons (.free rfl) .nil))) trivial memNil .nil memNil rfl trivial memNil rfl rfl rfl rfl rfl rfl ?_
       refine s_buildSlice (rows' := List.map recV [x38]) rfl rfl rfl sl24 zc39 rfl rfl rfl rfl rfl rfl rfl rfl rfl ?_
       refine s_fieldAddr rfl rfl fd50_9 rfl rfl rfl rfl ?_
       refine s_load rfl rfl rfl rfl ty24 rfl (.inr rfl) (by conv => lhs; whnf) rfl rfl rfl ?_
       refine grd_elim h fun g40 h => ?_
       refine s_appL rfl rfl rfl sl24 zc39 rfl rfl rfl rfl rfl rfl (src_refL rfl rfl) g40 rfl rfl ?_
       refine s_fieldAddr rfl rfl fd50_9 rfl rfl rfl rfl ?_
       refine s_store (rows' := [[.sc (.int .i64 x15.id), .sc (.bool x15.reply), .sc (.bool x15.auth), .sc (.bool x15.cut), .sc (.bool x15.want), .sc (.bool x15.can), .sc (.int .i64 x15.code), .sc (.string x15.q.name), .sc (.int .i64 x15.q.ty), .ref (17, 9) 0 x15.an.length, .ref (54, 0) 0 (([x38] ++ x15.au).length), .ref (17, 11) 0 x15.ad.length]]) rfl rfl rfl rfl ty24 rfl rfl rfl rfl rfl rfl ?_
       refine rt_nil ⟨by kernel_rfl, ?_⟩
       refine Exists.intro ⟨(x36.b, x36.i, x36.h, x15.id, x15.reply, x15.auth, x15.cut, x15.want, x15.can, x15.code, x15.q.name, x15.q.ty, x15.an, [x38] ++ x15.au, x15.ad), h⟩ ?_
       refine entX [((1000, 0), ⟨136, 3, [[.lst 1 (List.map byteV x36.b), .sc (.int .i64 x36.i), .sc (.int .i64 x36.h)]], false, false⟩, some (1000, 0)), ((2, 0), ⟨50, 12, [[.sc (.int .i64 0), .sc (.bool false), .sc (.bool false), .sc (.bool false), .sc (.bool false), .sc (.bool false), .sc (.int .i64 0), .sc (.string (⟨#[]⟩ : ByteArray)), .sc (.int .i64 0), .nils, .nils, .nils]], false, true⟩, some (2, 0)), ((5, 0), ⟨50, 12, [[.sc (.int .i64 x15.id), .sc (.bool x15.reply), .sc (.bool x15.auth), .sc (.bool x15.cut), .sc (.bool x15.want), .sc (.bool x15.can), .sc (.int .i64 x15.code), .sc (.string x15.q.name), .sc (.int .i64 x15.q.ty), .ref (2005, 10) 0 x15.an.length, .ref (2005, 11) 0 ([x38] ++ x15.au).length, .ref (2005, 12) 0 x15.ad.length]], false, true⟩, some (5, 0)), ((2005, 10), ⟨39, 6, List.map recV x15.an, false, true⟩, some (17, 9)), ((2005, 11), ⟨39, 6, List.map recV ([x38] ++ x15.au), false, true⟩, some (54, 0)), ((2005, 12), ⟨39, 6, List.map recV x15.ad, false, true⟩, some (17, 11))] [] ⟨⟨rfl, _, rfl, rfl, rfl, rfl, id, rowsCv_one (.cons (.free rfl) (.cons (.free rfl) (.cons (.free rfl) .nil))), rowsZ_one rfl⟩, ⟨rfl, _, rfl, rfl, rfl, rfl, id, rowsCv_one (.cons (.free rfl) (.cons (.free rfl) (.cons (.free rfl) (.cons (.free rfl) (.cons (.free rfl) (.cons (.free rfl) (.cons (.free rfl) (.cons (.free rfl) (.cons (.free rfl) (.cons (.free rfl) (.cons (.free rfl) (.cons (.free rfl) .nil)))))))))))), rowsZ_one rfl⟩, ⟨rfl, _, rfl, rfl, rfl, rfl, id, rowsCv_one (.cons (.free rfl) (.cons (.free rfl) (.cons (.free rfl) (.cons (.free rfl) (.cons (.free rfl) (.cons (.free rfl) (.cons (.free rfl) (.cons (.free rfl) (.cons (.free rfl) (.cons (.ref rfl) (.cons (.ref rfl) (.cons (.ref rfl) .nil)))))))))))), rowsZ_one rfl⟩, ⟨rfl, _, rfl, rfl, rfl, rfl, id, rowsCv_eq rfl (allFree_map recV_free), rowsZ_map recV_len⟩, ⟨rfl, _, rfl, rfl, rfl, rfl, id, rowsCv_eq rfl (allFree_map recV_free), rowsZ_map recV_len⟩, ⟨rfl, _, rfl, rfl, rfl, rfl, id, rowsCv_eq rfl (allFree_map recV_free), rowsZ_map recV_len⟩, trivial⟩ trivial rfl rfl ?_
       exact ⟨(.ptr rfl), (.ptr rfl), (.ptr rfl), trivial⟩
      ·replace h := cond_f h c31
       refine tri_sr ?_
       refine s_of (st_eqI rfl rfl rfl) rfl rfl rfl rfl ?_
       refine m2 ?_
       refine rt_nil ?_
       refine tri_cond rfl (fun c41 => ?_) (fun c41 => ?_)
       ·replace h := cond_t h c41
        refine tri_region ?_
        refine m1 ?_
        refine bnd2_elim h fun x42 x43 q44 h => ?_
        refine s_callZ (kb := []) (ns := [(1000, 0)]) (v := .agg [.sc (.int .i64 x42.id), .sc (.bool x42.reply), .sc (.bool x42.auth), .sc (.bool x42.cut), .sc (.bool x42.want), .sc (.bool x42.can), .sc (.int .i64 x42.code), .sc (.string x42.q.name), .sc (.int .i64 x42.q.ty), .ref (59, 9) 0 x42.an.length, .ref (59, 10) 0 x42.au.length, .ref (59, 11) 0 x42.ad.length]) rfl rfl cl181 (ws_l7Any x18 x42 x43 q44) rfl (.cons (.ptrOwn rfl) .nil) ⟨⟨_, rfl, rfl⟩, trivial⟩ (memCons (allFree_one rfl) memNil) (List.nodup_cons.2 ⟨List.not_mem_nil, .nil⟩) memNil trivial rfl ⟨(allFree_map recV_free), ⟨(allFree_map recV_free), ⟨(allFree_map recV_free), trivial⟩⟩⟩ (memCons (allFree_one rfl) memNil) rfl (by simp only [V.mat, V.mat1, V.mat0, matL, matT, List.length_map] <;> rfl) rfl rfl rfl rfl ?_
        refine s_storeB rfl rfl rfl ty50 rfl rfl rfl rfl rfl ?_
        refine rt_nil ?_
        refine Exists.intro ⟨(x43.b, x43.i, x43.h, x42.id, x42.reply, x42.auth, x42.cut, x42.want, x42.can, x42.code, x42.q.name, x42.q.ty, x42.an, x42.au, x42.ad), h⟩ ?_
        refine entX [((1000, 0), ⟨136, 3, [[.lst 1 (List.map byteV x43.b), .sc (.int .i64 x43.i), .sc (.int .i64 x43.h)]], false, false⟩, some (1000, 0)), ((2, 0), ⟨50, 12, [[.sc (.int .i64 0), .sc (.bool false), .sc (.bool false), .sc (.bool false), .sc (.bool false), .sc (.bool false), .sc (.int .i64 0), .sc (.string (⟨#[]⟩ : ByteArray)), .sc (.int .i64 0), .nils, .nils, .nils]], false, true⟩, some (2, 0)), ((5, 0), ⟨50, 12, [[.sc (.int .i64 x42.id), .sc (.bool x42.reply), .sc (.bool x42.auth), .sc (.bool x42.cut), .sc (.bool x42.want), .sc (.bool x42.can), .sc (.int .i64 x42.code), .sc (.string x42.q.name), .sc (.int .i64 x42.q.ty), .ref (2005, 10) 0 x42.an.length, .ref (2005, 11) 0 x42.au.length, .ref (2005, 12) 0 x42.ad.length]], false, true⟩, some (5, 0)), ((2005, 10), ⟨39, 6, List.map recV x42.an, false, true⟩, some (59, 9)), ((2005, 11), ⟨39, 6, List.map recV x42.au, false, true⟩, some (59, 10)), ((2005, 12), ⟨39, 6, List.map recV x42.ad, false, true⟩, some (59, 11))] [] ⟨⟨rfl, _, rfl, rfl, rfl, rfl, id, rowsCv_one (.cons (.free rfl) (.cons (.free rfl) (.cons (.free rfl) .nil))), rowsZ_one rfl⟩, ⟨rfl, _, rfl, rfl, rfl, rfl, id, rowsCv_one (.cons (.free rfl) (.cons (.free rfl) (.cons (.free rfl) (.cons (.free rfl) (.cons (.free rfl) (.cons (.free rfl) (.cons (.free rfl) (.cons (.free rfl) (.cons (.free rfl) (.cons (.free rfl) (.cons (.free rfl) (.cons (.free rfl) .nil)))))))))))), rowsZ_one rfl⟩, ⟨rfl, _, rfl, rfl, rfl, rfl, id, rowsCv_one (.cons (.free rfl) (.cons (.free rfl) (.cons (.free rfl) (.cons (.free rfl) (.cons (.free rfl) (.cons (.free rfl) (.cons (.free rfl) (.cons (.free rfl) (.cons (.free rfl) (.cons (.ref rfl) (.cons (.ref rfl) (.cons (.ref rfl) .nil)))))))))))), rowsZ_one rfl⟩, ⟨rfl, _, rfl, rfl, rfl, rfl, id, rowsCv_eq rfl (allFree_map recV_free), rowsZ_map recV_len⟩, ⟨rfl, _, rfl, rfl, rfl, rfl, id, rowsCv_eq rfl (allFree_map recV_free), rowsZ_map recV_len⟩, ⟨rfl, _, rfl, rfl, rfl, rfl, id, rowsCv_eq rfl (allFree_map recV_free), rowsZ_map recV_len⟩, trivial⟩ trivial rfl rfl ?_
        exact ⟨(.ptr rfl), (.ptr rfl), (.ptr rfl), trivial⟩
       ·replace h := cond_f h c41
        refine tri_skip ?_
        refine Exists.intro ⟨(x18.b, x18.i, x18.h, x15.id, x15.reply, x15.auth, x15.cut, x15.want, x15.can, x15.code, x15.q.name, x15.q.ty, x15.an, x15.au, x15.ad), h⟩ ?_
        refine entX [((1000, 0), ⟨136, 3, [[.lst 1 (List.map byteV x18.b), .sc (.int .i64 x18.i), .sc (.int .i64 x18.h)]], false, false⟩, some (1000, 0)), ((2, 0), ⟨50, 12, [[.sc (.int .i64 0), .sc (.bool false), .sc (.bool false), .sc (.bool false), .sc (.bool false), .sc (.bool false), .sc (.int .i64 0), .sc (.string (⟨#[]⟩ : ByteArray)), .sc (.int .i64 0), .nils, .nils, .nils]], false, true⟩, some (2, 0)), ((5, 0), ⟨50, 12, [[.sc (.int .i64 x15.id), .sc (.bool x15.reply), .sc (.bool x15.auth), .sc (.bool x15.cut), .sc (.bool x15.want), .sc (.bool x15.can), .sc (.int .i64 x15.code), .sc (.string x15.q.name), .sc (.int .i64 x15.q.ty), .ref (2005, 10) 0 x15.an.length, .ref (2005, 11) 0 x15.au.length, .ref (2005, 12) 0 x15.ad.length]], false, true⟩, some (5, 0)), ((2005, 10), ⟨39, 6, List.map recV x15.an, false, true⟩, some (17, 9)), ((2005, 11), ⟨39, 6, List.map recV x15.au, false, true⟩, some (17, 10)), ((2005, 12), ⟨39, 6, List.map recV x15.ad, false, true⟩, some (17, 11))] [] ⟨⟨rfl, _, rfl, rfl, rfl, rfl, id, rowsCv_one (.cons (.free rfl) (.cons (.free rfl) (.cons (.free rfl) .nil))), rowsZ_one rfl⟩, ⟨rfl, _, rfl, rfl, rfl, rfl, id, rowsCv_one (.cons (.free rfl) (.cons (.free rfl) (.cons (.free rfl) (.cons (.free rfl) (.cons (.free rfl) (.cons (.free rfl) (.cons (.free rfl) (.cons (.free rfl) (.cons (.free rfl) (.cons (.free rfl) (.cons (.free rfl) (.cons (.free rfl) .nil)))))))))))), rowsZ_one rfl⟩, ⟨rfl, _, rfl, rfl, rfl, rfl, id, rowsCv_one (.cons (.free rfl) (.cons (.free rfl) (.cons (.free rfl) (.cons (.free rfl) (.cons (.free rfl) (.cons (.free rfl) (.cons (.free rfl) (.cons (.free rfl) (.cons (.free rfl) (.cons (.ref rfl) (.cons (.ref rfl) (.cons (.ref rfl) .nil)))))))))))), rowsZ_one rfl⟩, ⟨rfl, _, rfl, rfl, rfl, rfl, id, rowsCv_eq rfl (allFree_map recV_free), rowsZ_map recV_len⟩, ⟨rfl, _, rfl, rfl, rfl, rfl, id, rowsCv_eq rfl (allFree_map recV_free), rowsZ_map recV_len⟩, ⟨rfl, _, rfl, rfl, rfl, rfl, id, rowsCv_eq rfl (allFree_map recV_free), rowsZ_map recV_len⟩, trivial⟩ trivial rfl rfl ?_
        exact ⟨(.ptr rfl), (.ptr rfl), (.ptr rfl), trivial⟩
 ·rintro ⟨⟨j0_0, j0_1, j0_2, j0_3, j0_4, j0_5, j0_6, j0_7, j0_8, j0_9, j0_10, j0_11, j0_12, j0_13, j0_14⟩, h⟩
  replace h : s_l14Reply_j0 j0_0 j0_1 j0_2 j0_3 j0_4 j0_5 j0_6 j0_7 j0_8 j0_9 j0_10 j0_11 j0_12 j0_13 j0_14 = some (r0, r1, r2) := h
  unfold s_l14Reply_j0 at h
  show Tri _ _ _ (inv_s_l14Reply_0 j0_0 j0_1 j0_2 j0_3 j0_4 j0_5 j0_6 j0_7 j0_8 j0_9 j0_10 j0_11 j0_12 j0_13 j0_14)
  refine tri_seq ?_
  refine tri_draw mixed ?_
  refine s_loadR rfl rfl rfl rfl ty50 rfl rfl rfl ?_
  refine m1 ?_
  refine s_buildSlice (rows' := List.map strV [(⟨#[]⟩ : ByteArray), (⟨#[]⟩ : ByteArray), (⟨#[99, 111, 109]⟩ : ByteArray), (⟨#[99, 111, 109]⟩ : ByteArray), (⟨#[111, 114, 103]⟩ : ByteArray), (⟨#[101, 120, 46, 99, 111, 109]⟩ : ByteArray)]) rfl rfl rfl sl33 zc9 rfl rfl rfl rfl rfl rfl rfl rfl rfl ?_
  refine bnd2_elim h fun x17 x18 q19 h => ?_
  refine s_callZ (kb := [(62, 0)]) (ns := [(1000, 0)]) (v := .sc (.string x17)) rfl rfl cl118 (ws_l1Str (Cur.mk j0_0 j0_1 j0_2) ([(⟨#[]⟩ : ByteArray), (⟨#[]⟩ : ByteArray), (⟨#[99, 111, 109]⟩ : ByteArray), (⟨#[99, 111, 109]⟩ : ByteArray), (⟨#[111, 114, 103]⟩ : ByteArray), (⟨#[101, 120, 46, 99, 111, 109]⟩ : ByteArray)]) x17 x18 q19) rfl (.cons (.ptrOwn rfl) (.cons (lendL rfl (.head _) rfl strV_free strV_len) .nil)) ⟨⟨_, rfl, rfl⟩, trivial⟩ (memCons (allFree_one rfl) memNil) (List.nodup_cons.2 ⟨List.not_mem_nil, .nil⟩) (by decide) ⟨⟨_, rfl, rfl⟩, trivial⟩ rfl trivial (memCons (allFree_one rfl) memNil) rfl rfl rfl rfl rfl rfl ?_
  refine s_storeB rfl rfl rfl ty50 rfl rfl rfl rfl rfl ?_
  refine m2 ?_
  refine rt_nil ⟨by kernel_rfl, ?_⟩
  refine tri_ret ?_
  have e0 := (some3 h).1; have e1 := (some3 h).2.1; have e2 := (some3 h).2.2; subst e0; subst e1; subst e2
  exact endY (v' := .tup [.agg [.sc (.int .i64 j0_3), .sc (.bool j0_4), .sc (.bool j0_5), .sc (.bool j0_6), .sc (.bool j0_7), .sc (.bool j0_8), .sc (.int .i64 j0_9), .sc (.string j0_10), .sc (.int .i64 j0_11), .ref (2000, 109) 0 j0_12.length, .ref (2000, 110) 0 j0_13.length, .ref (2000, 111) 0 j0_14.length], .sc (.string x17)]) [((2000, 109), ⟨39, 6, List.map recV j0_12, false, true⟩, some (2005, 10)), ((2000, 110), ⟨39, 6, List.map recV j0_13, false, true⟩, some (2005, 11)), ((2000, 111), ⟨39, 6, List.map recV j0_14, false, true⟩, some (2005, 12)), ((1000, 0), ⟨136, 3, [[.lst 1 (List.map byteV x18.b), .sc (.int .i64 x18.i), .sc (.int .i64 x18.h)]], false, false⟩, some (1000, 0))] [] (rvC (resCell rfl rfl ty50) (rvC (resTmp rfl) rvN)) ⟨⟨rfl, _, rfl, rfl, rfl, rfl, id, rowsCv_eq rfl (allFree_map recV_free), rowsZ_map recV_len⟩, ⟨rfl, _, rfl, rfl, rfl, rfl, id, rowsCv_eq rfl (allFree_map recV_free), rowsZ_map recV_len⟩, ⟨rfl, _, rfl, rfl, rfl, rfl, id, rowsCv_eq rfl (allFree_map recV_free), rowsZ_map recV_len⟩, ⟨rfl, _, rfl, rfl, rfl, rfl, id, rowsCv_one (.cons (.free rfl) (.cons (.free rfl) (.cons (.free rfl) .nil))), rowsZ_one rfl⟩, trivial⟩ trivial rfl rfl (by kernel_rfl) (by simp only [V.mat, V.mat1, V.mat0, matL, matT, List.length_map] <;> rfl) (CvL.tup (.cons (CvL.agg (.cons (.free rfl) (.cons (.free rfl) (.cons (.free rfl) (.cons (.free rfl) (.cons (.free rfl) (.cons (.free rfl) (.cons (.free rfl) (.cons (.free rfl) (.cons (.free rfl) (.cons (.ref rfl) (.cons (.ref rfl) (.cons (.ref rfl) .nil))))))))))))) (.cons (.free rfl) .nil)))

/- spec.DrawClassOf -/

set_option maxRecDepth 4000 in
set_option maxHeartbeats 800000 in
theorem ws_DrawClassOf (p0 : List Int) (r0 : MMsg) (r1 : ByteArray) (h : s_DrawClassOf p0 = some (r0, r1)) : Runs Tryd.prog 76 [.lst 1 (List.map byteV p0)] [] (.tup [.agg [.sc (.int .i64 r0.id), .sc (.bool r0.reply), .sc (.bool r0.auth), .sc (.bool r0.cut), .sc (.bool r0.want), .sc (.bool r0.can), .sc (.int .i64 r0.code), .sc (.string r0.q.name), .sc (.int .i64 r0.q.ty), .own 39 6 (List.map recV r0.an), .own 39 6 (List.map recV r0.au), .own 39 6 (List.map recV r0.ad)], .sc (.string r1)]) [] := by
 unfold s_DrawClassOf at h
 refine runsR [.cell 2 50, .tmp 3] Tryd.func76 rfl rfl rfl rfl ?_
 rw [Tryd.ntmps76]
 refine tri_sr ?_
 refine s_alloc rfl rfl rfl zc50 rfl rfl rfl rfl rfl ?_
 refine s_mv (.inr rfl) (v := .sc (.string (⟨#[]⟩ : ByteArray))) rfl rfl rfl rfl ?_
 refine rt_nil ?_
 refine tri_sr ?_
 refine m1 ?_
 refine bnd1_elim h fun x1 q2 h => ?_
 refine s_callZ (kb := []) (ns := []) (v := .ptr (6, 0) 0 0) rfl rfl cl88 (ws_l1New p0 x1 q2) rfl (.cons (.free rfl) .nil) trivial memNil .nil memNil trivial rfl ⟨(allFree_one rfl), trivial⟩ memNil rfl (by simp only [V.mat, V.mat1, V.mat0, matL, matT, List.length_map] <;> rfl) rfl rfl rfl rfl ?_
 refine m2 ?_
 refine rt_nil ?_
 refine tri_sr ?_
 refine m1 ?_
 refine bnd3_elim h fun x3 x4 x5 q6 h => ?_
 refine s_callZ (kb := []) (ns := [(6, 0)]) (v := .tup [.agg [.sc (.int .i64 x3.id), .sc (.bool x3.reply), .sc (.bool x3.auth), .sc (.bool x3.cut), .sc (.bool x3.want), .sc (.bool x3.can), .sc (.int .i64 x3.code), .sc (.string x3.q.name), .sc (.int .i64 x3.q.ty), .ref (8, 109) 0 x3.an.length, .ref (8, 110) 0 x3.au.length, .ref (8, 111) 0 x3.ad.length], .sc (.string x4)]) rfl rfl cl138 (ws_l14Reply x1 x3 x4 x5 q6) rfl (.cons (.ptrOwn rfl) .nil) ⟨⟨_, rfl, rfl⟩, trivial⟩ (memCons (allFree_one rfl) memNil) (List.nodup_cons.2 ⟨List.not_mem_nil, .nil⟩) memNil trivial rfl ⟨(allFree_map recV_free), ⟨(allFree_map recV_free), ⟨(allFree_map recV_free), trivial⟩⟩⟩ (memCons (allFree_one rfl) memNil) rfl (by simp only [V.mat, V.mat1, V.mat0, matL, matT, List.length_map] <;> rfl) rfl rfl rfl rfl ?_
 refine s_extract rfl rfl rfl rfl rfl rfl ?_
 refine s_extract rfl rfl rfl rfl rfl rfl ?_
 refine s_storeB rfl rfl rfl ty50 rfl rfl rfl rfl rfl ?_
 refine m2 ?_
 refine rt_nil ?_
 refine tri_ret ?_
 have e0 := (some2 h).1; have e1 := (some2 h).2; subst e0; subst e1
 exact endY (v' := .tup [.agg [.sc (.int .i64 x3.id), .sc (.bool x3.reply), .sc (.bool x3.auth), .sc (.bool x3.cut), .sc (.bool x3.want), .sc (.bool x3.can), .sc (.int .i64 x3.code), .sc (.string x3.q.name), .sc (.int .i64 x3.q.ty), .ref (2000, 109) 0 x3.an.length, .ref (2000, 110) 0 x3.au.length, .ref (2000, 111) 0 x3.ad.length], .sc (.string x4)]) [((2000, 109), ⟨39, 6, List.map recV x3.an, false, true⟩, some (8, 109)), ((2000, 110), ⟨39, 6, List.map recV x3.au, false, true⟩, some (8, 110)), ((2000, 111), ⟨39, 6, List.map recV x3.ad, false, true⟩, some (8, 111))] [] (rvC (resCell rfl rfl ty50) (rvC (resTmp rfl) rvN)) ⟨⟨rfl, _, rfl, rfl, rfl, rfl, id, rowsCv_eq rfl (allFree_map recV_free), rowsZ_map recV_len⟩, ⟨rfl, _, rfl, rfl, rfl, rfl, id, rowsCv_eq rfl (allFree_map recV_free), rowsZ_map recV_len⟩, ⟨rfl, _, rfl, rfl, rfl, rfl, id, rowsCv_eq rfl (allFree_map recV_free), rowsZ_map recV_len⟩, trivial⟩ trivial rfl rfl (by kernel_rfl) (by simp only [V.mat, V.mat1, V.mat0, matL, matT, List.length_map] <;> rfl) (CvL.tup (.cons (CvL.agg (.cons (.free rfl) (.cons (.free rfl) (.cons (.free rfl) (.cons (.free rfl) (.cons (.free rfl) (.cons (.free rfl) (.cons (.free rfl) (.cons (.free rfl) (.cons (.free rfl) (.cons (.ref rfl) (.cons (.ref rfl) (.cons (.ref rfl) .nil))))))))))))) (.cons (.free rfl) .nil)))

/- impl.SetOf -/
def inv_i_SetOf_1 (p0 : List Rec) (p1 : ByteArray) (p2 : Int) (v0_0 : List Rec) (v0_1 : Nat) (e0 : Rec) (j1_0 : Bool) : St := mkT 33 [(1, .sc (.string p1)), (2, .sc (.int .i64 p2)), (7, .ref (2007, 0) 0 v0_0.length), (9, .ptr (9, 0) 0 0), (11, .lst 6 (List.map recV p0)), (12, .sc (.int .i64 (p0.length : Int))), (13, .sc (.int .i64 (v0_1 : Int))), (26, .sc (.bool j1_0))] [((2007, 0), some ⟨39, 6, List.map recV v0_0, false, true⟩), ((9, 0), some ⟨39, 6, [[.sc (.string e0.name), .sc (.int .i64 e0.ty), .sc (.int .i64 e0.ttl), .sc (.int .i64 e0.n), .sc (.string e0.host), .sc (.string e0.text)]], false, true⟩)]
def inv_i_SetOf_0 (p0 : List Rec) (p1 : ByteArray) (p2 : Int) (v0_0 : List Rec) (v0_1 : Nat) : St := mkT 33 [(1, .sc (.string p1)), (2, .sc (.int .i64 p2)), (7, .ref (2007, 0) 0 v0_0.length), (11, .lst 6 (List.map recV p0)), (12, .sc (.int .i64 (p0.length : Int))), (13, .sc (.int .i64 (v0_1 : Int)))] [((2007, 0), some ⟨39, 6, List.map recV v0_0, false, true⟩)]
set_option maxRecDepth 4000 in
set_option maxHeartbeats 800000 in
theorem wi_SetOf (p0 : List Rec) (p1 : ByteArray) (p2 : Int) (r0 : List Rec) (h : i_SetOf p0 p1 p2 = some r0) : Runs Tryd.prog 21 [.lst 6 (List.map recV p0), .sc (.string p1), .sc (.int .i64 p2)] [] (.own 39 6 (List.map recV r0)) [] := by
 unfold i_SetOf at h
 refine runsR [.tmp 6] Tryd.func21 rfl rfl rfl rfl ?_
 rw [Tryd.ntmps21]
 refine tri_sr ?_
 refine s_mv (.inr rfl) (v := .nils) rfl rfl rfl rfl ?_
 refine rt_nil ?_
 refine tri_sr ?_
 refine s_buildSlice (rows' := List.map recV ([] : List Rec)) rfl rfl rfl sl24 zc39 rfl rfl rfl rfl rfl rfl rfl rfl rfl ?_
 refine m2 ?_
 refine rt_nil ?_
 refine tri_seq ?_
 refine tri_sr ?_
 refine m1 ?_
 refine s_lenL rfl sl24 rfl rfl rfl rfl ?_
 refine s_mv (.inl rfl) (v := .sc (.int .i64 0)) rfl rfl rfl rfl ?_
 refine rt_nil ?_
 refine tri_block ?_
 refine tri_lstM 0 rfl (fun hl0 => ?_)
 refine tri_loop (ι := { p : (List Rec) × (List Rec) × Nat // p0.drop p.2.2 = p.1 ∧ i_SetOf_l0 p1 p2 p.1 p.2.1 p.2.2 = some r0 }) (fun p => inv_i_SetOf_0 p0 p1 p2 p.1.2.1 p.1.2.2) (fun p => p.1.1.length) ⟨(p0, ([] : List Rec), 0), rfl, h⟩ ?_ ?_
 ·skip
  refine entX [((2007, 0), ⟨39, 6, List.map recV ([] : List Rec), false, true⟩, some (10, 0))] [] ⟨⟨rfl, _, rfl, rfl, rfl, rfl, id, rowsCv_eq rfl (allFree_map recV_free), rowsZ_map recV_len⟩, trivial⟩ trivial rfl rfl ?_
  exact ⟨(.free rfl), (.free rfl), (.ref rfl), (.free rfl), (.free rfl), (.free rfl), trivial⟩
 ·rintro ⟨⟨lrs0, v0_0, v0_1⟩, hd0, h⟩
  replace hd0 : p0.drop v0_1 = lrs0 := hd0
  replace h : i_SetOf_l0 p1 p2 lrs0 v0_0 v0_1 = some r0 := h
  show Tri _ _ _ (inv_i_SetOf_0 p0 p1 p2 v0_0 v0_1)
  refine tri_sr ?_
  refine s_of (st_lss rfl rfl rfl) rfl rfl rfl rfl ?_
  refine rt_nil ?_
  refine tri_seq ?_
  refine tri_cond rfl (fun c1 => ?_) (fun c1 => ?_)
  ·refine drop_elim hd0 c1 fun e0 rs0 he hx0 hn0 => ?_
   subst he
   rw [i_SetOf_l0] at h
   refine tri_skip ?_
   refine tri_seq ?_
   refine tri_block ?_
   refine tri_sr ?_
   refine s_indexF (i := v0_1) rfl rfl rfl sl24 (get_ltM hx0) rfl rfl rfl ?_
   refine s_loadFR rfl rfl (rowG hx0) ty39 rfl rfl rfl ?_
   refine s_alloc rfl rfl rfl zc39 rfl rfl rfl rfl rfl ?_
   refine s_storeB rfl rfl rfl ty39 rfl rfl rfl rfl rfl ?_
   refine rt_nil ?_
   refine tri_cutI (ι := { p : Bool // i_SetOf_j1 v0_0 v0_1 e0 (i_SetOf_l0 p1 p2 rs0) p = some r0 }) (fun p => inv_i_SetOf_1 p0 p1 p2 v0_0 v0_1 e0 p.1) ?_ ?_
   ·skip
    refine tri_region ?_
    refine s_fieldAddr rfl rfl fd39_0 rfl rfl rfl rfl ?_
    refine s_load rfl rfl rfl rfl ty9 rfl (.inr rfl) (by conv => lhs; whnf) rfl rfl rfl ?_
    refine m1 ?_
    refine s_of (st_eqS rfl rfl rfl) rfl rfl rfl rfl ?_
    refine m1 ?_
    refine s_split (t := 21) rfl (fun b2 => ?_) (fun b2 => ?_)
    ·replace h := cond_t h b2
     refine s_fieldAddr rfl rfl fd39_1 rfl rfl rfl rfl ?_
     refine s_load rfl rfl rfl rfl ty3 rfl (.inr rfl) (by conv => lhs; whnf) rfl rfl rfl ?_
     refine m1 ?_
     refine s_of (st_eqI rfl rfl rfl) rfl rfl rfl rfl ?_
     refine s_pickT rfl rfl (by conv => lhs; whnf) rfl rfl rfl ?_
     refine rt_nil ?_
     refine Exists.intro ⟨decide (e0.ty = p2), h⟩ ?_
     refine entX [((2007, 0), ⟨39, 6, List.map recV v0_0, false, true⟩, some (2007, 0)), ((9, 0), ⟨39, 6, [[.sc (.string e0.name), .sc (.int .i64 e0.ty), .sc (.int .i64 e0.ttl), .sc (.int .i64 e0.n), .sc (.string e0.host), .sc (.string e0.text)]], false, true⟩, some (9, 0))] [] ⟨⟨rfl, _, rfl, rfl, rfl, rfl, id, rowsCv_eq rfl (allFree_map recV_free), rowsZ_map recV_len⟩, ⟨rfl, _, rfl, rfl, rfl, rfl, id, rowsCv_one (.cons (.free rfl) (.cons (.free rfl) (.cons (.free rfl) (.cons (.free rfl) (.cons (.free rfl) (.cons (.free rfl) .nil)))))), rowsZ_one rfl⟩, trivial⟩ trivial rfl rfl ?_
     exact ⟨(.free rfl), (.free rfl), (.ref rfl), (.ptr rfl), (.free rfl), (.free rfl), (.free rfl), (.free rfl), trivial⟩
    ·replace h := cond_f h b2
     refine s_skip rfl rfl rfl ?_
     refine s_skip rfl rfl rfl ?_
     refine s_skip rfl rfl rfl ?_
     refine s_skip rfl rfl rfl ?_
     refine s_pickF rfl rfl (v := .sc (.bool false)) rfl rfl rfl rfl ?_
     refine rt_nil ?_
     refine Exists.intro ⟨false, h⟩ ?_
     refine entX [((2007, 0), ⟨39, 6, List.map recV v0_0, false, true⟩, some (2007, 0)), ((9, 0), ⟨39, 6, [[.sc (.string e0.name), .sc (.int .i64 e0.ty), .sc (.int .i64 e0.ttl), .sc (.int .i64 e0.n), .sc (.string e0.host), .sc (.string e0.text)]], false, true⟩, some (9, 0))] [] ⟨⟨rfl, _, rfl, rfl, rfl, rfl, id, rowsCv_eq rfl (allFree_map recV_free), rowsZ_map recV_len⟩, ⟨rfl, _, rfl, rfl, rfl, rfl, id, rowsCv_one (.cons (.free rfl) (.cons (.free rfl) (.cons (.free rfl) (.cons (.free rfl) (.cons (.free rfl) (.cons (.free rfl) .nil)))))), rowsZ_one rfl⟩, trivial⟩ trivial rfl rfl ?_
     exact ⟨(.free rfl), (.free rfl), (.ref rfl), (.ptr rfl), (.free rfl), (.free rfl), (.free rfl), (.free rfl), trivial⟩
   ·rintro ⟨j1_0, h⟩
    replace h : i_SetOf_j1 v0_0 v0_1 e0 (i_SetOf_l0 p1 p2 rs0) j1_0 = some r0 := h
    unfold i_SetOf_j1 at h
    show Tri _ _ _ (inv_i_SetOf_1 p0 p1 p2 v0_0 v0_1 e0 j1_0)
    refine tri_cond rfl (fun c2 => ?_) (fun c2 => ?_)
    ·replace h := cond_t h c2
     refine tri_region ?_
     refine m1 ?_
     refine s_loadR rfl rfl rfl rfl ty39 rfl rfl rfl ?_
     refine s_buildSlice (rows' := List.map recV [e0]) rfl rfl rfl sl24 zc39 rfl rfl rfl rfl rfl rfl rfl rfl rfl ?_
     refine grd_elim h fun g3 h => ?_
     refine s_appL rfl rfl rfl sl24 zc39 rfl rfl rfl rfl rfl rfl (src_refL rfl rfl) g3 rfl rfl ?_
     refine m2 ?_
     refine rt_nil ?_
     refine tri_region ?_
     refine s_inc (a := v0_1) (b := 1) rfl rfl rfl rfl (by have := get_lt hx0; have := hl0; omega) rfl rfl rfl ?_
     refine m1 ?_
     refine rt_nil ?_
     refine Exists.intro ⟨(rs0, v0_0 ++ [e0], (v0_1 + 1)), hn0, h⟩ (And.intro (Nat.lt_succ_self _) ?_)
     refine entX [((2007, 0), ⟨39, 6, List.map recV (v0_0 ++ [e0]), false, true⟩, some (30, 0))] [] ⟨⟨rfl, _, rfl, rfl, rfl, rfl, id, rowsCv_eq rfl (allFree_map recV_free), rowsZ_map recV_len⟩, trivial⟩ trivial rfl rfl ?_
     exact ⟨(.free rfl), (.free rfl), (.ref rfl), (.free rfl), (.free rfl), (.free rfl), trivial⟩
    ·replace h := cond_f h c2
     refine tri_skip ?_
     refine tri_region ?_
     refine s_inc (a := v0_1) (b := 1) rfl rfl rfl rfl (by have := get_lt hx0; have := hl0; omega) rfl rfl rfl ?_
     refine m1 ?_
     refine rt_nil ?_
     refine Exists.intro ⟨(rs0, v0_0, (v0_1 + 1)), hn0, h⟩ (And.intro (Nat.lt_succ_self _) ?_)
     refine entX [((2007, 0), ⟨39, 6, List.map recV v0_0, false, true⟩, some (2007, 0))] [] ⟨⟨rfl, _, rfl, rfl, rfl, rfl, id, rowsCv_eq rfl (allFree_map recV_free), rowsZ_map recV_len⟩, trivial⟩ trivial rfl rfl ?_
     exact ⟨(.free rfl), (.free rfl), (.ref rfl), (.free rfl), (.free rfl), (.free rfl), trivial⟩
  ·have he := drop_f hd0 c1; subst he
   rw [i_SetOf_l0] at h
   refine tri_exit ?_
   refine tri_sr ?_
   refine m1 ?_
   refine m2 ?_
   refine rt_nil ?_
   refine tri_ret ?_
   have e0 := (some1 h); subst e0
   exact endY (v' := .ref (2000, 0) 0 v0_0.length) [((2000, 0), ⟨39, 6, List.map recV v0_0, false, true⟩, some (2007, 0))] [] (rvC (resTmp rfl) rvN) ⟨⟨rfl, _, rfl, rfl, rfl, rfl, id, rowsCv_eq rfl (allFree_map recV_free), rowsZ_map recV_len⟩, trivial⟩ trivial rfl rfl (by kernel_rfl) (by simp only [V.mat, V.mat1, V.mat0, matL, matT, List.length_map] <;> rfl) (.ref rfl)

/- impl.AliasIn -/

set_option maxRecDepth 4000 in
set_option maxHeartbeats 800000 in
theorem wi_AliasIn (p0 : MMsg) (r0 : Rec) (r1 : Bool) (h : i_AliasIn p0 = some (r0, r1)) : Runs Tryd.prog 77 [.agg (mMsgV p0)] [] (.tup [.agg (recV r0), .sc (.bool r1)]) [] := by
 unfold i_AliasIn at h
 refine runsR [.cell 2 39, .tmp 3] Tryd.func77 rfl rfl rfl rfl ?_
 rw [Tryd.ntmps77]
 refine tri_sr ?_
 refine s_box rfl rfl rfl rfl rfl rfl rfl ?_
 refine s_alloc rfl rfl rfl zc39 rfl rfl rfl rfl rfl ?_
 refine s_mv (.inr rfl) (v := .sc (.bool false)) rfl rfl rfl rfl ?_
 refine rt_nil ?_
 refine tri_sr ?_
 refine s_fieldAddr rfl rfl fd50_8 rfl rfl rfl rfl ?_
 refine s_load rfl rfl rfl rfl ty24 rfl (.inr rfl) (by conv => lhs; whnf) rfl rfl rfl ?_
 refine s_fieldAddr rfl rfl fd50_7 rfl rfl rfl rfl ?_
 refine s_fieldAddr rfl rfl fd28_0 rfl rfl rfl rfl ?_
 refine s_load rfl rfl rfl rfl ty9 rfl (.inr rfl) (by conv => lhs; whnf) rfl rfl rfl ?_
 refine bnd1_elim h fun x1 q2 h => ?_
 refine s_callN (kb := []) (ns := []) (v := .ref (10, 0) 0 x1.length) rfl rfl cl21 (wi_SetOf p0.an p0.q.name 5 x1 q2) rfl (.cons (.free rfl) (.cons (.free rfl) (.cons (.free rfl) .nil))) trivial memNil .nil memNil rfl ⟨(allSc_map recV_sc), trivial⟩ memNil rfl (by simp only [V.mat, V.mat1, V.mat0, matL, matT, List.length_map] <;> rfl) rfl rfl rfl rfl ?_
 refine m2 ?_
 refine rt_nil ?_
 refine tri_seq ?_
 refine tri_sr ?_
 refine m1 ?_
 refine s_len (m := x1.length) rfl sl24 rfl rfl rfl rfl ?_
 refine s_of (st_eqI rfl rfl rfl) rfl rfl rfl rfl ?_
 refine rt_nil ?_
 refine tri_cond rfl (fun c3 => ?_) (fun c3 => ?_)
 ·replace h := cond_t h c3
  refine tri_sr ?_
  refine s_build (cells' := [.sc (.string (⟨#[]⟩ : ByteArray)), .sc (.int .i64 0), .sc (.int .i64 0), .sc (.int .i64 0), .sc (.string (⟨#[]⟩ : ByteArray)), .sc (.string (⟨#[]⟩ : ByteArray))]) rfl stc39 rfl rfl rfl rfl rfl rfl rfl ?_
  refine s_storeB rfl rfl rfl ty39 rfl rfl rfl rfl rfl ?_
  refine s_mv (.inr rfl) (v := .sc (.bool false)) rfl rfl rfl rfl ?_
  refine rt_nil ?_
  refine tri_ret ?_
  have e0 := (some2 h).1; have e1 := (some2 h).2; subst e0; subst e1
  exact endY [] [] (rvC (resCell rfl rfl ty39) (rvC (resTmp rfl) rvN)) trivial trivial rfl rfl rfl rfl (CvL.tup (.cons (cvAgg rfl) (.cons (.free rfl) .nil)))
 ·replace h := cond_f h c3
  refine tri_skip ?_
  refine tri_sr ?_
  refine m1 ?_
  refine bnd1_elim h fun x4 q5 h => ?_
  have q5a := (idx_some q5).1; have q5b := (idx_some q5).2
  refine s_indexZ rfl rfl rfl rfl sl24 rfl q5a (get_lt q5b) rfl rfl rfl ?_
  refine s_loadR rfl rfl rfl (rowG q5b) ty39 rfl rfl rfl ?_
  refine s_storeB rfl rfl rfl ty39 rfl rfl rfl rfl rfl ?_
  refine s_mv (.inr rfl) (v := .sc (.bool true)) rfl rfl rfl rfl ?_
  refine rt_nil ?_
  refine tri_ret ?_
  have e0 := (some2 h).1; have e1 := (some2 h).2; subst e0; subst e1
  exact endY [] [] (rvC (resCell rfl rfl ty39) (rvC (resTmp rfl) rvN)) trivial trivial rfl rfl rfl rfl (CvL.tup (.cons (cvAgg rfl) (.cons (.free rfl) .nil)))

/- spec.AliasIn -/

set_option maxRecDepth 4000 in
set_option maxHeartbeats 800000 in
theorem ws_AliasIn (p0 : MMsg) (r0 : Rec) (r1 : Bool) (h : s_AliasIn p0 = some (r0, r1)) : Runs Tryd.prog 78 [.agg (mMsgV p0)] [] (.tup [.agg (recV r0), .sc (.bool r1)]) [] := by
 unfold s_AliasIn at h
 refine runsR [.cell 2 39, .tmp 3] Tryd.func78 rfl rfl rfl rfl ?_
 rw [Tryd.ntmps78]
 refine tri_sr ?_
 refine s_box rfl rfl rfl rfl rfl rfl rfl ?_
 refine s_alloc rfl rfl rfl zc39 rfl rfl rfl rfl rfl ?_
 refine s_mv (.inr rfl) (v := .sc (.bool false)) rfl rfl rfl rfl ?_
 refine rt_nil ?_
 refine tri_sr ?_
 refine s_fieldAddr rfl rfl fd50_8 rfl rfl rfl rfl ?_
 refine s_load rfl rfl rfl rfl ty24 rfl (.inr rfl) (by conv => lhs; whnf) rfl rfl rfl ?_
 refine s_fieldAddr rfl rfl fd50_7 rfl rfl rfl rfl ?_
 refine s_fieldAddr rfl rfl fd28_0 rfl rfl rfl rfl ?_
 refine s_load rfl rfl rfl rfl ty9 rfl (.inr rfl) (by conv => lhs; whnf) rfl rfl rfl ?_
 refine bnd1_elim h fun x1 q2 h => ?_
 refine s_callN (kb := []) (ns := []) (v := .ref (10, 0) 0 x1.length) rfl rfl cl128 (ws_SetOf p0.an p0.q.name 5 x1 q2) rfl (.cons (.free rfl) (.cons (.free rfl) (.cons (.free rfl) .nil))) trivial memNil .nil memNil rfl ⟨(allSc_map recV_sc), trivial⟩ memNil rfl (by simp only [V.mat, V.mat1, V.mat0, matL, matT, List.length_map] <;> rfl) rfl rfl rfl rfl ?_
 refine m2 ?_
 refine rt_nil ?_
 refine tri_seq ?_
 refine tri_sr ?_
 refine m1 ?_
 refine s_len (m := x1.length) rfl sl24 rfl rfl rfl rfl ?_
 refine s_of (st_eqI rfl rfl rfl) rfl rfl rfl rfl ?_
 refine rt_nil ?_
 refine tri_cond rfl (fun c3 => ?_) (fun c3 => ?_)
 ·replace h := cond_t h c3
  refine tri_sr ?_
  refine s_build (cells' := [.sc (.string (⟨#[]⟩ : ByteArray)), .sc (.int .i64 0), .sc (.int .i64 0), .sc (.int .i64 0), .sc (.string (⟨#[]⟩ : ByteArray)), .sc (.string (⟨#[]⟩ : ByteArray))]) rfl stc39 rfl rfl rfl rfl rfl rfl rfl ?_
  refine s_storeB rfl rfl rfl ty39 rfl rfl rfl rfl rfl ?_
  refine s_mv (.inr rfl) (v := .sc (.bool false)) rfl rfl rfl rfl ?_
  refine rt_nil ?_
  refine tri_ret ?_
  have e0 := (some2 h).1; have e1 := (some2 h).2; subst e0; subst e1
  exact endY [] [] (rvC (resCell rfl rfl ty39) (rvC (resTmp rfl) rvN)) trivial trivial rfl rfl rfl rfl (CvL.tup (.cons (cvAgg rfl) (.cons (.free rfl) .nil)))
 ·replace h := cond_f h c3
  refine tri_skip ?_
  refine tri_sr ?_
  refine m1 ?_
  refine bnd1_elim h fun x4 q5 h => ?_
  have q5a := (idx_some q5).1; have q5b := (idx_some q5).2
  refine s_indexZ rfl rfl rfl rfl sl24 rfl q5a (get_lt q5b) rfl rfl rfl ?_
  refine s_loadR rfl rfl rfl (rowG q5b) ty39 rfl rfl rfl ?_
  refine s_storeB rfl rfl rfl ty39 rfl rfl rfl rfl rfl ?_
  refine s_mv (.inr rfl) (v := .sc (.bool true)) rfl rfl rfl rfl ?_
  refine rt_nil ?_
  refine tri_ret ?_
  have e0 := (some2 h).1; have e1 := (some2 h).2; subst e0; subst e1
  exact endY [] [] (rvC (resCell rfl rfl ty39) (rvC (resTmp rfl) rvN)) trivial trivial rfl rfl rfl rfl (CvL.tup (.cons (cvAgg rfl) (.cons (.free rfl) .nil)))

/- stringslite.IndexByte -/

set_option maxRecDepth 4000 in
set_option maxHeartbeats 800000 in
theorem winternal_stringslite_IndexByte (p0 : ByteArray) (p1 : Int) (r0 : Int) (h : internal_stringslite_IndexByte p0 p1 = some r0) : Runs Tryd.prog 226 [.sc (.string p0), .sc (.int .u8 p1)] [] (.sc (.int .i64 r0)) [] := by
 unfold internal_stringslite_IndexByte at h
 refine runsR [.tmp 4] Tryd.func226 rfl rfl rfl rfl ?_
 rw [Tryd.ntmps226]
 refine tri_sr ?_
 refine s_mv (.inr rfl) (v := .sc (.int .i64 0)) rfl rfl rfl rfl ?_
 refine rt_nil ?_
 refine tri_sr ?_
 refine m1 ?_
 refine m1 ?_
 refine s_idxByteString rfl rfl rfl Tryd.func230 (by kernel_rfl) (by kernel_rfl) (by kernel_rfl) (by kernel_rfl) rfl rfl rfl ?_
 refine m2 ?_
 refine rt_nil ?_
 refine tri_ret ?_
 have e0 := (some1 h); subst e0
 exact endY [] [] (rvC (resTmp rfl) rvN) trivial trivial rfl rfl rfl rfl (.free rfl)

/- stringslite.Index -/
def inv_internal_stringslite_Index_0 (p0 : ByteArray) (p1 : ByteArray) (j0_0 : Bool) : St := mkT 143 [(0, .sc (.string p0)), (1, .sc (.string p1)), (5, .sc (.int .i64 (p1.size : Int))), (16, .sc (.bool j0_0))] []
set_option maxRecDepth 4000 in
set_option maxHeartbeats 800000 in
theorem winternal_stringslite_Index (p0 : ByteArray) (p1 : ByteArray) (r0 : Int) (h : internal_stringslite_Index p0 p1 = some r0) : Runs Tryd.prog 221 [.sc (.string p0), .sc (.string p1)] [] (.sc (.int .i64 r0)) [] := by
 unfold internal_stringslite_Index at h
 refine runsR [.tmp 4] Tryd.func221 rfl rfl rfl rfl ?_
 rw [Tryd.ntmps221]
 refine tri_sr ?_
 refine s_mv (.inr rfl) (v := .sc (.int .i64 0)) rfl rfl rfl rfl ?_
 refine rt_nil ?_
 refine tri_sr ?_
 refine m1 ?_
 refine s_of (st_lenS rfl rfl iss9) rfl rfl rfl rfl ?_
 refine m2 ?_
 refine rt_nil ?_
 refine tri_seq ?_
 refine tri_block ?_
 refine tri_cutI (ι := { p : Bool // internal_stringslite_Index_j0 p0 p1 p = some r0 }) (fun p => inv_internal_stringslite_Index_0 p0 p1 p.1) ?_ ?_
 ·skip
  refine tri_region ?_
  refine m1 ?_
  refine s_of (st_eqI rfl rfl rfl) rfl rfl rfl rfl ?_
  refine m1 ?_
  refine s_split (t := 19) rfl (fun b1 => ?_) (fun b1 => ?_)
  ·replace h := cond_t h b1
   refine s_skip rfl rfl rfl ?_
   refine s_skip rfl rfl rfl ?_
   refine s_skip rfl rfl rfl ?_
   refine s_pickT rfl rfl (v := .sc (.bool true)) rfl rfl rfl rfl ?_
   refine m2 ?_
   refine rt_nil ?_
   refine Exists.intro ⟨true, h⟩ ?_
   refine entX [] [] trivial trivial rfl rfl ?_
   exact ⟨(.free rfl), (.free rfl), (.free rfl), (.free rfl), trivial⟩
  ·replace h := cond_f h b1
   refine m1 ?_
   refine m1 ?_
   refine s_of (st_eqS rfl rfl rfl) rfl rfl rfl rfl ?_
   refine s_pickF rfl rfl (by conv => lhs; whnf) rfl rfl rfl ?_
   refine m2 ?_
   refine rt_nil ?_
   refine Exists.intro ⟨decide (p1 = p0), h⟩ ?_
   refine entX [] [] trivial trivial rfl rfl ?_
   exact ⟨(.free rfl), (.free rfl), (.free rfl), (.free rfl), trivial⟩
 ·rintro ⟨j0_0, h⟩
  replace h : internal_stringslite_Index_j0 p0 p1 j0_0 = some r0 := h
  unfold internal_stringslite_Index_j0 at h
  show Tri _ _ _ (inv_internal_stringslite_Index_0 p0 p1 j0_0)
  refine tri_cond rfl (fun c1 => ?_) (fun c1 => ?_)
  ·replace h := cond_t h c1
   refine tri_sr ?_
   refine s_mv (.inr rfl) (v := .sc (.int .i64 0)) rfl rfl rfl rfl ?_
   refine rt_nil ?_
   refine tri_ret ?_
   have e0 := (some1 h); subst e0
   exact endY [] [] (rvC (resTmp rfl) rvN) trivial trivial rfl rfl rfl rfl (.free rfl)
  ·replace h := cond_f h c1
   refine tri_sr ?_
   refine m1 ?_
   refine s_of (st_eqI rfl rfl rfl) rfl rfl rfl rfl ?_
   refine m2 ?_
   refine rt_nil ?_
   refine tri_cond rfl (fun c2 => ?_) (fun c2 => ?_)
   ·replace h := cond_t h c2
    refine tri_sr ?_
    refine m1 ?_
    refine m1 ?_
    refine bnd1_elim h fun x3 q4 h => ?_
    refine s_idxS rfl rfl rfl iss9 q4 rfl rfl rfl ?_
    refine bnd1_elim h fun x5 q6 h => ?_
    refine s_callN (kb := []) (ns := []) (v := .sc (.int .i64 x5)) rfl rfl cl226 (winternal_stringslite_IndexByte p0 x3 x5 q6) rfl (.cons (.free rfl) (.cons (.free rfl) .nil)) trivial memNil .nil memNil rfl trivial memNil rfl rfl rfl rfl rfl rfl ?_
    refine m2 ?_
    refine rt_nil ?_
    refine tri_ret ?_
    have e0 := (some1 h); subst e0
    exact endY [] [] (rvC (resTmp rfl) rvN) trivial trivial rfl rfl rfl rfl (.free rfl)
   ·replace h := cond_f h c2
    refine tri_sr ?_
    refine m1 ?_
    refine m1 ?_
    refine s_of (st_lenS rfl rfl iss9) rfl rfl rfl rfl ?_
    refine s_of (st_geq rfl rfl rfl) rfl rfl rfl rfl ?_
    refine m2 ?_
    refine rt_nil ?_
    refine tri_cond rfl (fun c7 => ?_) (fun c7 => ?_)
    ·replace h := cond_t h c7
     refine tri_sr ?_
     refine s_mv (.inr rfl) (v := .sc (.int .i64 (-1))) rfl rfl rfl rfl ?_
     refine rt_nil ?_
     refine tri_ret ?_
     have e0 := (some1 h); subst e0
     exact endY [] [] (rvC (resTmp rfl) rvN) trivial trivial rfl rfl rfl rfl (.free rfl)
    ·replace h := cond_f h c7
     refine tri_sr ?_
     refine m1 ?_
     cases h

/- strings.Index -/

set_option maxRecDepth 4000 in
set_option maxHeartbeats 800000 in
theorem wstrings_Index (p0 : ByteArray) (p1 : ByteArray) (r0 : Int) (h : strings_Index p0 p1 = some r0) : Runs Tryd.prog 209 [.sc (.string p0), .sc (.string p1)] [] (.sc (.int .i64 r0)) [] := by
 unfold strings_Index at h
 refine runsR [.tmp 4] Tryd.func209 rfl rfl rfl rfl ?_
 rw [Tryd.ntmps209]
 refine tri_sr ?_
 refine s_mv (.inr rfl) (v := .sc (.int .i64 0)) rfl rfl rfl rfl ?_
 refine rt_nil ?_
 refine tri_sr ?_
 refine m1 ?_
 refine m1 ?_
 refine bnd1_elim h fun x1 q2 h => ?_
 refine s_callN (kb := []) (ns := []) (v := .sc (.int .i64 x1)) rfl rfl cl221 (winternal_stringslite_Index p0 p1 x1 q2) rfl (.cons (.free rfl) (.cons (.free rfl) .nil)) trivial memNil .nil memNil rfl trivial memNil rfl rfl rfl rfl rfl rfl ?_
 refine m2 ?_
 refine rt_nil ?_
 refine tri_ret ?_
 have e0 := (some1 h); subst e0
 exact endY [] [] (rvC (resTmp rfl) rvN) trivial trivial rfl rfl rfl rfl (.free rfl)

/- strings.Count -/
def inv_strings_Count_0 (p1 : ByteArray) (v0_0 : ByteArray) (v0_1 : Int) : St := mkT 34 [(0, .sc (.string v0_0)), (1, .sc (.string p1)), (5, .sc (.int .i64 v0_1))] []
set_option maxRecDepth 4000 in
set_option maxHeartbeats 800000 in
theorem wstrings_Count (p0 : ByteArray) (p1 : ByteArray) (r0 : Int) (h : strings_Count p0 p1 = some r0) : Runs Tryd.prog 208 [.sc (.string p0), .sc (.string p1)] [] (.sc (.int .i64 r0)) [] := by
 unfold strings_Count at h
 refine runsR [.tmp 4] Tryd.func208 rfl rfl rfl rfl ?_
 rw [Tryd.ntmps208]
 refine tri_sr ?_
 refine s_mv (.inr rfl) (v := .sc (.int .i64 0)) rfl rfl rfl rfl ?_
 refine rt_nil ?_
 refine tri_seq ?_
 refine tri_sr ?_
 refine m1 ?_
 refine s_of (st_lenS rfl rfl iss9) rfl rfl rfl rfl ?_
 refine s_of (st_eqI rfl rfl rfl) rfl rfl rfl rfl ?_
 refine rt_nil ?_
 refine tri_cond rfl (fun c1 => ?_) (fun c1 => ?_)
 ·replace h := cond_t h c1
  refine tri_sr ?_
  refine m1 ?_
  cases h
 ·replace h := cond_f h c1
  refine tri_skip ?_
  refine tri_seq ?_
  refine tri_sr ?_
  refine m1 ?_
  refine s_of (st_lenS rfl rfl iss9) rfl rfl rfl rfl ?_
  refine s_of (st_eqI rfl rfl rfl) rfl rfl rfl rfl ?_
  refine rt_nil ?_
  refine tri_cond rfl (fun c2 => ?_) (fun c2 => ?_)
  ·replace h := cond_t h c2
   refine tri_sr ?_
   refine m1 ?_
   refine m1 ?_
   refine bnd1_elim h fun x3 q4 h => ?_
   refine s_idxS rfl rfl rfl iss9 q4 rfl rfl rfl ?_
   refine s_countString rfl rfl rfl Tryd.func220 (by kernel_rfl) (by kernel_rfl) (by kernel_rfl) (by kernel_rfl) rfl rfl rfl ?_
   refine m2 ?_
   refine rt_nil ?_
   refine tri_ret ?_
   have e0 := (some1 h); subst e0
   exact endY [] [] (rvC (resTmp rfl) rvN) trivial trivial rfl rfl rfl rfl (.free rfl)
  ·replace h := cond_f h c2
   refine tri_skip ?_
   refine tri_sr ?_
   refine s_mv (.inr rfl) (v := .sc (.int .i64 0)) rfl rfl rfl rfl ?_
   refine rt_nil ?_
   refine tri_block ?_
   refine tri_loop (ι := { p : Nat × ByteArray × Int // strings_Count_l0 p1 p.1 p.2.1 p.2.2 = some r0 }) (fun p => inv_strings_Count_0 p1 p.1.2.1 p.1.2.2) (fun p => p.1.1) ⟨(fuel0, p0, 0), h⟩ ?_ ?_
   ·skip
    refine entX [] [] trivial trivial rfl rfl ?_
    exact ⟨(.free rfl), (.free rfl), (.free rfl), trivial⟩
   ·rintro ⟨⟨f0, v0_0, v0_1⟩, h⟩
    replace h : strings_Count_l0 p1 f0 v0_0 v0_1 = some r0 := h
    cases f0 with
    | zero => cases h
    | succ f0 =>
    rw [strings_Count_l0] at h
    show Tri _ _ _ (inv_strings_Count_0 p1 v0_0 v0_1)
    refine tri_block ?_
    refine tri_sr ?_
    refine m1 ?_
    refine m1 ?_
    refine bnd1_elim h fun x5 q6 h => ?_
    refine s_callN (kb := []) (ns := []) (v := .sc (.int .i64 x5)) rfl rfl cl209 (wstrings_Index v0_0 p1 x5 q6) rfl (.cons (.free rfl) (.cons (.free rfl) .nil)) trivial memNil .nil memNil rfl trivial memNil rfl rfl rfl rfl rfl rfl ?_
    refine m2 ?_
    refine rt_nil ?_
    refine tri_seq ?_
    refine tri_sr ?_
    refine m1 ?_
    refine s_of (st_eqI rfl rfl rfl) rfl rfl rfl rfl ?_
    refine rt_nil ?_
    refine tri_cond rfl (fun c7 => ?_) (fun c7 => ?_)
    ·replace h := cond_t h c7
     refine tri_sr ?_
     refine m1 ?_
     refine m2 ?_
     refine rt_nil ?_
     refine tri_ret ?_
     have e0 := (some1 h); subst e0
     exact endY [] [] (rvC (resTmp rfl) rvN) trivial trivial rfl rfl rfl rfl (.free rfl)
    ·replace h := cond_f h c7
     refine tri_skip ?_
     refine tri_sr ?_
     refine m1 ?_
     refine grd_elim h fun g8 h => ?_
     refine s_addI rfl rfl rfl rfl g8 rfl rfl rfl ?_
     refine m2 ?_
     refine rt_nil ?_
     refine tri_region ?_
     refine m1 ?_
     refine m1 ?_
     refine m1 ?_
     refine s_of (st_lenS rfl rfl iss9) rfl rfl rfl rfl ?_
     refine grd_elim h fun g9 h => ?_
     refine s_addI rfl rfl rfl rfl g9 rfl rfl rfl ?_
     refine grd_elim h fun g10 h => ?_
     refine s_sliceS (a := x5 + (p1.size : Int)) (b := (v0_0.size : Int)) rfl rfl iss9 ⟨_, rfl⟩ rfl g10 rfl rfl rfl ?_
     refine m2 ?_
     refine rt_nil ?_
     refine Exists.intro ⟨(f0, v0_0.extract (x5 + (p1.size : Int)).toNat (v0_0.size : Int).toNat, v0_1 + 1), h⟩ (And.intro (Nat.lt_succ_self _) ?_)
     refine entX [] [] trivial trivial rfl rfl ?_
     exact ⟨(.free rfl), (.free rfl), (.free rfl), trivial⟩

/- strings.genSplit -/
def inv_strings_genSplit_2 (p0 : ByteArray) (p1 : ByteArray) (p2 : Int) (j0_0 : Int) (v2_0 : ByteArray) (v2_1 : List ByteArray) (v2_2 : Int) : St := mkT 66 [(0, .sc (.string v2_0)), (1, .sc (.string p1)), (2, .sc (.int .i64 p2)), (3, .sc (.int .i64 ((if (p0.size : Int) + 1 < j0_0 then (p0.size : Int) + 1 else j0_0) - 1))), (9, .ref (31, 0) 0 v2_1.length), (10, .sc (.int .i64 v2_2))] [((31, 0), some ⟨9, 1, List.map strV v2_1, false, true⟩)]
def inv_strings_genSplit_1  (j1_0 : ByteArray) (j1_1 : List ByteArray) (j1_2 : Int) : St := mkT 66 [(0, .sc (.string j1_0)), (9, .ref (31, 0) 0 j1_1.length), (10, .sc (.int .i64 j1_2))] [((31, 0), some ⟨9, 1, List.map strV j1_1, false, true⟩)]
def inv_strings_genSplit_0 (p0 : ByteArray) (p1 : ByteArray) (p2 : Int) (j0_0 : Int) : St := mkT 66 [(0, .sc (.string p0)), (1, .sc (.string p1)), (2, .sc (.int .i64 p2)), (3, .sc (.int .i64 j0_0))] []
set_option maxRecDepth 4000 in
set_option maxHeartbeats 800000 in
theorem wstrings_genSplit (p0 : ByteArray) (p1 : ByteArray) (p2 : Int) (p3 : Int) (r0 : List ByteArray) (h : strings_genSplit p0 p1 p2 p3 = some r0) : Runs Tryd.prog 186 [.sc (.string p0), .sc (.string p1), .sc (.int .i64 p2), .sc (.int .i64 p3)] [] (.own 9 1 (List.map strV r0)) [] := by
 unfold strings_genSplit at h
 refine runsR [.tmp 8] Tryd.func186 rfl rfl rfl rfl ?_
 rw [Tryd.ntmps186]
 refine tri_sr ?_
 refine s_mv (.inr rfl) (v := .nils) rfl rfl rfl rfl ?_
 refine rt_nil ?_
 refine tri_seq ?_
 refine tri_sr ?_
 refine m1 ?_
 refine s_of (st_eqI rfl rfl rfl) rfl rfl rfl rfl ?_
 refine rt_nil ?_
 refine tri_cond rfl (fun c1 => ?_) (fun c1 => ?_)
 ·replace h := cond_t h c1
  refine tri_sr ?_
  refine s_mv (.inr rfl) (v := .nils) rfl rfl rfl rfl ?_
  refine rt_nil ?_
  refine tri_ret ?_
  have e0 := (some1 h); subst e0
  exact endY (v' := .ref (2000, 0) 0 (([] : List ByteArray).length)) [((2000, 0), ⟨9, 1, List.map strV ([] : List ByteArray), false, true⟩, none)] [] (rvC (resTmp rfl) rvN) ⟨rfl, trivial⟩ trivial rfl rfl (by kernel_rfl) (by simp only [V.mat, V.mat1, V.mat0, matL, matT, List.length_map] <;> rfl) (.nilRef rfl)
 ·replace h := cond_f h c1
  refine tri_skip ?_
  refine tri_seq ?_
  refine tri_sr ?_
  refine m1 ?_
  refine s_of (st_eqS rfl rfl rfl) rfl rfl rfl rfl ?_
  refine rt_nil ?_
  refine tri_cond rfl (fun c2 => ?_) (fun c2 => ?_)
  ·replace h := cond_t h c2
   refine tri_sr ?_
   refine m1 ?_
   refine m1 ?_
   cases h
  ·replace h := cond_f h c2
   refine tri_skip ?_
   refine tri_cutI (ι := { p : Int // strings_genSplit_j0 p0 p1 p2 p = some r0 }) (fun p => inv_strings_genSplit_0 p0 p1 p2 p.1) ?_ ?_
   ·skip
    refine tri_sr ?_
    refine m1 ?_
    refine s_of (st_lss rfl rfl rfl) rfl rfl rfl rfl ?_
    refine rt_nil ?_
    refine tri_cond rfl (fun c3 => ?_) (fun c3 => ?_)
    ·replace h := cond_t h c3
     refine tri_region ?_
     refine m1 ?_
     refine m1 ?_
     refine bnd1_elim h fun x4 q5 h => ?_
     refine s_callN (kb := []) (ns := []) (v := .sc (.int .i64 x4)) rfl rfl cl208 (wstrings_Count p0 p1 x4 q5) rfl (.cons (.free rfl) (.cons (.free rfl) .nil)) trivial memNil .nil memNil rfl trivial memNil rfl rfl rfl rfl rfl rfl ?_
     refine grd_elim h fun g6 h => ?_
     refine s_addI rfl rfl rfl rfl g6 rfl rfl rfl ?_
     refine m2 ?_
     refine rt_nil ?_
     refine Exists.intro ⟨x4 + 1, h⟩ ?_
     refine entX [] [] trivial trivial rfl rfl ?_
     exact ⟨(.free rfl), (.free rfl), (.free rfl), (.free rfl), trivial⟩
    ·replace h := cond_f h c3
     refine tri_skip ?_
     refine Exists.intro ⟨p3, h⟩ ?_
     refine entX [] [] trivial trivial rfl rfl ?_
     exact ⟨(.free rfl), (.free rfl), (.free rfl), (.free rfl), trivial⟩
   ·rintro ⟨j0_0, h⟩
    replace h : strings_genSplit_j0 p0 p1 p2 j0_0 = some r0 := h
    unfold strings_genSplit_j0 at h
    show Tri _ _ _ (inv_strings_genSplit_0 p0 p1 p2 j0_0)
    refine tri_sr ?_
    refine m1 ?_
    refine m1 ?_
    refine s_of (st_lenS rfl rfl iss9) rfl rfl rfl rfl ?_
    refine grd_elim h fun g3 h => ?_
    refine s_addI rfl rfl rfl rfl g3 rfl rfl rfl ?_
    refine s_of (st_minI rfl rfl rfl) rfl rfl rfl rfl ?_
    refine m2 ?_
    refine rt_nil ?_
    refine tri_sr ?_
    refine m1 ?_
    refine grd_elim h fun g4 h => ?_
    refine s_makeL (f := strV) (a := (⟨#[]⟩ : ByteArray)) rfl rfl rfl rfl rfl sl33 zc9 rfl rfl rfl rfl g4.1 g4.2 (rowZ_cv rfl rowZ_nil) rfl rfl ?_
    refine m2 ?_
    refine rt_nil ?_
    refine tri_sr ?_
    refine m1 ?_
    refine grd_elim h fun g5 h => ?_
    refine s_subI rfl rfl rfl rfl g5 rfl rfl rfl ?_
    refine m2 ?_
    refine rt_nil ?_
    refine tri_sr ?_
    refine s_mv (.inr rfl) (v := .sc (.int .i64 0)) rfl rfl rfl rfl ?_
    refine rt_nil ?_
    refine tri_cutI (ι := { p : ByteArray × (List ByteArray) × Int // strings_genSplit_j1 p.1 p.2.1 p.2.2 = some r0 }) (fun p => inv_strings_genSplit_1 p.1.1 p.1.2.1 p.1.2.2) ?_ ?_
    ·skip
     refine tri_block ?_
     refine tri_loop (ι := { p : Nat × ByteArray × (List ByteArray) × Int // strings_genSplit_l2 p0 p1 p2 j0_0 p.1 p.2.1 p.2.2.1 p.2.2.2 = some r0 }) (fun p => inv_strings_genSplit_2 p0 p1 p2 j0_0 p.1.2.1 p.1.2.2.1 p.1.2.2.2) (fun p => p.1.1) ⟨(fuel0, p0, List.replicate (if (p0.size : Int) + 1 < j0_0 then (p0.size : Int) + 1 else j0_0).toNat (⟨#[]⟩ : ByteArray), 0), h⟩ ?_ ?_
     ·skip
      refine entX [((31, 0), ⟨9, 1, List.map strV (List.replicate (if (p0.size : Int) + 1 < j0_0 then (p0.size : Int) + 1 else j0_0).toNat (⟨#[]⟩ : ByteArray)), false, true⟩, some (31, 0))] [] ⟨⟨rfl, _, rfl, rfl, rfl, rfl, id, rowsCv_eq rfl (allFree_map strV_free), rowsZ_map strV_len⟩, trivial⟩ trivial rfl rfl ?_
      exact ⟨(.free rfl), (.free rfl), (.free rfl), (.free rfl), (.ref rfl), (.free rfl), trivial⟩
     ·rintro ⟨⟨f2, v2_0, v2_1, v2_2⟩, h⟩
      replace h : strings_genSplit_l2 p0 p1 p2 j0_0 f2 v2_0 v2_1 v2_2 = some r0 := h
      cases f2 with
      | zero => cases h
      | succ f2 =>
      rw [strings_genSplit_l2] at h
      show Tri _ _ _ (inv_strings_genSplit_2 p0 p1 p2 j0_0 v2_0 v2_1 v2_2)
      refine tri_seq ?_
      refine tri_sr ?_
      refine m1 ?_
      refine m1 ?_
      refine s_of (st_lss rfl rfl rfl) rfl rfl rfl rfl ?_
      refine rt_nil ?_
      refine tri_cond rfl (fun c6 => ?_) (fun c6 => ?_)
      ·replace h := cond_t h c6
       refine tri_skip ?_
       refine tri_block ?_
       refine tri_sr ?_
       refine m1 ?_
       refine m1 ?_
       refine bnd1_elim h fun x7 q8 h => ?_
       refine s_callN (kb := []) (ns := []) (v := .sc (.int .i64 x7)) rfl rfl cl209 (wstrings_Index v2_0 p1 x7 q8) rfl (.cons (.free rfl) (.cons (.free rfl) .nil)) trivial memNil .nil memNil rfl trivial memNil rfl rfl rfl rfl rfl rfl ?_
       refine m2 ?_
       refine rt_nil ?_
       refine tri_seq ?_
       refine tri_sr ?_
       refine m1 ?_
       refine s_of (st_lss rfl rfl rfl) rfl rfl rfl rfl ?_
       refine rt_nil ?_
       refine tri_cond rfl (fun c9 => ?_) (fun c9 => ?_)
       ·replace h := cond_t h c9
        refine tri_exit ?_
        refine Exists.intro ⟨(v2_0, v2_1, v2_2), h⟩ ?_
        refine entX [((31, 0), ⟨9, 1, List.map strV v2_1, false, true⟩, some (31, 0))] [] ⟨⟨rfl, _, rfl, rfl, rfl, rfl, id, rowsCv_eq rfl (allFree_map strV_free), rowsZ_map strV_len⟩, trivial⟩ trivial rfl rfl ?_
        exact ⟨(.free rfl), (.ref rfl), (.free rfl), trivial⟩
       ·replace h := cond_f h c9
        refine tri_skip ?_
        refine tri_sr ?_
        refine m1 ?_
        refine m1 ?_
        refine m1 ?_
        refine m1 ?_
        refine m1 ?_
        refine grd_elim h fun g10 h => ?_
        refine s_addI rfl rfl rfl rfl g10 rfl rfl rfl ?_
        refine grd_elim h fun g11 h => ?_
        refine s_sliceS (a := ((0 : Nat) : Int)) (b := x7 + p2) rfl rfl iss9 rfl ⟨_, rfl⟩ g11 rfl rfl rfl ?_
        refine bnd1_elim h fun x12 q13 h => ?_
        have q13a := (idx_some q13).1; have q13b := (idx_some q13).2
        refine s_indexZ rfl rfl rfl rfl sl33 rfl q13a (get_lt q13b) rfl rfl rfl ?_
        refine s_storeL (x' := v2_0.extract ((0 : Nat) : Int).toNat (x7 + p2).toNat) rfl rfl rfl q13b ty9 rfl rfl rfl rfl rfl rfl ?_
        refine rt_nil ?_
        refine tri_sr ?_
        refine m1 ?_
        refine m1 ?_
        refine m1 ?_
        refine s_of (st_lenS rfl rfl iss9) rfl rfl rfl rfl ?_
        refine grd_elim h fun g14 h => ?_
        refine s_addI rfl rfl rfl rfl g14 rfl rfl rfl ?_
        refine grd_elim h fun g15 h => ?_
        refine s_sliceS (a := x7 + (p1.size : Int)) (b := (v2_0.size : Int)) rfl rfl iss9 ⟨_, rfl⟩ rfl g15 rfl rfl rfl ?_
        refine m2 ?_
        refine rt_nil ?_
        refine tri_region ?_
        refine m1 ?_
        refine grd_elim h fun g16 h => ?_
        refine s_addI rfl rfl rfl rfl g16 rfl rfl rfl ?_
        refine m2 ?_
        refine rt_nil ?_
        refine Exists.intro ⟨(f2, v2_0.extract (x7 + (p1.size : Int)).toNat (v2_0.size : Int).toNat, v2_1.set v2_2.toNat (v2_0.extract ((0 : Nat) : Int).toNat (x7 + p2).toNat), v2_2 + 1), h⟩ (And.intro (Nat.lt_succ_self _) ?_)
        refine entX [((31, 0), ⟨9, 1, List.map strV (v2_1.set v2_2.toNat (v2_0.extract ((0 : Nat) : Int).toNat (x7 + p2).toNat)), false, true⟩, some (31, 0))] [] ⟨⟨rfl, _, rfl, rfl, rfl, rfl, id, rowsCv_eq rfl (allFree_map strV_free), rowsZ_map strV_len⟩, trivial⟩ trivial rfl rfl ?_
        exact ⟨(.free rfl), (.free rfl), (.free rfl), (.free rfl), (cvRefLen rfl (by simp only [List.length_set])), (.free rfl), trivial⟩
      ·replace h := cond_f h c6
       refine tri_exit ?_
       refine Exists.intro ⟨(v2_0, v2_1, v2_2), h⟩ ?_
       refine entX [((31, 0), ⟨9, 1, List.map strV v2_1, false, true⟩, some (31, 0))] [] ⟨⟨rfl, _, rfl, rfl, rfl, rfl, id, rowsCv_eq rfl (allFree_map strV_free), rowsZ_map strV_len⟩, trivial⟩ trivial rfl rfl ?_
       exact ⟨(.free rfl), (.ref rfl), (.free rfl), trivial⟩
    ·rintro ⟨⟨j1_0, j1_1, j1_2⟩, h⟩
     replace h : strings_genSplit_j1 j1_0 j1_1 j1_2 = some r0 := h
     unfold strings_genSplit_j1 at h
     show Tri _ _ _ (inv_strings_genSplit_1 j1_0 j1_1 j1_2)
     refine tri_sr ?_
     refine m1 ?_
     refine m1 ?_
     refine m1 ?_
     refine bnd1_elim h fun x6 q7 h => ?_
     have q7a := (idx_some q7).1; have q7b := (idx_some q7).2
     refine s_indexZ rfl rfl rfl rfl sl33 rfl q7a (get_lt q7b) rfl rfl rfl ?_
     refine s_storeL (x' := j1_0) rfl rfl rfl q7b ty9 rfl rfl rfl rfl rfl rfl ?_
     refine rt_nil ?_
     refine tri_sr ?_
     refine m1 ?_
     refine m1 ?_
     refine grd_elim h fun g8 h => ?_
     refine s_addI rfl rfl rfl rfl g8 rfl rfl rfl ?_
     refine grd_elim h fun g9 h => ?_
     refine s_sliceZ (a := ((0 : Nat) : Int)) (b := j1_2 + 1) rfl rfl rfl sl33 rfl rfl ⟨_, rfl⟩ g9 rfl rfl rfl ?_
     refine m2 ?_
     refine rt_nil ?_
     refine tri_ret ?_
     have e0 := (some1 h); subst e0
     exact endY (v' := .ref (2000, 0) 0 ((((j1_1.set j1_2.toNat j1_0).drop (0 + ((0 : Nat) : Int).toNat)).take ((j1_2 + 1).toNat - ((0 : Nat) : Int).toNat)).length)) [((2000, 0), ⟨9, 1, List.map strV (((j1_1.set j1_2.toNat j1_0).drop (0 + ((0 : Nat) : Int).toNat)).take ((j1_2 + 1).toNat - ((0 : Nat) : Int).toNat)), false, true⟩, some (31, 0))] [] (rvC (resTmp rfl) rvN) ⟨⟨rfl, _, rfl, rfl, rfl, rfl, id, rowsCv_pre rfl strV_free, rowsZ_map strV_len⟩, trivial⟩ trivial rfl rfl (by kernel_rfl) (by simp only [V.mat, V.mat1, V.mat0, matL, matT, List.length_map] <;> rfl) (cvRefPre rfl rfl (by simp only [List.length_take, List.length_drop, List.length_set]; omega))

/- strings.Split -/

set_option maxRecDepth 4000 in
set_option maxHeartbeats 800000 in
theorem wstrings_Split (p0 : ByteArray) (p1 : ByteArray) (r0 : List ByteArray) (h : strings_Split p0 p1 = some r0) : Runs Tryd.prog 151 [.sc (.string p0), .sc (.string p1)] [] (.own 9 1 (List.map strV r0)) [] := by
 unfold strings_Split at h
 refine runsR [.tmp 4] Tryd.func151 rfl rfl rfl rfl ?_
 rw [Tryd.ntmps151]
 refine tri_sr ?_
 refine s_mv (.inr rfl) (v := .nils) rfl rfl rfl rfl ?_
 refine rt_nil ?_
 refine tri_sr ?_
 refine m1 ?_
 refine m1 ?_
 refine bnd1_elim h fun x1 q2 h => ?_
 refine s_callN (kb := []) (ns := []) (v := .ref (7, 0) 0 x1.length) rfl rfl cl186 (wstrings_genSplit p0 p1 0 (-1) x1 q2) rfl (.cons (.free rfl) (.cons (.free rfl) (.cons (.free rfl) (.cons (.free rfl) .nil)))) trivial memNil .nil memNil rfl ⟨(allSc_map strV_sc), trivial⟩ memNil rfl (by simp only [V.mat, V.mat1, V.mat0, matL, matT, List.length_map] <;> rfl) rfl rfl rfl rfl ?_
 refine m2 ?_
 refine rt_nil ?_
 refine tri_ret ?_
 have e0 := (some1 h); subst e0
 exact endY (v' := .ref (2000, 0) 0 x1.length) [((2000, 0), ⟨9, 1, List.map strV x1, false, true⟩, some (7, 0))] [] (rvC (resTmp rfl) rvN) ⟨⟨rfl, _, rfl, rfl, rfl, rfl, id, rowsCv_eq rfl (allFree_map strV_free), rowsZ_map strV_len⟩, trivial⟩ trivial rfl rfl (by kernel_rfl) (by simp only [V.mat, V.mat1, V.mat0, matL, matT, List.length_map] <;> rfl) (.ref rfl)

/- impl.Labels -/

set_option maxRecDepth 4000 in
set_option maxHeartbeats 800000 in
theorem wi_Labels (p0 : ByteArray) (r0 : List ByteArray) (h : i_Labels p0 = some r0) : Runs Tryd.prog 96 [.sc (.string p0)] [] (.own 9 1 (List.map strV r0)) [] := by
 unfold i_Labels at h
 refine runsR [.tmp 2] Tryd.func96 rfl rfl rfl rfl ?_
 rw [Tryd.ntmps96]
 refine tri_sr ?_
 refine s_mv (.inr rfl) (v := .nils) rfl rfl rfl rfl ?_
 refine rt_nil ?_
 refine tri_seq ?_
 refine tri_sr ?_
 refine m1 ?_
 refine s_of (st_eqS rfl rfl rfl) rfl rfl rfl rfl ?_
 refine rt_nil ?_
 refine tri_cond rfl (fun c1 => ?_) (fun c1 => ?_)
 ·replace h := cond_t h c1
  refine tri_sr ?_
  refine s_mv (.inr rfl) (v := .nils) rfl rfl rfl rfl ?_
  refine rt_nil ?_
  refine tri_ret ?_
  have e0 := (some1 h); subst e0
  exact endY (v' := .ref (2000, 0) 0 (([] : List ByteArray).length)) [((2000, 0), ⟨9, 1, List.map strV ([] : List ByteArray), false, true⟩, none)] [] (rvC (resTmp rfl) rvN) ⟨rfl, trivial⟩ trivial rfl rfl (by kernel_rfl) (by simp only [V.mat, V.mat1, V.mat0, matL, matT, List.length_map] <;> rfl) (.nilRef rfl)
 ·replace h := cond_f h c1
  refine tri_skip ?_
  refine tri_sr ?_
  refine m1 ?_
  refine bnd1_elim h fun x2 q3 h => ?_
  refine s_callN (kb := []) (ns := []) (v := .ref (6, 0) 0 x2.length) rfl rfl cl151 (wstrings_Split p0 (⟨#[46]⟩ : ByteArray) x2 q3) rfl (.cons (.free rfl) (.cons (.free rfl) .nil)) trivial memNil .nil memNil rfl ⟨(allSc_map strV_sc), trivial⟩ memNil rfl (by simp only [V.mat, V.mat1, V.mat0, matL, matT, List.length_map] <;> rfl) rfl rfl rfl rfl ?_
  refine m2 ?_
  refine rt_nil ?_
  refine tri_ret ?_
  have e0 := (some1 h); subst e0
  exact endY (v' := .ref (2000, 0) 0 x2.length) [((2000, 0), ⟨9, 1, List.map strV x2, false, true⟩, some (6, 0))] [] (rvC (resTmp rfl) rvN) ⟨⟨rfl, _, rfl, rfl, rfl, rfl, id, rowsCv_eq rfl (allFree_map strV_free), rowsZ_map strV_len⟩, trivial⟩ trivial rfl rfl (by kernel_rfl) (by simp only [V.mat, V.mat1, V.mat0, matL, matT, List.length_map] <;> rfl) (.ref rfl)

/- slices.Equal[[]string,string] -/
def inv_slices_Equal_string_0 (p0 : List ByteArray) (p1 : List ByteArray) (v0_0 : Nat) : St := mkT 26 [(0, .lst 1 (List.map strV p0)), (1, .lst 1 (List.map strV p1)), (12, .sc (.int .i64 (p0.length : Int))), (13, .sc (.int .i64 (v0_0 : Int)))] []
set_option maxRecDepth 4000 in
set_option maxHeartbeats 800000 in
theorem wslices_Equal_string (p0 : List ByteArray) (p1 : List ByteArray) (r0 : Bool) (h : slices_Equal_string p0 p1 = some r0) : Runs Tryd.prog 97 [.lst 1 (List.map strV p0), .lst 1 (List.map strV p1)] [] (.sc (.bool r0)) [] := by
 unfold slices_Equal_string at h
 refine runsR [.tmp 4] Tryd.func97 rfl rfl rfl rfl ?_
 rw [Tryd.ntmps97]
 refine tri_sr ?_
 refine s_mv (.inr rfl) (v := .sc (.bool false)) rfl rfl rfl rfl ?_
 refine rt_nil ?_
 refine tri_seq ?_
 refine tri_sr ?_
 refine m1 ?_
 refine s_lenL rfl sl33 rfl rfl rfl rfl ?_
 refine m1 ?_
 refine s_lenL rfl sl33 rfl rfl rfl rfl ?_
 refine s_of (st_neI rfl rfl rfl) rfl rfl rfl rfl ?_
 refine rt_nil ?_
 refine tri_cond rfl (fun c1 => ?_) (fun c1 => ?_)
 ·replace h := cond_t h c1
  refine tri_sr ?_
  refine s_mv (.inr rfl) (v := .sc (.bool false)) rfl rfl rfl rfl ?_
  refine rt_nil ?_
  refine tri_ret ?_
  have e0 := (some1 h); subst e0
  exact endY [] [] (rvC (resTmp rfl) rvN) trivial trivial rfl rfl rfl rfl (.free rfl)
 ·replace h := cond_f h c1
  refine tri_skip ?_
  refine tri_seq ?_
  refine tri_sr ?_
  refine m1 ?_
  refine s_lenL rfl sl33 rfl rfl rfl rfl ?_
  refine s_mv (.inl rfl) (v := .sc (.int .i64 0)) rfl rfl rfl rfl ?_
  refine rt_nil ?_
  refine tri_block ?_
  refine tri_lstM 0 rfl (fun hl0 => ?_)
  refine tri_loop (ι := { p : (List ByteArray) × Nat // p0.drop p.2 = p.1 ∧ slices_Equal_string_l0 p1 p.1 p.2 = some r0 }) (fun p => inv_slices_Equal_string_0 p0 p1 p.1.2) (fun p => p.1.1.length) ⟨(p0, 0), rfl, h⟩ ?_ ?_
  ·skip
   refine entX [] [] trivial trivial rfl rfl ?_
   exact ⟨(.free rfl), (.free rfl), (.free rfl), (.free rfl), trivial⟩
  ·rintro ⟨⟨lrs0, v0_0⟩, hd0, h⟩
   replace hd0 : p0.drop v0_0 = lrs0 := hd0
   replace h : slices_Equal_string_l0 p1 lrs0 v0_0 = some r0 := h
   show Tri _ _ _ (inv_slices_Equal_string_0 p0 p1 v0_0)
   refine tri_sr ?_
   refine s_of (st_lss rfl rfl rfl) rfl rfl rfl rfl ?_
   refine rt_nil ?_
   refine tri_seq ?_
   refine tri_cond rfl (fun c2 => ?_) (fun c2 => ?_)
   ·refine drop_elim hd0 c2 fun e0 rs0 he hx0 hn0 => ?_
    subst he
    rw [slices_Equal_string_l0] at h
    refine tri_skip ?_
    refine tri_seq ?_
    refine tri_block ?_
    refine tri_sr ?_
    refine m1 ?_
    refine m2 ?_
    refine rt_nil ?_
    refine tri_seq ?_
    refine tri_draw mixed ?_
    refine m1 ?_
    refine m1 ?_
    refine s_indexF (i := v0_0) rfl rfl rfl sl33 (get_ltM hx0) rfl rfl rfl ?_
    refine s_loadF rfl rfl (rowG hx0) ty9 rfl (.inr rfl) (by conv => lhs; whnf) rfl rfl rfl ?_
    refine m1 ?_
    refine m1 ?_
    refine bnd1_elim h fun x3 q4 h => ?_
    have q4a := (idx_some q4).1; have q4b := (idx_some q4).2
    refine s_indexFZ rfl rfl rfl sl33 q4a (get_ltM q4b) rfl rfl rfl ?_
    refine s_loadF rfl rfl (rowG q4b) ty9 rfl (.inr rfl) (by conv => lhs; whnf) rfl rfl rfl ?_
    refine s_of (st_neS rfl rfl rfl) rfl rfl rfl rfl ?_
    refine rt_nil ⟨by kernel_rfl, ?_⟩
    refine tri_cond rfl (fun c5 => ?_) (fun c5 => ?_)
    ·replace h := cond_t h c5
     refine tri_sr ?_
     refine s_mv (.inr rfl) (v := .sc (.bool false)) rfl rfl rfl rfl ?_
     refine rt_nil ?_
     refine tri_ret ?_
     have e0 := (some1 h); subst e0
     exact endY [] [] (rvC (resTmp rfl) rvN) trivial trivial rfl rfl rfl rfl (.free rfl)
    ·replace h := cond_f h c5
     refine tri_skip ?_
     refine tri_region ?_
     refine s_inc (a := v0_0) (b := 1) rfl rfl rfl rfl (by have := get_lt hx0; have := hl0; omega) rfl rfl rfl ?_
     refine m1 ?_
     refine rt_nil ?_
     refine Exists.intro ⟨(rs0, (v0_0 + 1)), hn0, h⟩ (And.intro (Nat.lt_succ_self _) ?_)
     refine entX [] [] trivial trivial rfl rfl ?_
     exact ⟨(.free rfl), (.free rfl), (.free rfl), (.free rfl), trivial⟩
   ·have he := drop_f hd0 c2; subst he
    rw [slices_Equal_string_l0] at h
    refine tri_exit ?_
    refine tri_sr ?_
    refine s_mv (.inr rfl) (v := .sc (.bool true)) rfl rfl rfl rfl ?_
    refine rt_nil ?_
    refine tri_ret ?_
    have e0 := (some1 h); subst e0
    exact endY [] [] (rvC (resTmp rfl) rvN) trivial trivial rfl rfl rfl rfl (.free rfl)

/- impl.Under -/

set_option maxRecDepth 4000 in
set_option maxHeartbeats 800000 in
theorem wi_Under (p0 : ByteArray) (p1 : ByteArray) (r0 : Bool) (h : i_Under p0 p1 = some r0) : Runs Tryd.prog 17 [.sc (.string p0), .sc (.string p1)] [] (.sc (.bool r0)) [] := by
 unfold i_Under at h
 refine runsR [.tmp 4] Tryd.func17 rfl rfl rfl rfl ?_
 rw [Tryd.ntmps17]
 refine tri_sr ?_
 refine s_mv (.inr rfl) (v := .sc (.bool false)) rfl rfl rfl rfl ?_
 refine rt_nil ?_
 refine tri_sr ?_
 refine m1 ?_
 refine bnd1_elim h fun x1 q2 h => ?_
 refine s_callN (kb := []) (ns := []) (v := .ref (8, 0) 0 x1.length) rfl rfl cl96 (wi_Labels p0 x1 q2) rfl (.cons (.free rfl) .nil) trivial memNil .nil memNil rfl ⟨(allSc_map strV_sc), trivial⟩ memNil rfl (by simp only [V.mat, V.mat1, V.mat0, matL, matT, List.length_map] <;> rfl) rfl rfl rfl rfl ?_
 refine m1 ?_
 refine bnd1_elim h fun x3 q4 h => ?_
 refine s_callN (kb := []) (ns := []) (v := .ref (10, 0) 0 x3.length) rfl rfl cl96 (wi_Labels p1 x3 q4) rfl (.cons (.free rfl) .nil) trivial memNil .nil memNil rfl ⟨(allSc_map strV_sc), trivial⟩ memNil rfl (by simp only [V.mat, V.mat1, V.mat0, matL, matT, List.length_map] <;> rfl) rfl rfl rfl rfl ?_
 refine m2 ?_
 refine m2 ?_
 refine rt_nil ?_
 refine tri_sr ?_
 refine m1 ?_
 refine s_len (m := x1.length) rfl sl33 rfl rfl rfl rfl ?_
 refine m1 ?_
 refine s_len (m := x3.length) rfl sl33 rfl rfl rfl rfl ?_
 refine s_of (st_geq rfl rfl rfl) rfl rfl rfl rfl ?_
 refine m1 ?_
 refine s_split (t := 16) rfl (fun b5 => ?_) (fun b5 => ?_)
 ·replace h := cond_t h b5
  refine m1 ?_
  refine m1 ?_
  refine s_len (m := x1.length) rfl sl33 rfl rfl rfl rfl ?_
  refine m1 ?_
  refine s_len (m := x3.length) rfl sl33 rfl rfl rfl rfl ?_
  refine grd_elim h fun g6 h => ?_
  refine s_subI rfl rfl rfl rfl g6 rfl rfl rfl ?_
  refine grd_elim h fun g7 h => ?_
  refine s_sliceZ (a := (x1.length : Int) - (x3.length : Int)) (b := (x1.length : Int)) rfl rfl rfl sl33 rfl ⟨_, rfl⟩ rfl g7 rfl rfl rfl ?_
  refine m1 ?_
  refine bnd1_elim h fun x8 q9 h => ?_
  refine s_callN (kb := [(8, 0), (10, 0)]) (ns := []) (v := .sc (.bool x8)) rfl rfl cl97 (wslices_Equal_string ((x1.drop (0 + ((x1.length : Int) - (x3.length : Int)).toNat)).take ((x1.length : Int).toNat - ((x1.length : Int) - (x3.length : Int)).toNat)) x3 x8 q9) rfl (.cons (lendV rfl (.head _) (by first | omega | (simp only [List.length_set]; omega)) strV_free strV_len) (.cons (lendL rfl (.tail _ (.head _)) rfl strV_free strV_len) .nil)) trivial memNil .nil (fun _ _ => List.not_mem_nil) rfl trivial memNil rfl rfl rfl rfl rfl rfl ?_
  refine s_pickT rfl rfl (by conv => lhs; whnf) rfl rfl rfl ?_
  refine m2 ?_
  refine rt_nil ?_
  refine tri_ret ?_
  have e0 := (some1 h); subst e0
  exact endY [] [] (rvC (resTmp rfl) rvN) trivial trivial rfl rfl rfl rfl (.free rfl)
 ·replace h := cond_f h b5
  refine s_skip rfl rfl rfl ?_
  refine s_skip rfl rfl rfl ?_
  refine s_skip rfl rfl rfl ?_
  refine s_skip rfl rfl rfl ?_
  refine s_skip rfl rfl rfl ?_
  refine s_skip rfl rfl rfl ?_
  refine s_skip rfl rfl rfl ?_
  refine s_skip rfl rfl rfl ?_
  refine s_skip rfl rfl rfl ?_
  refine s_pickF rfl rfl (v := .sc (.bool false)) rfl rfl rfl rfl ?_
  refine m2 ?_
  refine rt_nil ?_
  refine tri_ret ?_
  have e0 := (some1 h); subst e0
  exact endY [] [] (rvC (resTmp rfl) rvN) trivial trivial rfl rfl rfl rfl (.free rfl)

/- impl.DownIn -/
def inv_i_DownIn_1 (p0 : MMsg) (p1 : ByteArray) (v0_0 : Nat) (e0 : Rec) (j1_0 : Bool) : St := mkT 41 [(1, .sc (.string p1)), (2, .ptr (2, 0) 0 0), (7, .ptr (7, 0) 0 0), (9, .lst 6 (List.map recV p0.au)), (10, .sc (.int .i64 (p0.au.length : Int))), (11, .sc (.int .i64 (v0_0 : Int))), (37, .sc (.bool j1_0))] [((2, 0), some ⟨50, 12, [[.sc (.int .i64 p0.id), .sc (.bool p0.reply), .sc (.bool p0.auth), .sc (.bool p0.cut), .sc (.bool p0.want), .sc (.bool p0.can), .sc (.int .i64 p0.code), .sc (.string p0.q.name), .sc (.int .i64 p0.q.ty), .lst 6 (List.map recV p0.an), .lst 6 (List.map recV p0.au), .lst 6 (List.map recV p0.ad)]], false, true⟩), ((7, 0), some ⟨39, 6, [[.sc (.string e0.name), .sc (.int .i64 e0.ty), .sc (.int .i64 e0.ttl), .sc (.int .i64 e0.n), .sc (.string e0.host), .sc (.string e0.text)]], false, true⟩)]
def inv_i_DownIn_0 (p0 : MMsg) (p1 : ByteArray) (v0_0 : Nat) : St := mkT 41 [(1, .sc (.string p1)), (2, .ptr (2, 0) 0 0), (9, .lst 6 (List.map recV p0.au)), (10, .sc (.int .i64 (p0.au.length : Int))), (11, .sc (.int .i64 (v0_0 : Int)))] [((2, 0), some ⟨50, 12, [[.sc (.int .i64 p0.id), .sc (.bool p0.reply), .sc (.bool p0.auth), .sc (.bool p0.cut), .sc (.bool p0.want), .sc (.bool p0.can), .sc (.int .i64 p0.code), .sc (.string p0.q.name), .sc (.int .i64 p0.q.ty), .lst 6 (List.map recV p0.an), .lst 6 (List.map recV p0.au), .lst 6 (List.map recV p0.ad)]], false, true⟩)]
set_option maxRecDepth 4000 in
set_option maxHeartbeats 800000 in
theorem wi_DownIn (p0 : MMsg) (p1 : ByteArray) (r0 : ByteArray) (r1 : Bool) (h : i_DownIn p0 p1 = some (r0, r1)) : Runs Tryd.prog 28 [.agg (mMsgV p0), .sc (.string p1)] [] (.tup [.sc (.string r0), .sc (.bool r1)]) [] := by
 unfold i_DownIn at h
 refine runsR [.tmp 4, .tmp 5] Tryd.func28 rfl rfl rfl rfl ?_
 rw [Tryd.ntmps28]
 refine tri_sr ?_
 refine s_box rfl rfl rfl rfl rfl rfl rfl ?_
 refine s_mv (.inr rfl) (v := .sc (.string (⟨#[]⟩ : ByteArray))) rfl rfl rfl rfl ?_
 refine s_mv (.inr rfl) (v := .sc (.bool false)) rfl rfl rfl rfl ?_
 refine rt_nil ?_
 refine tri_seq ?_
 refine tri_sr ?_
 refine s_fieldAddr rfl rfl fd50_9 rfl rfl rfl rfl ?_
 refine s_load rfl rfl rfl rfl ty24 rfl (.inr rfl) (by conv => lhs; whnf) rfl rfl rfl ?_
 refine s_lenL rfl sl24 rfl rfl rfl rfl ?_
 refine s_mv (.inl rfl) (v := .sc (.int .i64 0)) rfl rfl rfl rfl ?_
 refine rt_nil ?_
 refine tri_block ?_
 refine tri_aggM 0 10 rfl rfl (fun hl0 => ?_)
 refine tri_loop (ι := { p : (List Rec) × Nat // p0.au.drop p.2 = p.1 ∧ i_DownIn_l0 p0 p1 p.1 p.2 = some (r0, r1) }) (fun p => inv_i_DownIn_0 p0 p1 p.1.2) (fun p => p.1.1.length) ⟨(p0.au, 0), rfl, h⟩ ?_ ?_
 ·skip
  refine entX [((2, 0), ⟨50, 12, [[.sc (.int .i64 p0.id), .sc (.bool p0.reply), .sc (.bool p0.auth), .sc (.bool p0.cut), .sc (.bool p0.want), .sc (.bool p0.can), .sc (.int .i64 p0.code), .sc (.string p0.q.name), .sc (.int .i64 p0.q.ty), .lst 6 (List.map recV p0.an), .lst 6 (List.map recV p0.au), .lst 6 (List.map recV p0.ad)]], false, true⟩, some (2, 0))] [] ⟨⟨rfl, _, rfl, rfl, rfl, rfl, id, rowsCv_one (.cons (.free rfl) (.cons (.free rfl) (.cons (.free rfl) (.cons (.free rfl) (.cons (.free rfl) (.cons (.free rfl) (.cons (.free rfl) (.cons (.free rfl) (.cons (.free rfl) (.cons (.free rfl) (.cons (.free rfl) (.cons (.free rfl) .nil)))))))))))), rowsZ_one rfl⟩, trivial⟩ trivial rfl rfl ?_
  exact ⟨(.free rfl), (.ptr rfl), (.free rfl), (.free rfl), (.free rfl), trivial⟩
 ·rintro ⟨⟨lrs0, v0_0⟩, hd0, h⟩
  replace hd0 : p0.au.drop v0_0 = lrs0 := hd0
  replace h : i_DownIn_l0 p0 p1 lrs0 v0_0 = some (r0, r1) := h
  show Tri _ _ _ (inv_i_DownIn_0 p0 p1 v0_0)
  refine tri_sr ?_
  refine s_of (st_lss rfl rfl rfl) rfl rfl rfl rfl ?_
  refine rt_nil ?_
  refine tri_seq ?_
  refine tri_cond rfl (fun c1 => ?_) (fun c1 => ?_)
  ·refine drop_elim hd0 c1 fun e0 rs0 he hx0 hn0 => ?_
   subst he
   rw [i_DownIn_l0] at h
   refine tri_skip ?_
   refine tri_seq ?_
   refine tri_block ?_
   refine tri_sr ?_
   refine s_indexF (i := v0_0) rfl rfl rfl sl24 (get_ltM hx0) rfl rfl rfl ?_
   refine s_loadFR rfl rfl (rowG hx0) ty39 rfl rfl rfl ?_
   refine s_alloc rfl rfl rfl zc39 rfl rfl rfl rfl rfl ?_
   refine s_storeB rfl rfl rfl ty39 rfl rfl rfl rfl rfl ?_
   refine rt_nil ?_
   refine tri_cutI (ι := { p : Bool // i_DownIn_j1 v0_0 e0 (i_DownIn_l0 p0 p1 rs0) p = some (r0, r1) }) (fun p => inv_i_DownIn_1 p0 p1 v0_0 e0 p.1) ?_ ?_
   ·skip
    refine tri_region ?_
    refine s_fieldAddr rfl rfl fd39_1 rfl rfl rfl rfl ?_
    refine s_load rfl rfl rfl rfl ty3 rfl (.inr rfl) (by conv => lhs; whnf) rfl rfl rfl ?_
    refine s_of (st_eqI rfl rfl rfl) rfl rfl rfl rfl ?_
    refine m1 ?_
    refine s_split (t := 18) rfl (fun b2 => ?_) (fun b2 => ?_)
    ·replace h := cond_t h b2
     refine s_fieldAddr rfl rfl fd39_0 rfl rfl rfl rfl ?_
     refine s_load rfl rfl rfl rfl ty9 rfl (.inr rfl) (by conv => lhs; whnf) rfl rfl rfl ?_
     refine m1 ?_
     refine s_of (st_neS rfl rfl rfl) rfl rfl rfl rfl ?_
     refine s_pickT rfl rfl (by conv => lhs; whnf) rfl rfl rfl ?_
     refine m1 ?_
     refine s_split (t := 24) rfl (fun b3 => ?_) (fun b3 => ?_)
     ·replace h := cond_t h b3
      refine s_fieldAddr rfl rfl fd39_0 rfl rfl rfl rfl ?_
      refine s_load rfl rfl rfl rfl ty9 rfl (.inr rfl) (by conv => lhs; whnf) rfl rfl rfl ?_
      refine m1 ?_
      refine bnd1_elim h fun x4 q5 h => ?_
      refine s_callN (kb := []) (ns := []) (v := .sc (.bool x4)) rfl rfl cl17 (wi_Under e0.name p1 x4 q5) rfl (.cons (.free rfl) (.cons (.free rfl) .nil)) trivial memNil .nil memNil rfl trivial memNil rfl rfl rfl rfl rfl rfl ?_
      refine s_pickT rfl rfl (by conv => lhs; whnf) rfl rfl rfl ?_
      refine m1 ?_
      refine s_split (t := 30) rfl (fun b6 => ?_) (fun b6 => ?_)
      ·replace h := cond_t h b6
       refine s_fieldAddr rfl rfl fd50_7 rfl rfl rfl rfl ?_
       refine s_fieldAddr rfl rfl fd28_0 rfl rfl rfl rfl ?_
       refine s_load rfl rfl rfl rfl ty9 rfl (.inr rfl) (by conv => lhs; whnf) rfl rfl rfl ?_
       refine s_fieldAddr rfl rfl fd39_0 rfl rfl rfl rfl ?_
       refine s_load rfl rfl rfl rfl ty9 rfl (.inr rfl) (by conv => lhs; whnf) rfl rfl rfl ?_
       refine bnd1_elim h fun x7 q8 h => ?_
       refine s_callN (kb := []) (ns := []) (v := .sc (.bool x7)) rfl rfl cl17 (wi_Under p0.q.name e0.name x7 q8) rfl (.cons (.free rfl) (.cons (.free rfl) .nil)) trivial memNil .nil memNil rfl trivial memNil rfl rfl rfl rfl rfl rfl ?_
       refine s_pickT rfl rfl (by conv => lhs; whnf) rfl rfl rfl ?_
       refine rt_nil ?_
       refine Exists.intro ⟨x7, h⟩ ?_
       refine entX [((2, 0), ⟨50, 12, [[.sc (.int .i64 p0.id), .sc (.bool p0.reply), .sc (.bool p0.auth), .sc (.bool p0.cut), .sc (.bool p0.want), .sc (.bool p0.can), .sc (.int .i64 p0.code), .sc (.string p0.q.name), .sc (.int .i64 p0.q.ty), .lst 6 (List.map recV p0.an), .lst 6 (List.map recV p0.au), .lst 6 (List.map recV p0.ad)]], false, true⟩, some (2, 0)), ((7, 0), ⟨39, 6, [[.sc (.string e0.name), .sc (.int .i64 e0.ty), .sc (.int .i64 e0.ttl), .sc (.int .i64 e0.n), .sc (.string e0.host), .sc (.string e0.text)]], false, true⟩, some (7, 0))] [] ⟨⟨rfl, _, rfl, rfl, rfl, rfl, id, rowsCv_one (.cons (.free rfl) (.cons (.free rfl) (.cons (.free rfl) (.cons (.free rfl) (.cons (.free rfl) (.cons (.free rfl) (.cons (.free rfl) (.cons (.free rfl) (.cons (.free rfl) (.cons (.free rfl) (.cons (.free rfl) (.cons (.free rfl) .nil)))))))))))), rowsZ_one rfl⟩, ⟨rfl, _, rfl, rfl, rfl, rfl, id, rowsCv_one (.cons (.free rfl) (.cons (.free rfl) (.cons (.free rfl) (.cons (.free rfl) (.cons (.free rfl) (.cons (.free rfl) .nil)))))), rowsZ_one rfl⟩, trivial⟩ trivial rfl rfl ?_
       exact ⟨(.free rfl), (.ptr rfl), (.ptr rfl), (.free rfl), (.free rfl), (.free rfl), (.free rfl), trivial⟩
      ·replace h := cond_f h b6
       refine s_skip rfl rfl rfl ?_
       refine s_skip rfl rfl rfl ?_
       refine s_skip rfl rfl rfl ?_
       refine s_skip rfl rfl rfl ?_
       refine s_skip rfl rfl rfl ?_
       refine s_skip rfl rfl rfl ?_
       refine s_pickF rfl rfl (v := .sc (.bool false)) rfl rfl rfl rfl ?_
       refine rt_nil ?_
       refine Exists.intro ⟨false, h⟩ ?_
       refine entX [((2, 0), ⟨50, 12, [[.sc (.int .i64 p0.id), .sc (.bool p0.reply), .sc (.bool p0.auth), .sc (.bool p0.cut), .sc (.bool p0.want), .sc (.bool p0.can), .sc (.int .i64 p0.code), .sc (.string p0.q.name), .sc (.int .i64 p0.q.ty), .lst 6 (List.map recV p0.an), .lst 6 (List.map recV p0.au), .lst 6 (List.map recV p0.ad)]], false, true⟩, some (2, 0)), ((7, 0), ⟨39, 6, [[.sc (.string e0.name), .sc (.int .i64 e0.ty), .sc (.int .i64 e0.ttl), .sc (.int .i64 e0.n), .sc (.string e0.host), .sc (.string e0.text)]], false, true⟩, some (7, 0))] [] ⟨⟨rfl, _, rfl, rfl, rfl, rfl, id, rowsCv_one (.cons (.free rfl) (.cons (.free rfl) (.cons (.free rfl) (.cons (.free rfl) (.cons (.free rfl) (.cons (.free rfl) (.cons (.free rfl) (.cons (.free rfl) (.cons (.free rfl) (.cons (.free rfl) (.cons (.free rfl) (.cons (.free rfl) .nil)))))))))))), rowsZ_one rfl⟩, ⟨rfl, _, rfl, rfl, rfl, rfl, id, rowsCv_one (.cons (.free rfl) (.cons (.free rfl) (.cons (.free rfl) (.cons (.free rfl) (.cons (.free rfl) (.cons (.free rfl) .nil)))))), rowsZ_one rfl⟩, trivial⟩ trivial rfl rfl ?_
       exact ⟨(.free rfl), (.ptr rfl), (.ptr rfl), (.free rfl), (.free rfl), (.free rfl), (.free rfl), trivial⟩
     ·replace h := cond_f h b3
      refine s_skip rfl rfl rfl ?_
      refine s_skip rfl rfl rfl ?_
      refine s_skip rfl rfl rfl ?_
      refine s_skip rfl rfl rfl ?_
      refine s_pickF rfl rfl (v := .sc (.bool false)) rfl rfl rfl rfl ?_
      refine m1 ?_
      refine s_skip rfl rfl rfl ?_
      refine s_skip rfl rfl rfl ?_
      refine s_skip rfl rfl rfl ?_
      refine s_skip rfl rfl rfl ?_
      refine s_skip rfl rfl rfl ?_
      refine s_skip rfl rfl rfl ?_
      refine s_pickF rfl rfl (v := .sc (.bool false)) rfl rfl rfl rfl ?_
      refine rt_nil ?_
      refine Exists.intro ⟨false, h⟩ ?_
      refine entX [((2, 0), ⟨50, 12, [[.sc (.int .i64 p0.id), .sc (.bool p0.reply), .sc (.bool p0.auth), .sc (.bool p0.cut), .sc (.bool p0.want), .sc (.bool p0.can), .sc (.int .i64 p0.code), .sc (.string p0.q.name), .sc (.int .i64 p0.q.ty), .lst 6 (List.map recV p0.an), .lst 6 (List.map recV p0.au), .lst 6 (List.map recV p0.ad)]], false, true⟩, some (2, 0)), ((7, 0), ⟨39, 6, [[.sc (.string e0.name), .sc (.int .i64 e0.ty), .sc (.int .i64 e0.ttl), .sc (.int .i64 e0.n), .sc (.string e0.host), .sc (.string e0.text)]], false, true⟩, some (7, 0))] [] ⟨⟨rfl, _, rfl, rfl, rfl, rfl, id, rowsCv_one (.cons (.free rfl) (.cons (.free rfl) (.cons (.free rfl) (.cons (.free rfl) (.cons (.free rfl) (.cons (.free rfl) (.cons (.free rfl) (.cons (.free rfl) (.cons (.free rfl) (.cons (.free rfl) (.cons (.free rfl) (.cons (.free rfl) .nil)))))))))))), rowsZ_one rfl⟩, ⟨rfl, _, rfl, rfl, rfl, rfl, id, rowsCv_one (.cons (.free rfl) (.cons (.free rfl) (.cons (.free rfl) (.cons (.free rfl) (.cons (.free rfl) (.cons (.free rfl) .nil)))))), rowsZ_one rfl⟩, trivial⟩ trivial rfl rfl ?_
      exact ⟨(.free rfl), (.ptr rfl), (.ptr rfl), (.free rfl), (.free rfl), (.free rfl), (.free rfl), trivial⟩
    ·replace h := cond_f h b2
     refine s_skip rfl rfl rfl ?_
     refine s_skip rfl rfl rfl ?_
     refine s_skip rfl rfl rfl ?_
     refine s_skip rfl rfl rfl ?_
     refine s_pickF rfl rfl (v := .sc (.bool false)) rfl rfl rfl rfl ?_
     refine m1 ?_
     refine s_skip rfl rfl rfl ?_
     refine s_skip rfl rfl rfl ?_
     refine s_skip rfl rfl rfl ?_
     refine s_skip rfl rfl rfl ?_
     refine s_pickF rfl rfl (v := .sc (.bool false)) rfl rfl rfl rfl ?_
     refine m1 ?_
     refine s_skip rfl rfl rfl ?_
     refine s_skip rfl rfl rfl ?_
     refine s_skip rfl rfl rfl ?_
     refine s_skip rfl rfl rfl ?_
     refine s_skip rfl rfl rfl ?_
     refine s_skip rfl rfl rfl ?_
     refine s_pickF rfl rfl (v := .sc (.bool false)) rfl rfl rfl rfl ?_
     refine rt_nil ?_
     refine Exists.intro ⟨false, h⟩ ?_
     refine entX [((2, 0), ⟨50, 12, [[.sc (.int .i64 p0.id), .sc (.bool p0.reply), .sc (.bool p0.auth), .sc (.bool p0.cut), .sc (.bool p0.want), .sc (.bool p0.can), .sc (.int .i64 p0.code), .sc (.string p0.q.name), .sc (.int .i64 p0.q.ty), .lst 6 (List.map recV p0.an), .lst 6 (List.map recV p0.au), .lst 6 (List.map recV p0.ad)]], false, true⟩, some (2, 0)), ((7, 0), ⟨39, 6, [[.sc (.string e0.name), .sc (.int .i64 e0.ty), .sc (.int .i64 e0.ttl), .sc (.int .i64 e0.n), .sc (.string e0.host), .sc (.string e0.text)]], false, true⟩, some (7, 0))] [] ⟨⟨rfl, _, rfl, rfl, rfl, rfl, id, rowsCv_one (.cons (.free rfl) (.cons (.free rfl) (.cons (.free rfl) (.cons (.free rfl) (.cons (.free rfl) (.cons (.free rfl) (.cons (.free rfl) (.cons (.free rfl) (.cons (.free rfl) (.cons (.free rfl) (.cons (.free rfl) (.cons (.free rfl) .nil)))))))))))), rowsZ_one rfl⟩, ⟨rfl, _, rfl, rfl, rfl, rfl, id, rowsCv_one (.cons (.free rfl) (.cons (.free rfl) (.cons (.free rfl) (.cons (.free rfl) (.cons (.free rfl) (.cons (.free rfl) .nil)))))), rowsZ_one rfl⟩, trivial⟩ trivial rfl rfl ?_
     exact ⟨(.free rfl), (.ptr rfl), (.ptr rfl), (.free rfl), (.free rfl), (.free rfl), (.free rfl), trivial⟩
   ·rintro ⟨j1_0, h⟩
    replace h : i_DownIn_j1 v0_0 e0 (i_DownIn_l0 p0 p1 rs0) j1_0 = some (r0, r1) := h
    unfold i_DownIn_j1 at h
    show Tri _ _ _ (inv_i_DownIn_1 p0 p1 v0_0 e0 j1_0)
    refine tri_cond rfl (fun c2 => ?_) (fun c2 => ?_)
    ·replace h := cond_t h c2
     refine tri_sr ?_
     refine s_fieldAddr rfl rfl fd39_0 rfl rfl rfl rfl ?_
     refine s_load rfl rfl rfl rfl ty9 rfl (.inr rfl) (by conv => lhs; whnf) rfl rfl rfl ?_
     refine m2 ?_
     refine s_mv (.inr rfl) (v := .sc (.bool true)) rfl rfl rfl rfl ?_
     refine rt_nil ?_
     refine tri_ret ?_
     have e0 := (some2 h).1; have e1 := (some2 h).2; subst e0; subst e1
     exact endY [] [] (rvC (resTmp rfl) (rvC (resTmp rfl) rvN)) trivial trivial rfl rfl rfl rfl (CvL.tup (.cons (.free rfl) (.cons (.free rfl) .nil)))
    ·replace h := cond_f h c2
     refine tri_skip ?_
     refine tri_region ?_
     refine s_inc (a := v0_0) (b := 1) rfl rfl rfl rfl (by have := get_lt hx0; have := hl0; omega) rfl rfl rfl ?_
     refine m1 ?_
     refine rt_nil ?_
     refine Exists.intro ⟨(rs0, (v0_0 + 1)), hn0, h⟩ (And.intro (Nat.lt_succ_self _) ?_)
     refine entX [((2, 0), ⟨50, 12, [[.sc (.int .i64 p0.id), .sc (.bool p0.reply), .sc (.bool p0.auth), .sc (.bool p0.cut), .sc (.bool p0.want), .sc (.bool p0.can), .sc (.int .i64 p0.code), .sc (.string p0.q.name), .sc (.int .i64 p0.q.ty), .lst 6 (List.map recV p0.an), .lst 6 (List.map recV p0.au), .lst 6 (List.map recV p0.ad)]], false, true⟩, some (2, 0))] [] ⟨⟨rfl, _, rfl, rfl, rfl, rfl, id, rowsCv_one (.cons (.free rfl) (.cons (.free rfl) (.cons (.free rfl) (.cons (.free rfl) (.cons (.free rfl) (.cons (.free rfl) (.cons (.free rfl) (.cons (.free rfl) (.cons (.free rfl) (.cons (.free rfl) (.cons (.free rfl) (.cons (.free rfl) .nil)))))))))))), rowsZ_one rfl⟩, trivial⟩ trivial rfl rfl ?_
     exact ⟨(.free rfl), (.ptr rfl), (.free rfl), (.free rfl), (.free rfl), trivial⟩
  ·have he := drop_f hd0 c1; subst he
   rw [i_DownIn_l0] at h
   refine tri_exit ?_
   refine tri_sr ?_
   refine s_mv (.inr rfl) (v := .sc (.string (⟨#[]⟩ : ByteArray))) rfl rfl rfl rfl ?_
   refine s_mv (.inr rfl) (v := .sc (.bool false)) rfl rfl rfl rfl ?_
   refine rt_nil ?_
   refine tri_ret ?_
   have e0 := (some2 h).1; have e1 := (some2 h).2; subst e0; subst e1
   exact endY [] [] (rvC (resTmp rfl) (rvC (resTmp rfl) rvN)) trivial trivial rfl rfl rfl rfl (CvL.tup (.cons (.free rfl) (.cons (.free rfl) .nil)))

/- spec.DownIn -/
def inv_s_DownIn_1 (p0 : MMsg) (p1 : ByteArray) (v0_0 : Nat) (e0 : Rec) (j1_0 : Bool) : St := mkT 45 [(1, .sc (.string p1)), (2, .ptr (2, 0) 0 0), (6, .sc (.int .i64 (v0_0 : Int))), (7, .ptr (7, 0) 0 0), (42, .sc (.bool j1_0))] [((2, 0), some ⟨50, 12, [[.sc (.int .i64 p0.id), .sc (.bool p0.reply), .sc (.bool p0.auth), .sc (.bool p0.cut), .sc (.bool p0.want), .sc (.bool p0.can), .sc (.int .i64 p0.code), .sc (.string p0.q.name), .sc (.int .i64 p0.q.ty), .lst 6 (List.map recV p0.an), .lst 6 (List.map recV p0.au), .lst 6 (List.map recV p0.ad)]], false, true⟩), ((7, 0), some ⟨39, 6, [[.sc (.string e0.name), .sc (.int .i64 e0.ty), .sc (.int .i64 e0.ttl), .sc (.int .i64 e0.n), .sc (.string e0.host), .sc (.string e0.text)]], false, true⟩)]
def inv_s_DownIn_0 (p0 : MMsg) (p1 : ByteArray) (v0_0 : Nat) : St := mkT 45 [(1, .sc (.string p1)), (2, .ptr (2, 0) 0 0), (6, .sc (.int .i64 (v0_0 : Int)))] [((2, 0), some ⟨50, 12, [[.sc (.int .i64 p0.id), .sc (.bool p0.reply), .sc (.bool p0.auth), .sc (.bool p0.cut), .sc (.bool p0.want), .sc (.bool p0.can), .sc (.int .i64 p0.code), .sc (.string p0.q.name), .sc (.int .i64 p0.q.ty), .lst 6 (List.map recV p0.an), .lst 6 (List.map recV p0.au), .lst 6 (List.map recV p0.ad)]], false, true⟩)]
set_option maxRecDepth 4000 in
set_option maxHeartbeats 800000 in
theorem ws_DownIn (p0 : MMsg) (p1 : ByteArray) (r0 : ByteArray) (r1 : Bool) (h : s_DownIn p0 p1 = some (r0, r1)) : Runs Tryd.prog 79 [.agg (mMsgV p0), .sc (.string p1)] [] (.tup [.sc (.string r0), .sc (.bool r1)]) [] := by
 unfold s_DownIn at h
 refine runsR [.tmp 4, .tmp 5] Tryd.func79 rfl rfl rfl rfl ?_
 rw [Tryd.ntmps79]
 refine tri_sr ?_
 refine s_box rfl rfl rfl rfl rfl rfl rfl ?_
 refine s_mv (.inr rfl) (v := .sc (.string (⟨#[]⟩ : ByteArray))) rfl rfl rfl rfl ?_
 refine s_mv (.inr rfl) (v := .sc (.bool false)) rfl rfl rfl rfl ?_
 refine rt_nil ?_
 refine tri_seq ?_
 refine tri_sr ?_
 refine s_mv (.inr rfl) (v := .sc (.int .i64 0)) rfl rfl rfl rfl ?_
 refine rt_nil ?_
 refine tri_block ?_
 refine tri_aggM 0 10 rfl rfl (fun hl0 => ?_)
 refine tri_loop (ι := { p : (List Rec) × Nat // p0.au.drop p.2 = p.1 ∧ s_DownIn_l0 p0 p1 p.1 p.2 = some (r0, r1) }) (fun p => inv_s_DownIn_0 p0 p1 p.1.2) (fun p => p.1.1.length) ⟨(p0.au, 0), rfl, h⟩ ?_ ?_
 ·skip
  refine entX [((2, 0), ⟨50, 12, [[.sc (.int .i64 p0.id), .sc (.bool p0.reply), .sc (.bool p0.auth), .sc (.bool p0.cut), .sc (.bool p0.want), .sc (.bool p0.can), .sc (.int .i64 p0.code), .sc (.string p0.q.name), .sc (.int .i64 p0.q.ty), .lst 6 (List.map recV p0.an), .lst 6 (List.map recV p0.au), .lst 6 (List.map recV p0.ad)]], false, true⟩, some (2, 0))] [] ⟨⟨rfl, _, rfl, rfl, rfl, rfl, id, rowsCv_one (.cons (.free rfl) (.cons (.free rfl) (.cons (.free rfl) (.cons (.free rfl) (.cons (.free rfl) (.cons (.free rfl) (.cons (.free rfl) (.cons (.free rfl) (.cons (.free rfl) (.cons (.free rfl) (.cons (.free rfl) (.cons (.free rfl) .nil)))))))))))), rowsZ_one rfl⟩, trivial⟩ trivial rfl rfl ?_
  exact ⟨(.free rfl), (.ptr rfl), (.free rfl), trivial⟩
 ·rintro ⟨⟨lrs0, v0_0⟩, hd0, h⟩
  replace hd0 : p0.au.drop v0_0 = lrs0 := hd0
  replace h : s_DownIn_l0 p0 p1 lrs0 v0_0 = some (r0, r1) := h
  show Tri _ _ _ (inv_s_DownIn_0 p0 p1 v0_0)
  refine tri_seq ?_
  refine tri_sr ?_
  refine m1 ?_
  refine s_fieldAddr rfl rfl fd50_9 rfl rfl rfl rfl ?_
  refine s_load rfl rfl rfl rfl ty24 rfl (.inr rfl) (by conv => lhs; whnf) rfl rfl rfl ?_
  refine s_lenL rfl sl24 rfl rfl rfl rfl ?_
  refine s_of (st_lss rfl rfl rfl) rfl rfl rfl rfl ?_
  refine rt_nil ?_
  refine tri_cond rfl (fun c1 => ?_) (fun c1 => ?_)
  ·refine drop_elim hd0 c1 fun e0 rs0 he hx0 hn0 => ?_
   subst he
   rw [s_DownIn_l0] at h
   refine tri_skip ?_
   refine tri_seq ?_
   refine tri_block ?_
   refine tri_sr ?_
   refine s_fieldAddr rfl rfl fd50_9 rfl rfl rfl rfl ?_
   refine s_load rfl rfl rfl rfl ty24 rfl (.inr rfl) (by conv => lhs; whnf) rfl rfl rfl ?_
   refine m1 ?_
   refine s_indexF (i := v0_0) rfl rfl rfl sl24 (get_ltM hx0) rfl rfl rfl ?_
   refine s_loadFR rfl rfl (rowG hx0) ty39 rfl rfl rfl ?_
   refine s_alloc rfl rfl rfl zc39 rfl rfl rfl rfl rfl ?_
   refine s_storeB rfl rfl rfl ty39 rfl rfl rfl rfl rfl ?_
   refine rt_nil ?_
   refine tri_cutI (ι := { p : Bool // s_DownIn_j1 v0_0 e0 (s_DownIn_l0 p0 p1 rs0) p = some (r0, r1) }) (fun p => inv_s_DownIn_1 p0 p1 v0_0 e0 p.1) ?_ ?_
   ·skip
    refine tri_region ?_
    refine s_fieldAddr rfl rfl fd39_1 rfl rfl rfl rfl ?_
    refine s_load rfl rfl rfl rfl ty3 rfl (.inr rfl) (by conv => lhs; whnf) rfl rfl rfl ?_
    refine s_of (st_eqI rfl rfl rfl) rfl rfl rfl rfl ?_
    refine m1 ?_
    refine s_split (t := 23) rfl (fun b2 => ?_) (fun b2 => ?_)
    ·replace h := cond_t h b2
     refine s_fieldAddr rfl rfl fd39_0 rfl rfl rfl rfl ?_
     refine s_load rfl rfl rfl rfl ty9 rfl (.inr rfl) (by conv => lhs; whnf) rfl rfl rfl ?_
     refine m1 ?_
     refine s_of (st_neS rfl rfl rfl) rfl rfl rfl rfl ?_
     refine s_pickT rfl rfl (by conv => lhs; whnf) rfl rfl rfl ?_
     refine m1 ?_
     refine s_split (t := 29) rfl (fun b3 => ?_) (fun b3 => ?_)
     ·replace h := cond_t h b3
      refine s_fieldAddr rfl rfl fd39_0 rfl rfl rfl rfl ?_
      refine s_load rfl rfl rfl rfl ty9 rfl (.inr rfl) (by conv => lhs; whnf) rfl rfl rfl ?_
      refine m1 ?_
      refine bnd1_elim h fun x4 q5 h => ?_
      refine s_callN (kb := []) (ns := []) (v := .sc (.bool x4)) rfl rfl cl127 (ws_Under e0.name p1 x4 q5) rfl (.cons (.free rfl) (.cons (.free rfl) .nil)) trivial memNil .nil memNil rfl trivial memNil rfl rfl rfl rfl rfl rfl ?_
      refine s_pickT rfl rfl (by conv => lhs; whnf) rfl rfl rfl ?_
      refine m1 ?_
      refine s_split (t := 35) rfl (fun b6 => ?_) (fun b6 => ?_)
      ·replace h := cond_t h b6
       refine s_fieldAddr rfl rfl fd50_7 rfl rfl rfl rfl ?_
       refine s_fieldAddr rfl rfl fd28_0 rfl rfl rfl rfl ?_
       refine s_load rfl rfl rfl rfl ty9 rfl (.inr rfl) (by conv => lhs; whnf) rfl rfl rfl ?_
       refine s_fieldAddr rfl rfl fd39_0 rfl rfl rfl rfl ?_
       refine s_load rfl rfl rfl rfl ty9 rfl (.inr rfl) (by conv => lhs; whnf) rfl rfl rfl ?_
       refine bnd1_elim h fun x7 q8 h => ?_
       refine s_callN (kb := []) (ns := []) (v := .sc (.bool x7)) rfl rfl cl127 (ws_Under p0.q.name e0.name x7 q8) rfl (.cons (.free rfl) (.cons (.free rfl) .nil)) trivial memNil .nil memNil rfl trivial memNil rfl rfl rfl rfl rfl rfl ?_
       refine s_pickT rfl rfl (by conv => lhs; whnf) rfl rfl rfl ?_
       refine rt_nil ?_
       refine Exists.intro ⟨x7, h⟩ ?_
       refine entX [((2, 0), ⟨50, 12, [[.sc (.int .i64 p0.id), .sc (.bool p0.reply), .sc (.bool p0.auth), .sc (.bool p0.cut), .sc (.bool p0.want), .sc (.bool p0.can), .sc (.int .i64 p0.code), .sc (.string p0.q.name), .sc (.int .i64 p0.q.ty), .lst 6 (List.map recV p0.an), .lst 6 (List.map recV p0.au), .lst 6 (List.map recV p0.ad)]], false, true⟩, some (2, 0)), ((7, 0), ⟨39, 6, [[.sc (.string e0.name), .sc (.int .i64 e0.ty), .sc (.int .i64 e0.ttl), .sc (.int .i64 e0.n), .sc (.string e0.host), .sc (.string e0.text)]], false, true⟩, some (7, 0))] [] ⟨⟨rfl, _, rfl, rfl, rfl, rfl, id, rowsCv_one (.cons (.free rfl) (.cons (.free rfl) (.cons (.free rfl) (.cons (.free rfl) (.cons (.free rfl) (.cons (.free rfl) (.cons (.free rfl) (.cons (.free rfl) (.cons (.free rfl) (.cons (.free rfl) (.cons (.free rfl) (.cons (.free rfl) .nil)))))))))))), rowsZ_one rfl⟩, ⟨rfl, _, rfl, rfl, rfl, rfl, id, rowsCv_one (.cons (.free rfl) (.cons (.free rfl) (.cons (.free rfl) (.cons (.free rfl) (.cons (.free rfl) (.cons (.free rfl) .nil)))))), rowsZ_one rfl⟩, trivial⟩ trivial rfl rfl ?_
       exact ⟨(.free rfl), (.ptr rfl), (.free rfl), (.ptr rfl), (.free rfl), trivial⟩
      ·replace h := cond_f h b6
       refine s_skip rfl rfl rfl ?_
       refine s_skip rfl rfl rfl ?_
       refine s_skip rfl rfl rfl ?_
       refine s_skip rfl rfl rfl ?_
       refine s_skip rfl rfl rfl ?_
       refine s_skip rfl rfl rfl ?_
       refine s_pickF rfl rfl (v := .sc (.bool false)) rfl rfl rfl rfl ?_
       refine rt_nil ?_
       refine Exists.intro ⟨false, h⟩ ?_
       refine entX [((2, 0), ⟨50, 12, [[.sc (.int .i64 p0.id), .sc (.bool p0.reply), .sc (.bool p0.auth), .sc (.bool p0.cut), .sc (.bool p0.want), .sc (.bool p0.can), .sc (.int .i64 p0.code), .sc (.string p0.q.name), .sc (.int .i64 p0.q.ty), .lst 6 (List.map recV p0.an), .lst 6 (List.map recV p0.au), .lst 6 (List.map recV p0.ad)]], false, true⟩, some (2, 0)), ((7, 0), ⟨39, 6, [[.sc (.string e0.name), .sc (.int .i64 e0.ty), .sc (.int .i64 e0.ttl), .sc (.int .i64 e0.n), .sc (.string e0.host), .sc (.string e0.text)]], false, true⟩, some (7, 0))] [] ⟨⟨rfl, _, rfl, rfl, rfl, rfl, id, rowsCv_one (.cons (.free rfl) (.cons (.free rfl) (.cons (.free rfl) (.cons (.free rfl) (.cons (.free rfl) (.cons (.free rfl) (.cons (.free rfl) (.cons (.free rfl) (.cons (.free rfl) (.cons (.free rfl) (.cons (.free rfl) (.cons (.free rfl) .nil)))))))))))), rowsZ_one rfl⟩, ⟨rfl, _, rfl, rfl, rfl, rfl, id, rowsCv_one (.cons (.free rfl) (.cons (.free rfl) (.cons (.free rfl) (.cons (.free rfl) (.cons (.free rfl) (.cons (.free rfl) .nil)))))), rowsZ_one rfl⟩, trivial⟩ trivial rfl rfl ?_
       exact ⟨(.free rfl), (.ptr rfl), (.free rfl), (.ptr rfl), (.free rfl), trivial⟩
     ·replace h := cond_f h b3
      refine s_skip rfl rfl rfl ?_
      refine s_skip rfl rfl rfl ?_
      refine s_skip rfl rfl rfl ?_
      refine s_skip rfl rfl rfl ?_
      refine s_pickF rfl rfl (v := .sc (.bool false)) rfl rfl rfl rfl ?_
      refine m1 ?_
      refine s_skip rfl rfl rfl ?_
      refine s_skip rfl rfl rfl ?_
      refine s_skip rfl rfl rfl ?_
      refine s_skip rfl rfl rfl ?_
      refine s_skip rfl rfl rfl ?_
      refine s_skip rfl rfl rfl ?_
      refine s_pickF rfl rfl (v := .sc (.bool false)) rfl rfl rfl rfl ?_
      refine rt_nil ?_
      refine Exists.intro ⟨false, h⟩ ?_
      refine entX [((2, 0), ⟨50, 12, [[.sc (.int .i64 p0.id), .sc (.bool p0.reply), .sc (.bool p0.auth), .sc (.bool p0.cut), .sc (.bool p0.want), .sc (.bool p0.can), .sc (.int .i64 p0.code), .sc (.string p0.q.name), .sc (.int .i64 p0.q.ty), .lst 6 (List.map recV p0.an), .lst 6 (List.map recV p0.au), .lst 6 (List.map recV p0.ad)]], false, true⟩, some (2, 0)), ((7, 0), ⟨39, 6, [[.sc (.string e0.name), .sc (.int .i64 e0.ty), .sc (.int .i64 e0.ttl), .sc (.int .i64 e0.n), .sc (.string e0.host), .sc (.string e0.text)]], false, true⟩, some (7, 0))] [] ⟨⟨rfl, _, rfl, rfl, rfl, rfl, id, rowsCv_one (.cons (.free rfl) (.cons (.free rfl) (.cons (.free rfl) (.cons (.free rfl) (.cons (.free rfl) (.cons (.free rfl) (.cons (.free rfl) (.cons (.free rfl) (.cons (.free rfl) (.cons (.free rfl) (.cons (.free rfl) (.cons (.free rfl) .nil)))))))))))), rowsZ_one rfl⟩, ⟨rfl, _, rfl, rfl, rfl, rfl, id, rowsCv_one (.cons (.free rfl) (.cons (.free rfl) (.cons (.free rfl) (.cons (.free rfl) (.cons (.free rfl) (.cons (.free rfl) .nil)))))), rowsZ_one rfl⟩, trivial⟩ trivial rfl rfl ?_
      exact ⟨(.free rfl), (.ptr rfl), (.free rfl), (.ptr rfl), (.free rfl), trivial⟩
    ·replace h := cond_f h b2
     refine s_skip rfl rfl rfl ?_
     refine s_skip rfl rfl rfl ?_
     refine s_skip rfl rfl rfl ?_
     refine s_skip rfl rfl rfl ?_
     refine s_pickF rfl rfl (v := .sc (.bool false)) rfl rfl rfl rfl ?_
     refine m1 ?_
     refine s_skip rfl rfl rfl ?_
     refine s_skip rfl rfl rfl ?_
     refine s_skip rfl rfl rfl ?_
     refine s_skip rfl rfl rfl ?_
     refine s_pickF rfl rfl (v := .sc (.bool false)) rfl rfl rfl rfl ?_
     refine m1 ?_
     refine s_skip rfl rfl rfl ?_
     refine s_skip rfl rfl rfl ?_
     refine s_skip rfl rfl rfl ?_
     refine s_skip rfl rfl rfl ?_
     refine s_skip rfl rfl rfl ?_
     refine s_skip rfl rfl rfl ?_
     refine s_pickF rfl rfl (v := .sc (.bool false)) rfl rfl rfl rfl ?_
     refine rt_nil ?_
     refine Exists.intro ⟨false, h⟩ ?_
     refine entX [((2, 0), ⟨50, 12, [[.sc (.int .i64 p0.id), .sc (.bool p0.reply), .sc (.bool p0.auth), .sc (.bool p0.cut), .sc (.bool p0.want), .sc (.bool p0.can), .sc (.int .i64 p0.code), .sc (.string p0.q.name), .sc (.int .i64 p0.q.ty), .lst 6 (List.map recV p0.an), .lst 6 (List.map recV p0.au), .lst 6 (List.map recV p0.ad)]], false, true⟩, some (2, 0)), ((7, 0), ⟨39, 6, [[.sc (.string e0.name), .sc (.int .i64 e0.ty), .sc (.int .i64 e0.ttl), .sc (.int .i64 e0.n), .sc (.string e0.host), .sc (.string e0.text)]], false, true⟩, some (7, 0))] [] ⟨⟨rfl, _, rfl, rfl, rfl, rfl, id, rowsCv_one (.cons (.free rfl) (.cons (.free rfl) (.cons (.free rfl) (.cons (.free rfl) (.cons (.free rfl) (.cons (.free rfl) (.cons (.free rfl) (.cons (.free rfl) (.cons (.free rfl) (.cons (.free rfl) (.cons (.free rfl) (.cons (.free rfl) .nil)))))))))))), rowsZ_one rfl⟩, ⟨rfl, _, rfl, rfl, rfl, rfl, id, rowsCv_one (.cons (.free rfl) (.cons (.free rfl) (.cons (.free rfl) (.cons (.free rfl) (.cons (.free rfl) (.cons (.free rfl) .nil)))))), rowsZ_one rfl⟩, trivial⟩ trivial rfl rfl ?_
     exact ⟨(.free rfl), (.ptr rfl), (.free rfl), (.ptr rfl), (.free rfl), trivial⟩
   ·rintro ⟨j1_0, h⟩
    replace h : s_DownIn_j1 v0_0 e0 (s_DownIn_l0 p0 p1 rs0) j1_0 = some (r0, r1) := h
    unfold s_DownIn_j1 at h
    show Tri _ _ _ (inv_s_DownIn_1 p0 p1 v0_0 e0 j1_0)
    refine tri_cond rfl (fun c2 => ?_) (fun c2 => ?_)
    ·replace h := cond_t h c2
     refine tri_sr ?_
     refine s_fieldAddr rfl rfl fd39_0 rfl rfl rfl rfl ?_
     refine s_load rfl rfl rfl rfl ty9 rfl (.inr rfl) (by conv => lhs; whnf) rfl rfl rfl ?_
     refine m2 ?_
     refine s_mv (.inr rfl) (v := .sc (.bool true)) rfl rfl rfl rfl ?_
     refine rt_nil ?_
     refine tri_ret ?_
     have e0 := (some2 h).1; have e1 := (some2 h).2; subst e0; subst e1
     exact endY [] [] (rvC (resTmp rfl) (rvC (resTmp rfl) rvN)) trivial trivial rfl rfl rfl rfl (CvL.tup (.cons (.free rfl) (.cons (.free rfl) .nil)))
    ·replace h := cond_f h c2
     refine tri_skip ?_
     refine tri_region ?_
     refine m1 ?_
     refine s_inc (a := v0_0) (b := 1) rfl rfl rfl rfl (by have := get_lt hx0; have := hl0; omega) rfl rfl rfl ?_
     refine m2 ?_
     refine rt_nil ?_
     refine Exists.intro ⟨(rs0, (v0_0 + 1)), hn0, h⟩ (And.intro (Nat.lt_succ_self _) ?_)
     refine entX [((2, 0), ⟨50, 12, [[.sc (.int .i64 p0.id), .sc (.bool p0.reply), .sc (.bool p0.auth), .sc (.bool p0.cut), .sc (.bool p0.want), .sc (.bool p0.can), .sc (.int .i64 p0.code), .sc (.string p0.q.name), .sc (.int .i64 p0.q.ty), .lst 6 (List.map recV p0.an), .lst 6 (List.map recV p0.au), .lst 6 (List.map recV p0.ad)]], false, true⟩, some (2, 0))] [] ⟨⟨rfl, _, rfl, rfl, rfl, rfl, id, rowsCv_one (.cons (.free rfl) (.cons (.free rfl) (.cons (.free rfl) (.cons (.free rfl) (.cons (.free rfl) (.cons (.free rfl) (.cons (.free rfl) (.cons (.free rfl) (.cons (.free rfl) (.cons (.free rfl) (.cons (.free rfl) (.cons (.free rfl) .nil)))))))))))), rowsZ_one rfl⟩, trivial⟩ trivial rfl rfl ?_
     exact ⟨(.free rfl), (.ptr rfl), (.free rfl), trivial⟩
  ·have he := drop_f hd0 c1; subst he
   rw [s_DownIn_l0] at h
   refine tri_exit ?_
   refine tri_sr ?_
   refine s_mv (.inr rfl) (v := .sc (.string (⟨#[]⟩ : ByteArray))) rfl rfl rfl rfl ?_
   refine s_mv (.inr rfl) (v := .sc (.bool false)) rfl rfl rfl rfl ?_
   refine rt_nil ?_
   refine tri_ret ?_
   have e0 := (some2 h).1; have e1 := (some2 h).2; subst e0; subst e1
   exact endY [] [] (rvC (resTmp rfl) (rvC (resTmp rfl) rvN)) trivial trivial rfl rfl rfl rfl (CvL.tup (.cons (.free rfl) (.cons (.free rfl) .nil)))

/- impl.SetIn -/

set_option maxRecDepth 4000 in
set_option maxHeartbeats 800000 in
theorem wi_SetIn (p0 : MMsg) (r0 : List Rec) (h : i_SetIn p0 = some r0) : Runs Tryd.prog 81 [.agg (mMsgV p0)] [] (.own 39 6 (List.map recV r0)) [] := by
 unfold i_SetIn at h
 refine runsR [.tmp 2] Tryd.func81 rfl rfl rfl rfl ?_
 rw [Tryd.ntmps81]
 refine tri_sr ?_
 refine s_box rfl rfl rfl rfl rfl rfl rfl ?_
 refine s_mv (.inr rfl) (v := .nils) rfl rfl rfl rfl ?_
 refine rt_nil ?_
 refine tri_sr ?_
 refine s_fieldAddr rfl rfl fd50_8 rfl rfl rfl rfl ?_
 refine s_load rfl rfl rfl rfl ty24 rfl (.inr rfl) (by conv => lhs; whnf) rfl rfl rfl ?_
 refine s_fieldAddr rfl rfl fd50_7 rfl rfl rfl rfl ?_
 refine s_fieldAddr rfl rfl fd28_0 rfl rfl rfl rfl ?_
 refine s_load rfl rfl rfl rfl ty9 rfl (.inr rfl) (by conv => lhs; whnf) rfl rfl rfl ?_
 refine s_fieldAddr rfl rfl fd50_7 rfl rfl rfl rfl ?_
 refine s_fieldAddr rfl rfl fd28_1 rfl rfl rfl rfl ?_
 refine s_load rfl rfl rfl rfl ty3 rfl (.inr rfl) (by conv => lhs; whnf) rfl rfl rfl ?_
 refine bnd1_elim h fun x1 q2 h => ?_
 refine s_callN (kb := []) (ns := []) (v := .ref (11, 0) 0 x1.length) rfl rfl cl21 (wi_SetOf p0.an p0.q.name p0.q.ty x1 q2) rfl (.cons (.free rfl) (.cons (.free rfl) (.cons (.free rfl) .nil))) trivial memNil .nil memNil rfl ⟨(allSc_map recV_sc), trivial⟩ memNil rfl (by simp only [V.mat, V.mat1, V.mat0, matL, matT, List.length_map] <;> rfl) rfl rfl rfl rfl ?_
 refine m2 ?_
 refine rt_nil ?_
 refine tri_ret ?_
 have e0 := (some1 h); subst e0
 exact endY (v' := .ref (2000, 0) 0 x1.length) [((2000, 0), ⟨39, 6, List.map recV x1, false, true⟩, some (11, 0))] [] (rvC (resTmp rfl) rvN) ⟨⟨rfl, _, rfl, rfl, rfl, rfl, id, rowsCv_eq rfl (allFree_map recV_free), rowsZ_map recV_len⟩, trivial⟩ trivial rfl rfl (by kernel_rfl) (by simp only [V.mat, V.mat1, V.mat0, matL, matT, List.length_map] <;> rfl) (.ref rfl)

/- impl.ClassOf -/
def inv_i_ClassOf_5  (j5_0 : Bool) : St := mkT 94 [(76, .sc (.bool j5_0))] []
def inv_i_ClassOf_4 (p0 : MMsg) (x2 : Bool) (j4_0 : Bool) : St := mkT 94 [(2, .ptr (2, 0) 0 0), (6, .sc (.bool x2)), (67, .sc (.bool j4_0))] [((2, 0), some ⟨50, 12, [[.sc (.int .i64 p0.id), .sc (.bool p0.reply), .sc (.bool p0.auth), .sc (.bool p0.cut), .sc (.bool p0.want), .sc (.bool p0.can), .sc (.int .i64 p0.code), .sc (.string p0.q.name), .sc (.int .i64 p0.q.ty), .lst 6 (List.map recV p0.an), .lst 6 (List.map recV p0.au), .lst 6 (List.map recV p0.ad)]], false, true⟩)]
def inv_i_ClassOf_3 (p0 : MMsg) (x2 : Bool) (j3_0 : Bool) : St := mkT 94 [(2, .ptr (2, 0) 0 0), (6, .sc (.bool x2)), (59, .sc (.bool j3_0))] [((2, 0), some ⟨50, 12, [[.sc (.int .i64 p0.id), .sc (.bool p0.reply), .sc (.bool p0.auth), .sc (.bool p0.cut), .sc (.bool p0.want), .sc (.bool p0.can), .sc (.int .i64 p0.code), .sc (.string p0.q.name), .sc (.int .i64 p0.q.ty), .lst 6 (List.map recV p0.an), .lst 6 (List.map recV p0.au), .lst 6 (List.map recV p0.ad)]], false, true⟩)]
def inv_i_ClassOf_2 (p0 : MMsg) (x2 : Bool) (j2_0 : Bool) : St := mkT 94 [(2, .ptr (2, 0) 0 0), (6, .sc (.bool x2)), (47, .sc (.bool j2_0))] [((2, 0), some ⟨50, 12, [[.sc (.int .i64 p0.id), .sc (.bool p0.reply), .sc (.bool p0.auth), .sc (.bool p0.cut), .sc (.bool p0.want), .sc (.bool p0.can), .sc (.int .i64 p0.code), .sc (.string p0.q.name), .sc (.int .i64 p0.q.ty), .lst 6 (List.map recV p0.an), .lst 6 (List.map recV p0.au), .lst 6 (List.map recV p0.ad)]], false, true⟩)]
def inv_i_ClassOf_1 (p0 : MMsg) (x2 : Bool) (x5 : Bool) (j1_0 : Bool) : St := mkT 94 [(2, .ptr (2, 0) 0 0), (6, .sc (.bool x2)), (8, .sc (.bool x5)), (33, .sc (.bool j1_0))] [((2, 0), some ⟨50, 12, [[.sc (.int .i64 p0.id), .sc (.bool p0.reply), .sc (.bool p0.auth), .sc (.bool p0.cut), .sc (.bool p0.want), .sc (.bool p0.can), .sc (.int .i64 p0.code), .sc (.string p0.q.name), .sc (.int .i64 p0.q.ty), .lst 6 (List.map recV p0.an), .lst 6 (List.map recV p0.au), .lst 6 (List.map recV p0.ad)]], false, true⟩)]
def inv_i_ClassOf_0 (p0 : MMsg) (x2 : Bool) (x5 : Bool) (j0_0 : Bool) : St := mkT 94 [(2, .ptr (2, 0) 0 0), (6, .sc (.bool x2)), (8, .sc (.bool x5)), (20, .sc (.bool j0_0))] [((2, 0), some ⟨50, 12, [[.sc (.int .i64 p0.id), .sc (.bool p0.reply), .sc (.bool p0.auth), .sc (.bool p0.cut), .sc (.bool p0.want), .sc (.bool p0.can), .sc (.int .i64 p0.code), .sc (.string p0.q.name), .sc (.int .i64 p0.q.ty), .lst 6 (List.map recV p0.an), .lst 6 (List.map recV p0.au), .lst 6 (List.map recV p0.ad)]], false, true⟩)]
set_option maxRecDepth 4000 in
set_option maxHeartbeats 800000 in
theorem wi_ClassOf (p0 : MMsg) (p1 : ByteArray) (r0 : Int) (h : i_ClassOf p0 p1 = some r0) : Runs Tryd.prog 26 [.agg (mMsgV p0), .sc (.string p1)] [] (.sc (.int .i64 r0)) [] := by
 unfold i_ClassOf at h
 refine runsR [.tmp 4] Tryd.func26 rfl rfl rfl rfl ?_
 rw [Tryd.ntmps26]
 refine tri_sr ?_
 refine s_box rfl rfl rfl rfl rfl rfl rfl ?_
 refine s_mv (.inr rfl) (v := .sc (.int .i64 0)) rfl rfl rfl rfl ?_
 refine rt_nil ?_
 refine tri_sr ?_
 refine s_loadR rfl rfl rfl rfl ty50 rfl rfl rfl ?_
 refine m1 ?_
 refine bnd2_elim h fun x1 x2 q3 h => ?_
 refine s_callN (kb := []) (ns := []) (v := .tup [.sc (.string x1), .sc (.bool x2)]) rfl rfl cl28 (wi_DownIn p0 p1 x1 x2 q3) rfl (.cons (relAgg rfl) (.cons (.free rfl) .nil)) trivial memNil .nil memNil rfl trivial memNil rfl rfl rfl rfl rfl rfl ?_
 refine m1 ?_
 refine s_extract rfl rfl rfl rfl rfl rfl ?_
 refine s_extract rfl rfl rfl rfl rfl rfl ?_
 refine m2 ?_
 refine m2 ?_
 refine rt_nil ?_
 refine tri_sr ?_
 refine s_loadR rfl rfl rfl rfl ty50 rfl rfl rfl ?_
 refine bnd2_elim h fun x4 x5 q6 h => ?_
 refine s_callN (kb := []) (ns := []) (v := .tup [.agg (recV x4), .sc (.bool x5)]) rfl rfl cl77 (wi_AliasIn p0 x4 x5 q6) rfl (.cons (relAgg rfl) .nil) trivial memNil .nil memNil rfl trivial memNil rfl rfl rfl rfl rfl rfl ?_
 refine m1 ?_
 refine s_extract rfl rfl rfl rfl rfl rfl ?_
 refine s_extract rfl rfl rfl rfl rfl rfl ?_
 refine s_alloc rfl rfl rfl zc39 rfl rfl rfl rfl rfl ?_
 refine s_storeB rfl rfl rfl ty39 rfl rfl rfl rfl rfl ?_
 refine m2 ?_
 refine rt_nil ?_
 refine tri_seq ?_
 refine tri_block ?_
 refine tri_cutI (ι := { p : Bool // i_ClassOf_j0 p0 x2 x5 p = some r0 }) (fun p => inv_i_ClassOf_0 p0 x2 x5 p.1) ?_ ?_
 ·skip
  refine tri_region ?_
  refine s_fieldAddr rfl rfl fd50_3 rfl rfl rfl rfl ?_
  refine s_load rfl rfl rfl rfl ty4 rfl (.inr rfl) (by conv => lhs; whnf) rfl rfl rfl ?_
  refine m1 ?_
  refine s_split (t := 23) rfl (fun b7 => ?_) (fun b7 => ?_)
  ·replace h := cond_t h b7
   refine s_skip rfl rfl rfl ?_
   refine s_skip rfl rfl rfl ?_
   refine s_skip rfl rfl rfl ?_
   refine s_skip rfl rfl rfl ?_
   refine s_skip rfl rfl rfl ?_
   refine s_skip rfl rfl rfl ?_
   refine s_skip rfl rfl rfl ?_
   refine s_skip rfl rfl rfl ?_
   refine s_pickT rfl rfl (v := .sc (.bool true)) rfl rfl rfl rfl ?_
   refine m2 ?_
   refine rt_nil ?_
   refine Exists.intro ⟨true, h⟩ ?_
   refine entX [((2, 0), ⟨50, 12, [[.sc (.int .i64 p0.id), .sc (.bool p0.reply), .sc (.bool p0.auth), .sc (.bool p0.cut), .sc (.bool p0.want), .sc (.bool p0.can), .sc (.int .i64 p0.code), .sc (.string p0.q.name), .sc (.int .i64 p0.q.ty), .lst 6 (List.map recV p0.an), .lst 6 (List.map recV p0.au), .lst 6 (List.map recV p0.ad)]], false, true⟩, some (2, 0))] [] ⟨⟨rfl, _, rfl, rfl, rfl, rfl, id, rowsCv_one (.cons (.free rfl) (.cons (.free rfl) (.cons (.free rfl) (.cons (.free rfl) (.cons (.free rfl) (.cons (.free rfl) (.cons (.free rfl) (.cons (.free rfl) (.cons (.free rfl) (.cons (.free rfl) (.cons (.free rfl) (.cons (.free rfl) .nil)))))))))))), rowsZ_one rfl⟩, trivial⟩ trivial rfl rfl ?_
   exact ⟨(.ptr rfl), (.free rfl), (.free rfl), (.free rfl), trivial⟩
  ·replace h := cond_f h b7
   refine s_fieldAddr rfl rfl fd50_6 rfl rfl rfl rfl ?_
   refine s_load rfl rfl rfl rfl ty3 rfl (.inr rfl) (by conv => lhs; whnf) rfl rfl rfl ?_
   refine s_of (st_neI rfl rfl rfl) rfl rfl rfl rfl ?_
   refine m1 ?_
   refine s_split (t := 27) rfl (fun b8 => ?_) (fun b8 => ?_)
   ·replace h := cond_t h b8
    refine s_fieldAddr rfl rfl fd50_6 rfl rfl rfl rfl ?_
    refine s_load rfl rfl rfl rfl ty3 rfl (.inr rfl) (by conv => lhs; whnf) rfl rfl rfl ?_
    refine s_of (st_neI rfl rfl rfl) rfl rfl rfl rfl ?_
    refine s_pickT rfl rfl (by conv => lhs; whnf) rfl rfl rfl ?_
    refine s_pickF rfl rfl (by conv => lhs; whnf) rfl rfl rfl ?_
    refine m2 ?_
    refine rt_nil ?_
    refine Exists.intro ⟨!decide (p0.code = 3), h⟩ ?_
    refine entX [((2, 0), ⟨50, 12, [[.sc (.int .i64 p0.id), .sc (.bool p0.reply), .sc (.bool p0.auth), .sc (.bool p0.cut), .sc (.bool p0.want), .sc (.bool p0.can), .sc (.int .i64 p0.code), .sc (.string p0.q.name), .sc (.int .i64 p0.q.ty), .lst 6 (List.map recV p0.an), .lst 6 (List.map recV p0.au), .lst 6 (List.map recV p0.ad)]], false, true⟩, some (2, 0))] [] ⟨⟨rfl, _, rfl, rfl, rfl, rfl, id, rowsCv_one (.cons (.free rfl) (.cons (.free rfl) (.cons (.free rfl) (.cons (.free rfl) (.cons (.free rfl) (.cons (.free rfl) (.cons (.free rfl) (.cons (.free rfl) (.cons (.free rfl) (.cons (.free rfl) (.cons (.free rfl) (.cons (.free rfl) .nil)))))))))))), rowsZ_one rfl⟩, trivial⟩ trivial rfl rfl ?_
    exact ⟨(.ptr rfl), (.free rfl), (.free rfl), (.free rfl), trivial⟩
   ·replace h := cond_f h b8
    refine s_skip rfl rfl rfl ?_
    refine s_skip rfl rfl rfl ?_
    refine s_skip rfl rfl rfl ?_
    refine s_pickF rfl rfl (v := .sc (.bool false)) rfl rfl rfl rfl ?_
    refine s_pickF rfl rfl (by conv => lhs; whnf) rfl rfl rfl ?_
    refine m2 ?_
    refine rt_nil ?_
    refine Exists.intro ⟨false, h⟩ ?_
    refine entX [((2, 0), ⟨50, 12, [[.sc (.int .i64 p0.id), .sc (.bool p0.reply), .sc (.bool p0.auth), .sc (.bool p0.cut), .sc (.bool p0.want), .sc (.bool p0.can), .sc (.int .i64 p0.code), .sc (.string p0.q.name), .sc (.int .i64 p0.q.ty), .lst 6 (List.map recV p0.an), .lst 6 (List.map recV p0.au), .lst 6 (List.map recV p0.ad)]], false, true⟩, some (2, 0))] [] ⟨⟨rfl, _, rfl, rfl, rfl, rfl, id, rowsCv_one (.cons (.free rfl) (.cons (.free rfl) (.cons (.free rfl) (.cons (.free rfl) (.cons (.free rfl) (.cons (.free rfl) (.cons (.free rfl) (.cons (.free rfl) (.cons (.free rfl) (.cons (.free rfl) (.cons (.free rfl) (.cons (.free rfl) .nil)))))))))))), rowsZ_one rfl⟩, trivial⟩ trivial rfl rfl ?_
    exact ⟨(.ptr rfl), (.free rfl), (.free rfl), (.free rfl), trivial⟩
 ·rintro ⟨j0_0, h⟩
  replace h : i_ClassOf_j0 p0 x2 x5 j0_0 = some r0 := h
  unfold i_ClassOf_j0 at h
  show Tri _ _ _ (inv_i_ClassOf_0 p0 x2 x5 j0_0)
  refine tri_cond rfl (fun c7 => ?_) (fun c7 => ?_)
  ·replace h := cond_t h c7
   refine tri_sr ?_
   refine s_mv (.inr rfl) (v := .sc (.int .i64 0)) rfl rfl rfl rfl ?_
   refine rt_nil ?_
   refine tri_ret ?_
   have e0 := (some1 h); subst e0
   exact endY [] [] (rvC (resTmp rfl) rvN) trivial trivial rfl rfl rfl rfl (.free rfl)
  ·replace h := cond_f h c7
   refine tri_cutI (ι := { p : Bool // i_ClassOf_j1 p0 x2 x5 p = some r0 }) (fun p => inv_i_ClassOf_1 p0 x2 x5 p.1) ?_ ?_
   ·skip
    refine tri_region ?_
    refine s_fieldAddr rfl rfl fd50_2 rfl rfl rfl rfl ?_
    refine s_load rfl rfl rfl rfl ty4 rfl (.inr rfl) (by conv => lhs; whnf) rfl rfl rfl ?_
    refine m1 ?_
    refine s_split (t := 36) rfl (fun b8 => ?_) (fun b8 => ?_)
    ·replace h := cond_t h b8
     refine s_fieldAddr rfl rfl fd50_6 rfl rfl rfl rfl ?_
     refine s_load rfl rfl rfl rfl ty3 rfl (.inr rfl) (by conv => lhs; whnf) rfl rfl rfl ?_
     refine s_of (st_eqI rfl rfl rfl) rfl rfl rfl rfl ?_
     refine s_pickT rfl rfl (by conv => lhs; whnf) rfl rfl rfl ?_
     refine m1 ?_
     refine s_split (t := 41) rfl (fun b9 => ?_) (fun b9 => ?_)
     ·replace h := cond_t h b9
      refine s_loadR rfl rfl rfl rfl ty50 rfl rfl rfl ?_
      refine bnd1_elim h fun x10 q11 h => ?_
      refine s_callN (kb := []) (ns := []) (v := .ref (43, 0) 0 x10.length) rfl rfl cl81 (wi_SetIn p0 x10 q11) rfl (.cons (relAgg rfl) .nil) trivial memNil .nil memNil rfl ⟨(allSc_map recV_sc), trivial⟩ memNil rfl (by simp only [V.mat, V.mat1, V.mat0, matL, matT, List.length_map] <;> rfl) rfl rfl rfl rfl ?_
      refine s_len (m := x10.length) rfl sl24 rfl rfl rfl rfl ?_
      refine s_of (st_gtr rfl rfl rfl) rfl rfl rfl rfl ?_
      refine s_pickT rfl rfl (by conv => lhs; whnf) rfl rfl rfl ?_
      refine m2 ?_
      refine rt_nil ?_
      refine Exists.intro ⟨decide (0 < (x10.length : Int)), h⟩ ?_
      refine entX [((2, 0), ⟨50, 12, [[.sc (.int .i64 p0.id), .sc (.bool p0.reply), .sc (.bool p0.auth), .sc (.bool p0.cut), .sc (.bool p0.want), .sc (.bool p0.can), .sc (.int .i64 p0.code), .sc (.string p0.q.name), .sc (.int .i64 p0.q.ty), .lst 6 (List.map recV p0.an), .lst 6 (List.map recV p0.au), .lst 6 (List.map recV p0.ad)]], false, true⟩, some (2, 0))] [] ⟨⟨rfl, _, rfl, rfl, rfl, rfl, id, rowsCv_one (.cons (.free rfl) (.cons (.free rfl) (.cons (.free rfl) (.cons (.free rfl) (.cons (.free rfl) (.cons (.free rfl) (.cons (.free rfl) (.cons (.free rfl) (.cons (.free rfl) (.cons (.free rfl) (.cons (.free rfl) (.cons (.free rfl) .nil)))))))))))), rowsZ_one rfl⟩, trivial⟩ trivial rfl rfl ?_
      exact ⟨(.ptr rfl), (.free rfl), (.free rfl), (.free rfl), trivial⟩
     ·replace h := cond_f h b9
      refine s_skip rfl rfl rfl ?_
      refine s_skip rfl rfl rfl ?_
      refine s_skip rfl rfl rfl ?_
      refine s_skip rfl rfl rfl ?_
      refine s_pickF rfl rfl (v := .sc (.bool false)) rfl rfl rfl rfl ?_
      refine m2 ?_
      refine rt_nil ?_
      refine Exists.intro ⟨false, h⟩ ?_
      refine entX [((2, 0), ⟨50, 12, [[.sc (.int .i64 p0.id), .sc (.bool p0.reply), .sc (.bool p0.auth), .sc (.bool p0.cut), .sc (.bool p0.want), .sc (.bool p0.can), .sc (.int .i64 p0.code), .sc (.string p0.q.name), .sc (.int .i64 p0.q.ty), .lst 6 (List.map recV p0.an), .lst 6 (List.map recV p0.au), .lst 6 (List.map recV p0.ad)]], false, true⟩, some (2, 0))] [] ⟨⟨rfl, _, rfl, rfl, rfl, rfl, id, rowsCv_one (.cons (.free rfl) (.cons (.free rfl) (.cons (.free rfl) (.cons (.free rfl) (.cons (.free rfl) (.cons (.free rfl) (.cons (.free rfl) (.cons (.free rfl) (.cons (.free rfl) (.cons (.free rfl) (.cons (.free rfl) (.cons (.free rfl) .nil)))))))))))), rowsZ_one rfl⟩, trivial⟩ trivial rfl rfl ?_
      exact ⟨(.ptr rfl), (.free rfl), (.free rfl), (.free rfl), trivial⟩
    ·replace h := cond_f h b8
     refine s_skip rfl rfl rfl ?_
     refine s_skip rfl rfl rfl ?_
     refine s_skip rfl rfl rfl ?_
     refine s_pickF rfl rfl (v := .sc (.bool false)) rfl rfl rfl rfl ?_
     refine m1 ?_
     refine s_skip rfl rfl rfl ?_
     refine s_skip rfl rfl rfl ?_
     refine s_skip rfl rfl rfl ?_
     refine s_skip rfl rfl rfl ?_
     refine s_pickF rfl rfl (v := .sc (.bool false)) rfl rfl rfl rfl ?_
     refine m2 ?_
     refine rt_nil ?_
     refine Exists.intro ⟨false, h⟩ ?_
     refine entX [((2, 0), ⟨50, 12, [[.sc (.int .i64 p0.id), .sc (.bool p0.reply), .sc (.bool p0.auth), .sc (.bool p0.cut), .sc (.bool p0.want), .sc (.bool p0.can), .sc (.int .i64 p0.code), .sc (.string p0.q.name), .sc (.int .i64 p0.q.ty), .lst 6 (List.map recV p0.an), .lst 6 (List.map recV p0.au), .lst 6 (List.map recV p0.ad)]], false, true⟩, some (2, 0))] [] ⟨⟨rfl, _, rfl, rfl, rfl, rfl, id, rowsCv_one (.cons (.free rfl) (.cons (.free rfl) (.cons (.free rfl) (.cons (.free rfl) (.cons (.free rfl) (.cons (.free rfl) (.cons (.free rfl) (.cons (.free rfl) (.cons (.free rfl) (.cons (.free rfl) (.cons (.free rfl) (.cons (.free rfl) .nil)))))))))))), rowsZ_one rfl⟩, trivial⟩ trivial rfl rfl ?_
     exact ⟨(.ptr rfl), (.free rfl), (.free rfl), (.free rfl), trivial⟩
   ·rintro ⟨j1_0, h⟩
    replace h : i_ClassOf_j1 p0 x2 x5 j1_0 = some r0 := h
    unfold i_ClassOf_j1 at h
    show Tri _ _ _ (inv_i_ClassOf_1 p0 x2 x5 j1_0)
    refine tri_cond rfl (fun c8 => ?_) (fun c8 => ?_)
    ·replace h := cond_t h c8
     refine tri_sr ?_
     refine s_mv (.inr rfl) (v := .sc (.int .i64 3)) rfl rfl rfl rfl ?_
     refine rt_nil ?_
     refine tri_ret ?_
     have e0 := (some1 h); subst e0
     exact endY [] [] (rvC (resTmp rfl) rvN) trivial trivial rfl rfl rfl rfl (.free rfl)
    ·replace h := cond_f h c8
     refine tri_cutI (ι := { p : Bool // i_ClassOf_j2 p0 x2 p = some r0 }) (fun p => inv_i_ClassOf_2 p0 x2 p.1) ?_ ?_
     ·skip
      refine tri_region ?_
      refine s_fieldAddr rfl rfl fd50_2 rfl rfl rfl rfl ?_
      refine s_load rfl rfl rfl rfl ty4 rfl (.inr rfl) (by conv => lhs; whnf) rfl rfl rfl ?_
      refine m1 ?_
      refine s_split (t := 50) rfl (fun b9 => ?_) (fun b9 => ?_)
      ·replace h := cond_t h b9
       refine m1 ?_
       refine s_pickT rfl rfl (by conv => lhs; whnf) rfl rfl rfl ?_
       refine m1 ?_
       refine s_split (t := 53) rfl (fun b10 => ?_) (fun b10 => ?_)
       ·replace h := cond_t h b10
        refine s_fieldAddr rfl rfl fd50_7 rfl rfl rfl rfl ?_
        refine s_fieldAddr rfl rfl fd28_1 rfl rfl rfl rfl ?_
        refine s_load rfl rfl rfl rfl ty3 rfl (.inr rfl) (by conv => lhs; whnf) rfl rfl rfl ?_
        refine s_of (st_neI rfl rfl rfl) rfl rfl rfl rfl ?_
        refine s_pickT rfl rfl (by conv => lhs; whnf) rfl rfl rfl ?_
        refine m2 ?_
        refine rt_nil ?_
        refine Exists.intro ⟨!decide (p0.q.ty = 5), h⟩ ?_
        refine entX [((2, 0), ⟨50, 12, [[.sc (.int .i64 p0.id), .sc (.bool p0.reply), .sc (.bool p0.auth), .sc (.bool p0.cut), .sc (.bool p0.want), .sc (.bool p0.can), .sc (.int .i64 p0.code), .sc (.string p0.q.name), .sc (.int .i64 p0.q.ty), .lst 6 (List.map recV p0.an), .lst 6 (List.map recV p0.au), .lst 6 (List.map recV p0.ad)]], false, true⟩, some (2, 0))] [] ⟨⟨rfl, _, rfl, rfl, rfl, rfl, id, rowsCv_one (.cons (.free rfl) (.cons (.free rfl) (.cons (.free rfl) (.cons (.free rfl) (.cons (.free rfl) (.cons (.free rfl) (.cons (.free rfl) (.cons (.free rfl) (.cons (.free rfl) (.cons (.free rfl) (.cons (.free rfl) (.cons (.free rfl) .nil)))))))))))), rowsZ_one rfl⟩, trivial⟩ trivial rfl rfl ?_
        exact ⟨(.ptr rfl), (.free rfl), (.free rfl), trivial⟩
       ·replace h := cond_f h b10
        refine s_skip rfl rfl rfl ?_
        refine s_skip rfl rfl rfl ?_
        refine s_skip rfl rfl rfl ?_
        refine s_skip rfl rfl rfl ?_
        refine s_pickF rfl rfl (v := .sc (.bool false)) rfl rfl rfl rfl ?_
        refine m2 ?_
        refine rt_nil ?_
        refine Exists.intro ⟨false, h⟩ ?_
        refine entX [((2, 0), ⟨50, 12, [[.sc (.int .i64 p0.id), .sc (.bool p0.reply), .sc (.bool p0.auth), .sc (.bool p0.cut), .sc (.bool p0.want), .sc (.bool p0.can), .sc (.int .i64 p0.code), .sc (.string p0.q.name), .sc (.int .i64 p0.q.ty), .lst 6 (List.map recV p0.an), .lst 6 (List.map recV p0.au), .lst 6 (List.map recV p0.ad)]], false, true⟩, some (2, 0))] [] ⟨⟨rfl, _, rfl, rfl, rfl, rfl, id, rowsCv_one (.cons (.free rfl) (.cons (.free rfl) (.cons (.free rfl) (.cons (.free rfl) (.cons (.free rfl) (.cons (.free rfl) (.cons (.free rfl) (.cons (.free rfl) (.cons (.free rfl) (.cons (.free rfl) (.cons (.free rfl) (.cons (.free rfl) .nil)))))))))))), rowsZ_one rfl⟩, trivial⟩ trivial rfl rfl ?_
        exact ⟨(.ptr rfl), (.free rfl), (.free rfl), trivial⟩
      ·replace h := cond_f h b9
       refine s_skip rfl rfl rfl ?_
       refine s_pickF rfl rfl (v := .sc (.bool false)) rfl rfl rfl rfl ?_
       refine m1 ?_
       refine s_skip rfl rfl rfl ?_
       refine s_skip rfl rfl rfl ?_
       refine s_skip rfl rfl rfl ?_
       refine s_skip rfl rfl rfl ?_
       refine s_pickF rfl rfl (v := .sc (.bool false)) rfl rfl rfl rfl ?_
       refine m2 ?_
       refine rt_nil ?_
       refine Exists.intro ⟨false, h⟩ ?_
       refine entX [((2, 0), ⟨50, 12, [[.sc (.int .i64 p0.id), .sc (.bool p0.reply), .sc (.bool p0.auth), .sc (.bool p0.cut), .sc (.bool p0.want), .sc (.bool p0.can), .sc (.int .i64 p0.code), .sc (.string p0.q.name), .sc (.int .i64 p0.q.ty), .lst 6 (List.map recV p0.an), .lst 6 (List.map recV p0.au), .lst 6 (List.map recV p0.ad)]], false, true⟩, some (2, 0))] [] ⟨⟨rfl, _, rfl, rfl, rfl, rfl, id, rowsCv_one (.cons (.free rfl) (.cons (.free rfl) (.cons (.free rfl) (.cons (.free rfl) (.cons (.free rfl) (.cons (.free rfl) (.cons (.free rfl) (.cons (.free rfl) (.cons (.free rfl) (.cons (.free rfl) (.cons (.free rfl) (.cons (.free rfl) .nil)))))))))))), rowsZ_one rfl⟩, trivial⟩ trivial rfl rfl ?_
       exact ⟨(.ptr rfl), (.free rfl), (.free rfl), trivial⟩
     ·rintro ⟨j2_0, h⟩
      replace h : i_ClassOf_j2 p0 x2 j2_0 = some r0 := h
      unfold i_ClassOf_j2 at h
      show Tri _ _ _ (inv_i_ClassOf_2 p0 x2 j2_0)
      refine tri_cond rfl (fun c9 => ?_) (fun c9 => ?_)
      ·replace h := cond_t h c9
       refine tri_sr ?_
       refine s_mv (.inr rfl) (v := .sc (.int .i64 2)) rfl rfl rfl rfl ?_
       refine rt_nil ?_
       refine tri_ret ?_
       have e0 := (some1 h); subst e0
       exact endY [] [] (rvC (resTmp rfl) rvN) trivial trivial rfl rfl rfl rfl (.free rfl)
      ·replace h := cond_f h c9
       refine tri_cutI (ι := { p : Bool // i_ClassOf_j3 p0 x2 p = some r0 }) (fun p => inv_i_ClassOf_3 p0 x2 p.1) ?_ ?_
       ·skip
        refine tri_region ?_
        refine s_fieldAddr rfl rfl fd50_2 rfl rfl rfl rfl ?_
        refine s_load rfl rfl rfl rfl ty4 rfl (.inr rfl) (by conv => lhs; whnf) rfl rfl rfl ?_
        refine m1 ?_
        refine s_split (t := 62) rfl (fun b10 => ?_) (fun b10 => ?_)
        ·replace h := cond_t h b10
         refine s_fieldAddr rfl rfl fd50_6 rfl rfl rfl rfl ?_
         refine s_load rfl rfl rfl rfl ty3 rfl (.inr rfl) (by conv => lhs; whnf) rfl rfl rfl ?_
         refine s_of (st_eqI rfl rfl rfl) rfl rfl rfl rfl ?_
         refine s_pickT rfl rfl (by conv => lhs; whnf) rfl rfl rfl ?_
         refine m2 ?_
         refine rt_nil ?_
         refine Exists.intro ⟨decide (p0.code = 3), h⟩ ?_
         refine entX [((2, 0), ⟨50, 12, [[.sc (.int .i64 p0.id), .sc (.bool p0.reply), .sc (.bool p0.auth), .sc (.bool p0.cut), .sc (.bool p0.want), .sc (.bool p0.can), .sc (.int .i64 p0.code), .sc (.string p0.q.name), .sc (.int .i64 p0.q.ty), .lst 6 (List.map recV p0.an), .lst 6 (List.map recV p0.au), .lst 6 (List.map recV p0.ad)]], false, true⟩, some (2, 0))] [] ⟨⟨rfl, _, rfl, rfl, rfl, rfl, id, rowsCv_one (.cons (.free rfl) (.cons (.free rfl) (.cons (.free rfl) (.cons (.free rfl) (.cons (.free rfl) (.cons (.free rfl) (.cons (.free rfl) (.cons (.free rfl) (.cons (.free rfl) (.cons (.free rfl) (.cons (.free rfl) (.cons (.free rfl) .nil)))))))))))), rowsZ_one rfl⟩, trivial⟩ trivial rfl rfl ?_
         exact ⟨(.ptr rfl), (.free rfl), (.free rfl), trivial⟩
        ·replace h := cond_f h b10
         refine s_skip rfl rfl rfl ?_
         refine s_skip rfl rfl rfl ?_
         refine s_skip rfl rfl rfl ?_
         refine s_pickF rfl rfl (v := .sc (.bool false)) rfl rfl rfl rfl ?_
         refine m2 ?_
         refine rt_nil ?_
         refine Exists.intro ⟨false, h⟩ ?_
         refine entX [((2, 0), ⟨50, 12, [[.sc (.int .i64 p0.id), .sc (.bool p0.reply), .sc (.bool p0.auth), .sc (.bool p0.cut), .sc (.bool p0.want), .sc (.bool p0.can), .sc (.int .i64 p0.code), .sc (.string p0.q.name), .sc (.int .i64 p0.q.ty), .lst 6 (List.map recV p0.an), .lst 6 (List.map recV p0.au), .lst 6 (List.map recV p0.ad)]], false, true⟩, some (2, 0))] [] ⟨⟨rfl, _, rfl, rfl, rfl, rfl, id, rowsCv_one (.cons (.free rfl) (.cons (.free rfl) (.cons (.free rfl) (.cons (.free rfl) (.cons (.free rfl) (.cons (.free rfl) (.cons (.free rfl) (.cons (.free rfl) (.cons (.free rfl) (.cons (.free rfl) (.cons (.free rfl) (.cons (.free rfl) .nil)))))))))))), rowsZ_one rfl⟩, trivial⟩ trivial rfl rfl ?_
         exact ⟨(.ptr rfl), (.free rfl), (.free rfl), trivial⟩
       ·rintro ⟨j3_0, h⟩
        replace h : i_ClassOf_j3 p0 x2 j3_0 = some r0 := h
        unfold i_ClassOf_j3 at h
        show Tri _ _ _ (inv_i_ClassOf_3 p0 x2 j3_0)
        refine tri_cond rfl (fun c10 => ?_) (fun c10 => ?_)
        ·replace h := cond_t h c10
         refine tri_sr ?_
         refine s_mv (.inr rfl) (v := .sc (.int .i64 5)) rfl rfl rfl rfl ?_
         refine rt_nil ?_
         refine tri_ret ?_
         have e0 := (some1 h); subst e0
         exact endY [] [] (rvC (resTmp rfl) rvN) trivial trivial rfl rfl rfl rfl (.free rfl)
        ·replace h := cond_f h c10
         refine tri_cutI (ι := { p : Bool // i_ClassOf_j4 p0 x2 p = some r0 }) (fun p => inv_i_ClassOf_4 p0 x2 p.1) ?_ ?_
         ·skip
          refine tri_region ?_
          refine s_fieldAddr rfl rfl fd50_2 rfl rfl rfl rfl ?_
          refine s_load rfl rfl rfl rfl ty4 rfl (.inr rfl) (by conv => lhs; whnf) rfl rfl rfl ?_
          refine m1 ?_
          refine s_split (t := 70) rfl (fun b11 => ?_) (fun b11 => ?_)
          ·replace h := cond_t h b11
           refine s_fieldAddr rfl rfl fd50_8 rfl rfl rfl rfl ?_
           refine s_load rfl rfl rfl rfl ty24 rfl (.inr rfl) (by conv => lhs; whnf) rfl rfl rfl ?_
           refine s_lenL rfl sl24 rfl rfl rfl rfl ?_
           refine s_of (st_eqI rfl rfl rfl) rfl rfl rfl rfl ?_
           refine s_pickT rfl rfl (by conv => lhs; whnf) rfl rfl rfl ?_
           refine m2 ?_
           refine rt_nil ?_
           refine Exists.intro ⟨decide ((p0.an.length : Int) = 0), h⟩ ?_
           refine entX [((2, 0), ⟨50, 12, [[.sc (.int .i64 p0.id), .sc (.bool p0.reply), .sc (.bool p0.auth), .sc (.bool p0.cut), .sc (.bool p0.want), .sc (.bool p0.can), .sc (.int .i64 p0.code), .sc (.string p0.q.name), .sc (.int .i64 p0.q.ty), .lst 6 (List.map recV p0.an), .lst 6 (List.map recV p0.au), .lst 6 (List.map recV p0.ad)]], false, true⟩, some (2, 0))] [] ⟨⟨rfl, _, rfl, rfl, rfl, rfl, id, rowsCv_one (.cons (.free rfl) (.cons (.free rfl) (.cons (.free rfl) (.cons (.free rfl) (.cons (.free rfl) (.cons (.free rfl) (.cons (.free rfl) (.cons (.free rfl) (.cons (.free rfl) (.cons (.free rfl) (.cons (.free rfl) (.cons (.free rfl) .nil)))))))))))), rowsZ_one rfl⟩, trivial⟩ trivial rfl rfl ?_
           exact ⟨(.ptr rfl), (.free rfl), (.free rfl), trivial⟩
          ·replace h := cond_f h b11
           refine s_skip rfl rfl rfl ?_
           refine s_skip rfl rfl rfl ?_
           refine s_skip rfl rfl rfl ?_
           refine s_skip rfl rfl rfl ?_
           refine s_pickF rfl rfl (v := .sc (.bool false)) rfl rfl rfl rfl ?_
           refine m2 ?_
           refine rt_nil ?_
           refine Exists.intro ⟨false, h⟩ ?_
           refine entX [((2, 0), ⟨50, 12, [[.sc (.int .i64 p0.id), .sc (.bool p0.reply), .sc (.bool p0.auth), .sc (.bool p0.cut), .sc (.bool p0.want), .sc (.bool p0.can), .sc (.int .i64 p0.code), .sc (.string p0.q.name), .sc (.int .i64 p0.q.ty), .lst 6 (List.map recV p0.an), .lst 6 (List.map recV p0.au), .lst 6 (List.map recV p0.ad)]], false, true⟩, some (2, 0))] [] ⟨⟨rfl, _, rfl, rfl, rfl, rfl, id, rowsCv_one (.cons (.free rfl) (.cons (.free rfl) (.cons (.free rfl) (.cons (.free rfl) (.cons (.free rfl) (.cons (.free rfl) (.cons (.free rfl) (.cons (.free rfl) (.cons (.free rfl) (.cons (.free rfl) (.cons (.free rfl) (.cons (.free rfl) .nil)))))))))))), rowsZ_one rfl⟩, trivial⟩ trivial rfl rfl ?_
           exact ⟨(.ptr rfl), (.free rfl), (.free rfl), trivial⟩
         ·rintro ⟨j4_0, h⟩
          replace h : i_ClassOf_j4 p0 x2 j4_0 = some r0 := h
          unfold i_ClassOf_j4 at h
          show Tri _ _ _ (inv_i_ClassOf_4 p0 x2 j4_0)
          refine tri_cond rfl (fun c11 => ?_) (fun c11 => ?_)
          ·replace h := cond_t h c11
           refine tri_sr ?_
           refine s_mv (.inr rfl) (v := .sc (.int .i64 4)) rfl rfl rfl rfl ?_
           refine rt_nil ?_
           refine tri_ret ?_
           have e0 := (some1 h); subst e0
           exact endY [] [] (rvC (resTmp rfl) rvN) trivial trivial rfl rfl rfl rfl (.free rfl)
          ·replace h := cond_f h c11
           refine tri_cutI (ι := { p : Bool // i_ClassOf_j5 p = some r0 }) (fun p => inv_i_ClassOf_5 p.1) ?_ ?_
           ·skip
            refine tri_region ?_
            refine s_fieldAddr rfl rfl fd50_2 rfl rfl rfl rfl ?_
            refine s_load rfl rfl rfl rfl ty4 rfl (.inr rfl) (by conv => lhs; whnf) rfl rfl rfl ?_
            refine s_of (st_not rfl rfl) rfl rfl rfl rfl ?_
            refine m1 ?_
            refine s_split (t := 80) rfl (fun b12 => ?_) (fun b12 => ?_)
            ·replace h := cond_t h b12
             refine s_fieldAddr rfl rfl fd50_6 rfl rfl rfl rfl ?_
             refine s_load rfl rfl rfl rfl ty3 rfl (.inr rfl) (by conv => lhs; whnf) rfl rfl rfl ?_
             refine s_of (st_eqI rfl rfl rfl) rfl rfl rfl rfl ?_
             refine s_pickT rfl rfl (by conv => lhs; whnf) rfl rfl rfl ?_
             refine m1 ?_
             refine s_split (t := 85) rfl (fun b13 => ?_) (fun b13 => ?_)
             ·replace h := cond_t h b13
              refine s_fieldAddr rfl rfl fd50_8 rfl rfl rfl rfl ?_
              refine s_load rfl rfl rfl rfl ty24 rfl (.inr rfl) (by conv => lhs; whnf) rfl rfl rfl ?_
              refine s_lenL rfl sl24 rfl rfl rfl rfl ?_
              refine s_of (st_eqI rfl rfl rfl) rfl rfl rfl rfl ?_
              refine s_pickT rfl rfl (by conv => lhs; whnf) rfl rfl rfl ?_
              refine m1 ?_
              refine s_split (t := 91) rfl (fun b14 => ?_) (fun b14 => ?_)
              ·replace h := cond_t h b14
               refine m1 ?_
               refine s_pickT rfl rfl (by conv => lhs; whnf) rfl rfl rfl ?_
               refine m2 ?_
               refine rt_nil ?_
               refine Exists.intro ⟨x2, h⟩ ?_
               refine entX [] [] trivial trivial rfl rfl ?_
               exact ⟨(.free rfl), trivial⟩
              ·replace h := cond_f h b14
               refine s_skip rfl rfl rfl ?_
               refine s_pickF rfl rfl (v := .sc (.bool false)) rfl rfl rfl rfl ?_
               refine m2 ?_
               refine rt_nil ?_
               refine Exists.intro ⟨false, h⟩ ?_
               refine entX [] [] trivial trivial rfl rfl ?_
               exact ⟨(.free rfl), trivial⟩
             ·replace h := cond_f h b13
              refine s_skip rfl rfl rfl ?_
              refine s_skip rfl rfl rfl ?_
              refine s_skip rfl rfl rfl ?_
              refine s_skip rfl rfl rfl ?_
              refine s_pickF rfl rfl (v := .sc (.bool false)) rfl rfl rfl rfl ?_
              refine m1 ?_
              refine s_skip rfl rfl rfl ?_
              refine s_pickF rfl rfl (v := .sc (.bool false)) rfl rfl rfl rfl ?_
              refine m2 ?_
              refine rt_nil ?_
              refine Exists.intro ⟨false, h⟩ ?_
              refine entX [] [] trivial trivial rfl rfl ?_
              exact ⟨(.free rfl), trivial⟩
            ·replace h := cond_f h b12
             refine s_skip rfl rfl rfl ?_
             refine s_skip rfl rfl rfl ?_
             refine s_skip rfl rfl rfl ?_
             refine s_pickF rfl rfl (v := .sc (.bool false)) rfl rfl rfl rfl ?_
             refine m1 ?_
             refine s_skip rfl rfl rfl ?_
             refine s_skip rfl rfl rfl ?_
             refine s_skip rfl rfl rfl ?_
             refine s_skip rfl rfl rfl ?_
             refine s_pickF rfl rfl (v := .sc (.bool false)) rfl rfl rfl rfl ?_
             refine m1 ?_
             refine s_skip rfl rfl rfl ?_
             refine s_pickF rfl rfl (v := .sc (.bool false)) rfl rfl rfl rfl ?_
             refine m2 ?_
             refine rt_nil ?_
             refine Exists.intro ⟨false, h⟩ ?_
             refine entX [] [] trivial trivial rfl rfl ?_
             exact ⟨(.free rfl), trivial⟩
           ·rintro ⟨j5_0, h⟩
            replace h : i_ClassOf_j5 j5_0 = some r0 := h
            unfold i_ClassOf_j5 at h
            show Tri _ _ _ (inv_i_ClassOf_5 j5_0)
            refine tri_cond rfl (fun c12 => ?_) (fun c12 => ?_)
            ·replace h := cond_t h c12
             refine tri_sr ?_
             refine s_mv (.inr rfl) (v := .sc (.int .i64 1)) rfl rfl rfl rfl ?_
             refine rt_nil ?_
             refine tri_ret ?_
             have e0 := (some1 h); subst e0
             exact endY [] [] (rvC (resTmp rfl) rvN) trivial trivial rfl rfl rfl rfl (.free rfl)
            ·replace h := cond_f h c12
             refine tri_skip ?_
             refine tri_sr ?_
             refine s_mv (.inr rfl) (v := .sc (.int .i64 0)) rfl rfl rfl rfl ?_
             refine rt_nil ?_
             refine tri_ret ?_
             have e0 := (some1 h); subst e0
             exact endY [] [] (rvC (resTmp rfl) rvN) trivial trivial rfl rfl rfl rfl (.free rfl)

/- spec.SetIn -/

set_option maxRecDepth 4000 in
set_option maxHeartbeats 800000 in
theorem ws_SetIn (p0 : MMsg) (r0 : List Rec) (h : s_SetIn p0 = some r0) : Runs Tryd.prog 82 [.agg (mMsgV p0)] [] (.own 39 6 (List.map recV r0)) [] := by
 unfold s_SetIn at h
 refine runsR [.tmp 2] Tryd.func82 rfl rfl rfl rfl ?_
 rw [Tryd.ntmps82]
 refine tri_sr ?_
 refine s_box rfl rfl rfl rfl rfl rfl rfl ?_
 refine s_mv (.inr rfl) (v := .nils) rfl rfl rfl rfl ?_
 refine rt_nil ?_
 refine tri_sr ?_
 refine s_fieldAddr rfl rfl fd50_8 rfl rfl rfl rfl ?_
 refine s_load rfl rfl rfl rfl ty24 rfl (.inr rfl) (by conv => lhs; whnf) rfl rfl rfl ?_
 refine s_fieldAddr rfl rfl fd50_7 rfl rfl rfl rfl ?_
 refine s_fieldAddr rfl rfl fd28_0 rfl rfl rfl rfl ?_
 refine s_load rfl rfl rfl rfl ty9 rfl (.inr rfl) (by conv => lhs; whnf) rfl rfl rfl ?_
 refine s_fieldAddr rfl rfl fd50_7 rfl rfl rfl rfl ?_
 refine s_fieldAddr rfl rfl fd28_1 rfl rfl rfl rfl ?_
 refine s_load rfl rfl rfl rfl ty3 rfl (.inr rfl) (by conv => lhs; whnf) rfl rfl rfl ?_
 refine bnd1_elim h fun x1 q2 h => ?_
 refine s_callN (kb := []) (ns := []) (v := .ref (11, 0) 0 x1.length) rfl rfl cl128 (ws_SetOf p0.an p0.q.name p0.q.ty x1 q2) rfl (.cons (.free rfl) (.cons (.free rfl) (.cons (.free rfl) .nil))) trivial memNil .nil memNil rfl ⟨(allSc_map recV_sc), trivial⟩ memNil rfl (by simp only [V.mat, V.mat1, V.mat0, matL, matT, List.length_map] <;> rfl) rfl rfl rfl rfl ?_
 refine m2 ?_
 refine rt_nil ?_
 refine tri_ret ?_
 have e0 := (some1 h); subst e0
 exact endY (v' := .ref (2000, 0) 0 x1.length) [((2000, 0), ⟨39, 6, List.map recV x1, false, true⟩, some (11, 0))] [] (rvC (resTmp rfl) rvN) ⟨⟨rfl, _, rfl, rfl, rfl, rfl, id, rowsCv_eq rfl (allFree_map recV_free), rowsZ_map recV_len⟩, trivial⟩ trivial rfl rfl (by kernel_rfl) (by simp only [V.mat, V.mat1, V.mat0, matL, matT, List.length_map] <;> rfl) (.ref rfl)

/- spec.ClassOf -/
def inv_s_ClassOf_5  (j5_0 : Bool) : St := mkT 94 [(76, .sc (.bool j5_0))] []
def inv_s_ClassOf_4 (p0 : MMsg) (x5 : Bool) (j4_0 : Bool) : St := mkT 94 [(2, .ptr (2, 0) 0 0), (8, .sc (.bool x5)), (67, .sc (.bool j4_0))] [((2, 0), some ⟨50, 12, [[.sc (.int .i64 p0.id), .sc (.bool p0.reply), .sc (.bool p0.auth), .sc (.bool p0.cut), .sc (.bool p0.want), .sc (.bool p0.can), .sc (.int .i64 p0.code), .sc (.string p0.q.name), .sc (.int .i64 p0.q.ty), .lst 6 (List.map recV p0.an), .lst 6 (List.map recV p0.au), .lst 6 (List.map recV p0.ad)]], false, true⟩)]
def inv_s_ClassOf_3 (p0 : MMsg) (x5 : Bool) (j3_0 : Bool) : St := mkT 94 [(2, .ptr (2, 0) 0 0), (8, .sc (.bool x5)), (59, .sc (.bool j3_0))] [((2, 0), some ⟨50, 12, [[.sc (.int .i64 p0.id), .sc (.bool p0.reply), .sc (.bool p0.auth), .sc (.bool p0.cut), .sc (.bool p0.want), .sc (.bool p0.can), .sc (.int .i64 p0.code), .sc (.string p0.q.name), .sc (.int .i64 p0.q.ty), .lst 6 (List.map recV p0.an), .lst 6 (List.map recV p0.au), .lst 6 (List.map recV p0.ad)]], false, true⟩)]
def inv_s_ClassOf_2 (p0 : MMsg) (x5 : Bool) (j2_0 : Bool) : St := mkT 94 [(2, .ptr (2, 0) 0 0), (8, .sc (.bool x5)), (47, .sc (.bool j2_0))] [((2, 0), some ⟨50, 12, [[.sc (.int .i64 p0.id), .sc (.bool p0.reply), .sc (.bool p0.auth), .sc (.bool p0.cut), .sc (.bool p0.want), .sc (.bool p0.can), .sc (.int .i64 p0.code), .sc (.string p0.q.name), .sc (.int .i64 p0.q.ty), .lst 6 (List.map recV p0.an), .lst 6 (List.map recV p0.au), .lst 6 (List.map recV p0.ad)]], false, true⟩)]
def inv_s_ClassOf_1 (p0 : MMsg) (x2 : Bool) (x5 : Bool) (j1_0 : Bool) : St := mkT 94 [(2, .ptr (2, 0) 0 0), (6, .sc (.bool x2)), (8, .sc (.bool x5)), (33, .sc (.bool j1_0))] [((2, 0), some ⟨50, 12, [[.sc (.int .i64 p0.id), .sc (.bool p0.reply), .sc (.bool p0.auth), .sc (.bool p0.cut), .sc (.bool p0.want), .sc (.bool p0.can), .sc (.int .i64 p0.code), .sc (.string p0.q.name), .sc (.int .i64 p0.q.ty), .lst 6 (List.map recV p0.an), .lst 6 (List.map recV p0.au), .lst 6 (List.map recV p0.ad)]], false, true⟩)]
def inv_s_ClassOf_0 (p0 : MMsg) (x2 : Bool) (x5 : Bool) (j0_0 : Bool) : St := mkT 94 [(2, .ptr (2, 0) 0 0), (6, .sc (.bool x2)), (8, .sc (.bool x5)), (20, .sc (.bool j0_0))] [((2, 0), some ⟨50, 12, [[.sc (.int .i64 p0.id), .sc (.bool p0.reply), .sc (.bool p0.auth), .sc (.bool p0.cut), .sc (.bool p0.want), .sc (.bool p0.can), .sc (.int .i64 p0.code), .sc (.string p0.q.name), .sc (.int .i64 p0.q.ty), .lst 6 (List.map recV p0.an), .lst 6 (List.map recV p0.au), .lst 6 (List.map recV p0.ad)]], false, true⟩)]
set_option maxRecDepth 4000 in
set_option maxHeartbeats 800000 in
theorem ws_ClassOf (p0 : MMsg) (p1 : ByteArray) (r0 : Int) (h : s_ClassOf p0 p1 = some r0) : Runs Tryd.prog 80 [.agg (mMsgV p0), .sc (.string p1)] [] (.sc (.int .i64 r0)) [] := by
 unfold s_ClassOf at h
 refine runsR [.tmp 4] Tryd.func80 rfl rfl rfl rfl ?_
 rw [Tryd.ntmps80]
 refine tri_sr ?_
 refine s_box rfl rfl rfl rfl rfl rfl rfl ?_
 refine s_mv (.inr rfl) (v := .sc (.int .i64 0)) rfl rfl rfl rfl ?_
 refine rt_nil ?_
 refine tri_sr ?_
 refine s_loadR rfl rfl rfl rfl ty50 rfl rfl rfl ?_
 refine bnd2_elim h fun x1 x2 q3 h => ?_
 refine s_callN (kb := []) (ns := []) (v := .tup [.agg (recV x1), .sc (.bool x2)]) rfl rfl cl78 (ws_AliasIn p0 x1 x2 q3) rfl (.cons (relAgg rfl) .nil) trivial memNil .nil memNil rfl trivial memNil rfl rfl rfl rfl rfl rfl ?_
 refine m1 ?_
 refine s_extract rfl rfl rfl rfl rfl rfl ?_
 refine s_extract rfl rfl rfl rfl rfl rfl ?_
 refine s_alloc rfl rfl rfl zc39 rfl rfl rfl rfl rfl ?_
 refine s_storeB rfl rfl rfl ty39 rfl rfl rfl rfl rfl ?_
 refine m2 ?_
 refine rt_nil ?_
 refine tri_sr ?_
 refine s_loadR rfl rfl rfl rfl ty50 rfl rfl rfl ?_
 refine m1 ?_
 refine bnd2_elim h fun x4 x5 q6 h => ?_
 refine s_callN (kb := []) (ns := []) (v := .tup [.sc (.string x4), .sc (.bool x5)]) rfl rfl cl79 (ws_DownIn p0 p1 x4 x5 q6) rfl (.cons (relAgg rfl) (.cons (.free rfl) .nil)) trivial memNil .nil memNil rfl trivial memNil rfl rfl rfl rfl rfl rfl ?_
 refine m1 ?_
 refine s_extract rfl rfl rfl rfl rfl rfl ?_
 refine s_extract rfl rfl rfl rfl rfl rfl ?_
 refine m2 ?_
 refine m2 ?_
 refine rt_nil ?_
 refine tri_seq ?_
 refine tri_block ?_
 refine tri_cutI (ι := { p : Bool // s_ClassOf_j0 p0 x2 x5 p = some r0 }) (fun p => inv_s_ClassOf_0 p0 x2 x5 p.1) ?_ ?_
 ·skip
  refine tri_region ?_
  refine s_fieldAddr rfl rfl fd50_3 rfl rfl rfl rfl ?_
  refine s_load rfl rfl rfl rfl ty4 rfl (.inr rfl) (by conv => lhs; whnf) rfl rfl rfl ?_
  refine m1 ?_
  refine s_split (t := 23) rfl (fun b7 => ?_) (fun b7 => ?_)
  ·replace h := cond_t h b7
   refine s_skip rfl rfl rfl ?_
   refine s_skip rfl rfl rfl ?_
   refine s_skip rfl rfl rfl ?_
   refine s_skip rfl rfl rfl ?_
   refine s_skip rfl rfl rfl ?_
   refine s_skip rfl rfl rfl ?_
   refine s_skip rfl rfl rfl ?_
   refine s_skip rfl rfl rfl ?_
   refine s_pickT rfl rfl (v := .sc (.bool true)) rfl rfl rfl rfl ?_
   refine m2 ?_
   refine rt_nil ?_
   refine Exists.intro ⟨true, h⟩ ?_
   refine entX [((2, 0), ⟨50, 12, [[.sc (.int .i64 p0.id), .sc (.bool p0.reply), .sc (.bool p0.auth), .sc (.bool p0.cut), .sc (.bool p0.want), .sc (.bool p0.can), .sc (.int .i64 p0.code), .sc (.string p0.q.name), .sc (.int .i64 p0.q.ty), .lst 6 (List.map recV p0.an), .lst 6 (List.map recV p0.au), .lst 6 (List.map recV p0.ad)]], false, true⟩, some (2, 0))] [] ⟨⟨rfl, _, rfl, rfl, rfl, rfl, id, rowsCv_one (.cons (.free rfl) (.cons (.free rfl) (.cons (.free rfl) (.cons (.free rfl) (.cons (.free rfl) (.cons (.free rfl) (.cons (.free rfl) (.cons (.free rfl) (.cons (.free rfl) (.cons (.free rfl) (.cons (.free rfl) (.cons (.free rfl) .nil)))))))))))), rowsZ_one rfl⟩, trivial⟩ trivial rfl rfl ?_
   exact ⟨(.ptr rfl), (.free rfl), (.free rfl), (.free rfl), trivial⟩
  ·replace h := cond_f h b7
   refine s_fieldAddr rfl rfl fd50_6 rfl rfl rfl rfl ?_
   refine s_load rfl rfl rfl rfl ty3 rfl (.inr rfl) (by conv => lhs; whnf) rfl rfl rfl ?_
   refine s_of (st_neI rfl rfl rfl) rfl rfl rfl rfl ?_
   refine m1 ?_
   refine s_split (t := 27) rfl (fun b8 => ?_) (fun b8 => ?_)
   ·replace h := cond_t h b8
    refine s_fieldAddr rfl rfl fd50_6 rfl rfl rfl rfl ?_
    refine s_load rfl rfl rfl rfl ty3 rfl (.inr rfl) (by conv => lhs; whnf) rfl rfl rfl ?_
    refine s_of (st_neI rfl rfl rfl) rfl rfl rfl rfl ?_
    refine s_pickT rfl rfl (by conv => lhs; whnf) rfl rfl rfl ?_
    refine s_pickF rfl rfl (by conv => lhs; whnf) rfl rfl rfl ?_
    refine m2 ?_
    refine rt_nil ?_
    refine Exists.intro ⟨!decide (p0.code = 3), h⟩ ?_
    refine entX [((2, 0), ⟨50, 12, [[.sc (.int .i64 p0.id), .sc (.bool p0.reply), .sc (.bool p0.auth), .sc (.bool p0.cut), .sc (.bool p0.want), .sc (.bool p0.can), .sc (.int .i64 p0.code), .sc (.string p0.q.name), .sc (.int .i64 p0.q.ty), .lst 6 (List.map recV p0.an), .lst 6 (List.map recV p0.au), .lst 6 (List.map recV p0.ad)]], false, true⟩, some (2, 0))] [] ⟨⟨rfl, _, rfl, rfl, rfl, rfl, id, rowsCv_one (.cons (.free rfl) (.cons (.free rfl) (.cons (.free rfl) (.cons (.free rfl) (.cons (.free rfl) (.cons (.free rfl) (.cons (.free rfl) (.cons (.free rfl) (.cons (.free rfl) (.cons (.free rfl) (.cons (.free rfl) (.cons (.free rfl) .nil)))))))))))), rowsZ_one rfl⟩, trivial⟩ trivial rfl rfl ?_
    exact ⟨(.ptr rfl), (.free rfl), (.free rfl), (.free rfl), trivial⟩
   ·replace h := cond_f h b8
    refine s_skip rfl rfl rfl ?_
    refine s_skip rfl rfl rfl ?_
    refine s_skip rfl rfl rfl ?_
    refine s_pickF rfl rfl (v := .sc (.bool false)) rfl rfl rfl rfl ?_
    refine s_pickF rfl rfl (by conv => lhs; whnf) rfl rfl rfl ?_
    refine m2 ?_
    refine rt_nil ?_
    refine Exists.intro ⟨false, h⟩ ?_
    refine entX [((2, 0), ⟨50, 12, [[.sc (.int .i64 p0.id), .sc (.bool p0.reply), .sc (.bool p0.auth), .sc (.bool p0.cut), .sc (.bool p0.want), .sc (.bool p0.can), .sc (.int .i64 p0.code), .sc (.string p0.q.name), .sc (.int .i64 p0.q.ty), .lst 6 (List.map recV p0.an), .lst 6 (List.map recV p0.au), .lst 6 (List.map recV p0.ad)]], false, true⟩, some (2, 0))] [] ⟨⟨rfl, _, rfl, rfl, rfl, rfl, id, rowsCv_one (.cons (.free rfl) (.cons (.free rfl) (.cons (.free rfl) (.cons (.free rfl) (.cons (.free rfl) (.cons (.free rfl) (.cons (.free rfl) (.cons (.free rfl) (.cons (.free rfl) (.cons (.free rfl) (.cons (.free rfl) (.cons (.free rfl) .nil)))))))))))), rowsZ_one rfl⟩, trivial⟩ trivial rfl rfl ?_
    exact ⟨(.ptr rfl), (.free rfl), (.free rfl), (.free rfl), trivial⟩
 ·rintro ⟨j0_0, h⟩
  replace h : s_ClassOf_j0 p0 x2 x5 j0_0 = some r0 := h
  unfold s_ClassOf_j0 at h
  show Tri _ _ _ (inv_s_ClassOf_0 p0 x2 x5 j0_0)
  refine tri_cond rfl (fun c7 => ?_) (fun c7 => ?_)
  ·replace h := cond_t h c7
   refine tri_sr ?_
   refine s_mv (.inr rfl) (v := .sc (.int .i64 0)) rfl rfl rfl rfl ?_
   refine rt_nil ?_
   refine tri_ret ?_
   have e0 := (some1 h); subst e0
   exact endY [] [] (rvC (resTmp rfl) rvN) trivial trivial rfl rfl rfl rfl (.free rfl)
  ·replace h := cond_f h c7
   refine tri_cutI (ι := { p : Bool // s_ClassOf_j1 p0 x2 x5 p = some r0 }) (fun p => inv_s_ClassOf_1 p0 x2 x5 p.1) ?_ ?_
   ·skip
    refine tri_region ?_
    refine s_fieldAddr rfl rfl fd50_2 rfl rfl rfl rfl ?_
    refine s_load rfl rfl rfl rfl ty4 rfl (.inr rfl) (by conv => lhs; whnf) rfl rfl rfl ?_
    refine m1 ?_
    refine s_split (t := 36) rfl (fun b8 => ?_) (fun b8 => ?_)
    ·replace h := cond_t h b8
     refine s_fieldAddr rfl rfl fd50_6 rfl rfl rfl rfl ?_
     refine s_load rfl rfl rfl rfl ty3 rfl (.inr rfl) (by conv => lhs; whnf) rfl rfl rfl ?_
     refine s_of (st_eqI rfl rfl rfl) rfl rfl rfl rfl ?_
     refine s_pickT rfl rfl (by conv => lhs; whnf) rfl rfl rfl ?_
     refine m1 ?_
     refine s_split (t := 41) rfl (fun b9 => ?_) (fun b9 => ?_)
     ·replace h := cond_t h b9
      refine s_loadR rfl rfl rfl rfl ty50 rfl rfl rfl ?_
      refine bnd1_elim h fun x10 q11 h => ?_
      refine s_callN (kb := []) (ns := []) (v := .ref (43, 0) 0 x10.length) rfl rfl cl82 (ws_SetIn p0 x10 q11) rfl (.cons (relAgg rfl) .nil) trivial memNil .nil memNil rfl ⟨(allSc_map recV_sc), trivial⟩ memNil rfl (by simp only [V.mat, V.mat1, V.mat0, matL, matT, List.length_map] <;> rfl) rfl rfl rfl rfl ?_
      refine s_len (m := x10.length) rfl sl24 rfl rfl rfl rfl ?_
      refine s_of (st_gtr rfl rfl rfl) rfl rfl rfl rfl ?_
      refine s_pickT rfl rfl (by conv => lhs; whnf) rfl rfl rfl ?_
      refine m2 ?_
      refine rt_nil ?_
      refine Exists.intro ⟨decide (0 < (x10.length : Int)), h⟩ ?_
      refine entX [((2, 0), ⟨50, 12, [[.sc (.int .i64 p0.id), .sc (.bool p0.reply), .sc (.bool p0.auth), .sc (.bool p0.cut), .sc (.bool p0.want), .sc (.bool p0.can), .sc (.int .i64 p0.code), .sc (.string p0.q.name), .sc (.int .i64 p0.q.ty), .lst 6 (List.map recV p0.an), .lst 6 (List.map recV p0.au), .lst 6 (List.map recV p0.ad)]], false, true⟩, some (2, 0))] [] ⟨⟨rfl, _, rfl, rfl, rfl, rfl, id, rowsCv_one (.cons (.free rfl) (.cons (.free rfl) (.cons (.free rfl) (.cons (.free rfl) (.cons (.free rfl) (.cons (.free rfl) (.cons (.free rfl) (.cons (.free rfl) (.cons (.free rfl) (.cons (.free rfl) (.cons (.free rfl) (.cons (.free rfl) .nil)))))))))))), rowsZ_one rfl⟩, trivial⟩ trivial rfl rfl ?_
      exact ⟨(.ptr rfl), (.free rfl), (.free rfl), (.free rfl), trivial⟩
     ·replace h := cond_f h b9
      refine s_skip rfl rfl rfl ?_
      refine s_skip rfl rfl rfl ?_
      refine s_skip rfl rfl rfl ?_
      refine s_skip rfl rfl rfl ?_
      refine s_pickF rfl rfl (v := .sc (.bool false)) rfl rfl rfl rfl ?_
      refine m2 ?_
      refine rt_nil ?_
      refine Exists.intro ⟨false, h⟩ ?_
      refine entX [((2, 0), ⟨50, 12, [[.sc (.int .i64 p0.id), .sc (.bool p0.reply), .sc (.bool p0.auth), .sc (.bool p0.cut), .sc (.bool p0.want), .sc (.bool p0.can), .sc (.int .i64 p0.code), .sc (.string p0.q.name), .sc (.int .i64 p0.q.ty), .lst 6 (List.map recV p0.an), .lst 6 (List.map recV p0.au), .lst 6 (List.map recV p0.ad)]], false, true⟩, some (2, 0))] [] ⟨⟨rfl, _, rfl, rfl, rfl, rfl, id, rowsCv_one (.cons (.free rfl) (.cons (.free rfl) (.cons (.free rfl) (.cons (.free rfl) (.cons (.free rfl) (.cons (.free rfl) (.cons (.free rfl) (.cons (.free rfl) (.cons (.free rfl) (.cons (.free rfl) (.cons (.free rfl) (.cons (.free rfl) .nil)))))))))))), rowsZ_one rfl⟩, trivial⟩ trivial rfl rfl ?_
      exact ⟨(.ptr rfl), (.free rfl), (.free rfl), (.free rfl), trivial⟩
    ·replace h := cond_f h b8
     refine s_skip rfl rfl rfl ?_
     refine s_skip rfl rfl rfl ?_
     refine s_skip rfl rfl rfl ?_
     refine s_pickF rfl rfl (v := .sc (.bool false)) rfl rfl rfl rfl ?_
     refine m1 ?_
     refine s_skip rfl rfl rfl ?_
     refine s_skip rfl rfl rfl ?_
     refine s_skip rfl rfl rfl ?_
     refine s_skip rfl rfl rfl ?_
     refine s_pickF rfl rfl (v := .sc (.bool false)) rfl rfl rfl rfl ?_
     refine m2 ?_
     refine rt_nil ?_
     refine Exists.intro ⟨false, h⟩ ?_
     refine entX [((2, 0), ⟨50, 12, [[.sc (.int .i64 p0.id), .sc (.bool p0.reply), .sc (.bool p0.auth), .sc (.bool p0.cut), .sc (.bool p0.want), .sc (.bool p0.can), .sc (.int .i64 p0.code), .sc (.string p0.q.name), .sc (.int .i64 p0.q.ty), .lst 6 (List.map recV p0.an), .lst 6 (List.map recV p0.au), .lst 6 (List.map recV p0.ad)]], false, true⟩, some (2, 0))] [] ⟨⟨rfl, _, rfl, rfl, rfl, rfl, id, rowsCv_one (.cons (.free rfl) (.cons (.free rfl) (.cons (.free rfl) (.cons (.free rfl) (.cons (.free rfl) (.cons (.free rfl) (.cons (.free rfl) (.cons (.free rfl) (.cons (.free rfl) (.cons (.free rfl) (.cons (.free rfl) (.cons (.free rfl) .nil)))))))))))), rowsZ_one rfl⟩, trivial⟩ trivial rfl rfl ?_
     exact ⟨(.ptr rfl), (.free rfl), (.free rfl), (.free rfl), trivial⟩
   ·rintro ⟨j1_0, h⟩
    replace h : s_ClassOf_j1 p0 x2 x5 j1_0 = some r0 := h
    unfold s_ClassOf_j1 at h
    show Tri _ _ _ (inv_s_ClassOf_1 p0 x2 x5 j1_0)
    refine tri_cond rfl (fun c8 => ?_) (fun c8 => ?_)
    ·replace h := cond_t h c8
     refine tri_sr ?_
     refine s_mv (.inr rfl) (v := .sc (.int .i64 3)) rfl rfl rfl rfl ?_
     refine rt_nil ?_
     refine tri_ret ?_
     have e0 := (some1 h); subst e0
     exact endY [] [] (rvC (resTmp rfl) rvN) trivial trivial rfl rfl rfl rfl (.free rfl)
    ·replace h := cond_f h c8
     refine tri_cutI (ι := { p : Bool // s_ClassOf_j2 p0 x5 p = some r0 }) (fun p => inv_s_ClassOf_2 p0 x5 p.1) ?_ ?_
     ·skip
      refine tri_region ?_
      refine s_fieldAddr rfl rfl fd50_2 rfl rfl rfl rfl ?_
      refine s_load rfl rfl rfl rfl ty4 rfl (.inr rfl) (by conv => lhs; whnf) rfl rfl rfl ?_
      refine m1 ?_
      refine s_split (t := 50) rfl (fun b9 => ?_) (fun b9 => ?_)
      ·replace h := cond_t h b9
       refine m1 ?_
       refine s_pickT rfl rfl (by conv => lhs; whnf) rfl rfl rfl ?_
       refine m1 ?_
       refine s_split (t := 53) rfl (fun b10 => ?_) (fun b10 => ?_)
       ·replace h := cond_t h b10
        refine s_fieldAddr rfl rfl fd50_7 rfl rfl rfl rfl ?_
        refine s_fieldAddr rfl rfl fd28_1 rfl rfl rfl rfl ?_
        refine s_load rfl rfl rfl rfl ty3 rfl (.inr rfl) (by conv => lhs; whnf) rfl rfl rfl ?_
        refine s_of (st_neI rfl rfl rfl) rfl rfl rfl rfl ?_
        refine s_pickT rfl rfl (by conv => lhs; whnf) rfl rfl rfl ?_
        refine m2 ?_
        refine rt_nil ?_
        refine Exists.intro ⟨!decide (p0.q.ty = 5), h⟩ ?_
        refine entX [((2, 0), ⟨50, 12, [[.sc (.int .i64 p0.id), .sc (.bool p0.reply), .sc (.bool p0.auth), .sc (.bool p0.cut), .sc (.bool p0.want), .sc (.bool p0.can), .sc (.int .i64 p0.code), .sc (.string p0.q.name), .sc (.int .i64 p0.q.ty), .lst 6 (List.map recV p0.an), .lst 6 (List.map recV p0.au), .lst 6 (List.map recV p0.ad)]], false, true⟩, some (2, 0))] [] ⟨⟨rfl, _, rfl, rfl, rfl, rfl, id, rowsCv_one (.cons (.free rfl) (.cons (.free rfl) (.cons (.free rfl) (.cons (.free rfl) (.cons (.free rfl) (.cons (.free rfl) (.cons (.free rfl) (.cons (.free rfl) (.cons (.free rfl) (.cons (.free rfl) (.cons (.free rfl) (.cons (.free rfl) .nil)))))))))))), rowsZ_one rfl⟩, trivial⟩ trivial rfl rfl ?_
        exact ⟨(.ptr rfl), (.free rfl), (.free rfl), trivial⟩
       ·replace h := cond_f h b10
        refine s_skip rfl rfl rfl ?_
        refine s_skip rfl rfl rfl ?_
        refine s_skip rfl rfl rfl ?_
        refine s_skip rfl rfl rfl ?_
        refine s_pickF rfl rfl (v := .sc (.bool false)) rfl rfl rfl rfl ?_
        refine m2 ?_
        refine rt_nil ?_
        refine Exists.intro ⟨false, h⟩ ?_
        refine entX [((2, 0), ⟨50, 12, [[.sc (.int .i64 p0.id), .sc (.bool p0.reply), .sc (.bool p0.auth), .sc (.bool p0.cut), .sc (.bool p0.want), .sc (.bool p0.can), .sc (.int .i64 p0.code), .sc (.string p0.q.name), .sc (.int .i64 p0.q.ty), .lst 6 (List.map recV p0.an), .lst 6 (List.map recV p0.au), .lst 6 (List.map recV p0.ad)]], false, true⟩, some (2, 0))] [] ⟨⟨rfl, _, rfl, rfl, rfl, rfl, id, rowsCv_one (.cons (.free rfl) (.cons (.free rfl) (.cons (.free rfl) (.cons (.free rfl) (.cons (.free rfl) (.cons (.free rfl) (.cons (.free rfl) (.cons (.free rfl) (.cons (.free rfl) (.cons (.free rfl) (.cons (.free rfl) (.cons (.free rfl) .nil)))))))))))), rowsZ_one rfl⟩, trivial⟩ trivial rfl rfl ?_
        exact ⟨(.ptr rfl), (.free rfl), (.free rfl), trivial⟩
      ·replace h := cond_f h b9
       refine s_skip rfl rfl rfl ?_
       refine s_pickF rfl rfl (v := .sc (.bool false)) rfl rfl rfl rfl ?_
       refine m1 ?_
       refine s_skip rfl rfl rfl ?_
       refine s_skip rfl rfl rfl ?_
       refine s_skip rfl rfl rfl ?_
       refine s_skip rfl rfl rfl ?_
       refine s_pickF rfl rfl (v := .sc (.bool false)) rfl rfl rfl rfl ?_
       refine m2 ?_
       refine rt_nil ?_
       refine Exists.intro ⟨false, h⟩ ?_
       refine entX [((2, 0), ⟨50, 12, [[.sc (.int .i64 p0.id), .sc (.bool p0.reply), .sc (.bool p0.auth), .sc (.bool p0.cut), .sc (.bool p0.want), .sc (.bool p0.can), .sc (.int .i64 p0.code), .sc (.string p0.q.name), .sc (.int .i64 p0.q.ty), .lst 6 (List.map recV p0.an), .lst 6 (List.map recV p0.au), .lst 6 (List.map recV p0.ad)]], false, true⟩, some (2, 0))] [] ⟨⟨rfl, _, rfl, rfl, rfl, rfl, id, rowsCv_one (.cons (.free rfl) (.cons (.free rfl) (.cons (.free rfl) (.cons (.free rfl) (.cons (.free rfl) (.cons (.free rfl) (.cons (.free rfl) (.cons (.free rfl) (.cons (.free rfl) (.cons (.free rfl) (.cons (.free rfl) (.cons (.free rfl) .nil)))))))))))), rowsZ_one rfl⟩, trivial⟩ trivial rfl rfl ?_
       exact ⟨(.ptr rfl), (.free rfl), (.free rfl), trivial⟩
     ·rintro ⟨j2_0, h⟩
      replace h : s_ClassOf_j2 p0 x5 j2_0 = some r0 := h
      unfold s_ClassOf_j2 at h
      show Tri _ _ _ (inv_s_ClassOf_2 p0 x5 j2_0)
      refine tri_cond rfl (fun c9 => ?_) (fun c9 => ?_)
      ·replace h := cond_t h c9
       refine tri_sr ?_
       refine s_mv (.inr rfl) (v := .sc (.int .i64 2)) rfl rfl rfl rfl ?_
       refine rt_nil ?_
       refine tri_ret ?_
       have e0 := (some1 h); subst e0
       exact endY [] [] (rvC (resTmp rfl) rvN) trivial trivial rfl rfl rfl rfl (.free rfl)
      ·replace h := cond_f h c9
       refine tri_cutI (ι := { p : Bool // s_ClassOf_j3 p0 x5 p = some r0 }) (fun p => inv_s_ClassOf_3 p0 x5 p.1) ?_ ?_
       ·skip
        refine tri_region ?_
        refine s_fieldAddr rfl rfl fd50_2 rfl rfl rfl rfl ?_
        refine s_load rfl rfl rfl rfl ty4 rfl (.inr rfl) (by conv => lhs; whnf) rfl rfl rfl ?_
        refine m1 ?_
        refine s_split (t := 62) rfl (fun b10 => ?_) (fun b10 => ?_)
        ·replace h := cond_t h b10
         refine s_fieldAddr rfl rfl fd50_6 rfl rfl rfl rfl ?_
         refine s_load rfl rfl rfl rfl ty3 rfl (.inr rfl) (by conv => lhs; whnf) rfl rfl rfl ?_
         refine s_of (st_eqI rfl rfl rfl) rfl rfl rfl rfl ?_
         refine s_pickT rfl rfl (by conv => lhs; whnf) rfl rfl rfl ?_
         refine m2 ?_
         refine rt_nil ?_
         refine Exists.intro ⟨decide (p0.code = 3), h⟩ ?_
         refine entX [((2, 0), ⟨50, 12, [[.sc (.int .i64 p0.id), .sc (.bool p0.reply), .sc (.bool p0.auth), .sc (.bool p0.cut), .sc (.bool p0.want), .sc (.bool p0.can), .sc (.int .i64 p0.code), .sc (.string p0.q.name), .sc (.int .i64 p0.q.ty), .lst 6 (List.map recV p0.an), .lst 6 (List.map recV p0.au), .lst 6 (List.map recV p0.ad)]], false, true⟩, some (2, 0))] [] ⟨⟨rfl, _, rfl, rfl, rfl, rfl, id, rowsCv_one (.cons (.free rfl) (.cons (.free rfl) (.cons (.free rfl) (.cons (.free rfl) (.cons (.free rfl) (.cons (.free rfl) (.cons (.free rfl) (.cons (.free rfl) (.cons (.free rfl) (.cons (.free rfl) (.cons (.free rfl) (.cons (.free rfl) .nil)))))))))))), rowsZ_one rfl⟩, trivial⟩ trivial rfl rfl ?_
         exact ⟨(.ptr rfl), (.free rfl), (.free rfl), trivial⟩
        ·replace h := cond_f h b10
         refine s_skip rfl rfl rfl ?_
         refine s_skip rfl rfl rfl ?_
         refine s_skip rfl rfl rfl ?_
         refine s_pickF rfl rfl (v := .sc (.bool false)) rfl rfl rfl rfl ?_
         refine m2 ?_
         refine rt_nil ?_
         refine Exists.intro ⟨false, h⟩ ?_
         refine entX [((2, 0), ⟨50, 12, [[.sc (.int .i64 p0.id), .sc (.bool p0.reply), .sc (.bool p0.auth), .sc (.bool p0.cut), .sc (.bool p0.want), .sc (.bool p0.can), .sc (.int .i64 p0.code), .sc (.string p0.q.name), .sc (.int .i64 p0.q.ty), .lst 6 (List.map recV p0.an), .lst 6 (List.map recV p0.au), .lst 6 (List.map recV p0.ad)]], false, true⟩, some (2, 0))] [] ⟨⟨rfl, _, rfl, rfl, rfl, rfl, id, rowsCv_one (.cons (.free rfl) (.cons (.free rfl) (.cons (.free rfl) (.cons (.free rfl) (.cons (.free rfl) (.cons (.free rfl) (.cons (.free rfl) (.cons (.free rfl) (.cons (.free rfl) (.cons (.free rfl) (.cons (.free rfl) (.cons (.free rfl) .nil)))))))))))), rowsZ_one rfl⟩, trivial⟩ trivial rfl rfl ?_
         exact ⟨(.ptr rfl), (.free rfl), (.free rfl), trivial⟩
       ·rintro ⟨j3_0, h⟩
        replace h : s_ClassOf_j3 p0 x5 j3_0 = some r0 := h
        unfold s_ClassOf_j3 at h
        show Tri _ _ _ (inv_s_ClassOf_3 p0 x5 j3_0)
        refine tri_cond rfl (fun c10 => ?_) (fun c10 => ?_)
        ·replace h := cond_t h c10
         refine tri_sr ?_
         refine s_mv (.inr rfl) (v := .sc (.int .i64 5)) rfl rfl rfl rfl ?_
         refine rt_nil ?_
         refine tri_ret ?_
         have e0 := (some1 h); subst e0
         exact endY [] [] (rvC (resTmp rfl) rvN) trivial trivial rfl rfl rfl rfl (.free rfl)
        ·replace h := cond_f h c10
         refine tri_cutI (ι := { p : Bool // s_ClassOf_j4 p0 x5 p = some r0 }) (fun p => inv_s_ClassOf_4 p0 x5 p.1) ?_ ?_
         ·skip
          refine tri_region ?_
          refine s_fieldAddr rfl rfl fd50_2 rfl rfl rfl rfl ?_
          refine s_load rfl rfl rfl rfl ty4 rfl (.inr rfl) (by conv => lhs; whnf) rfl rfl rfl ?_
          refine m1 ?_
          refine s_split (t := 70) rfl (fun b11 => ?_) (fun b11 => ?_)
          ·replace h := cond_t h b11
           refine s_fieldAddr rfl rfl fd50_8 rfl rfl rfl rfl ?_
           refine s_load rfl rfl rfl rfl ty24 rfl (.inr rfl) (by conv => lhs; whnf) rfl rfl rfl ?_
           refine s_lenL rfl sl24 rfl rfl rfl rfl ?_
           refine s_of (st_eqI rfl rfl rfl) rfl rfl rfl rfl ?_
           refine s_pickT rfl rfl (by conv => lhs; whnf) rfl rfl rfl ?_
           refine m2 ?_
           refine rt_nil ?_
           refine Exists.intro ⟨decide ((p0.an.length : Int) = 0), h⟩ ?_
           refine entX [((2, 0), ⟨50, 12, [[.sc (.int .i64 p0.id), .sc (.bool p0.reply), .sc (.bool p0.auth), .sc (.bool p0.cut), .sc (.bool p0.want), .sc (.bool p0.can), .sc (.int .i64 p0.code), .sc (.string p0.q.name), .sc (.int .i64 p0.q.ty), .lst 6 (List.map recV p0.an), .lst 6 (List.map recV p0.au), .lst 6 (List.map recV p0.ad)]], false, true⟩, some (2, 0))] [] ⟨⟨rfl, _, rfl, rfl, rfl, rfl, id, rowsCv_one (.cons (.free rfl) (.cons (.free rfl) (.cons (.free rfl) (.cons (.free rfl) (.cons (.free rfl) (.cons (.free rfl) (.cons (.free rfl) (.cons (.free rfl) (.cons (.free rfl) (.cons (.free rfl) (.cons (.free rfl) (.cons (.free rfl) .nil)))))))))))), rowsZ_one rfl⟩, trivial⟩ trivial rfl rfl ?_
           exact ⟨(.ptr rfl), (.free rfl), (.free rfl), trivial⟩
          ·replace h := cond_f h b11
           refine s_skip rfl rfl rfl ?_
           refine s_skip rfl rfl rfl ?_
           refine s_skip rfl rfl rfl ?_
           refine s_skip rfl rfl rfl ?_
           refine s_pickF rfl rfl (v := .sc (.bool false)) rfl rfl rfl rfl ?_
           refine m2 ?_
           refine rt_nil ?_
           refine Exists.intro ⟨false, h⟩ ?_
           refine entX [((2, 0), ⟨50, 12, [[.sc (.int .i64 p0.id), .sc (.bool p0.reply), .sc (.bool p0.auth), .sc (.bool p0.cut), .sc (.bool p0.want), .sc (.bool p0.can), .sc (.int .i64 p0.code), .sc (.string p0.q.name), .sc (.int .i64 p0.q.ty), .lst 6 (List.map recV p0.an), .lst 6 (List.map recV p0.au), .lst 6 (List.map recV p0.ad)]], false, true⟩, some (2, 0))] [] ⟨⟨rfl, _, rfl, rfl, rfl, rfl, id, rowsCv_one (.cons (.free rfl) (.cons (.free rfl) (.cons (.free rfl) (.cons (.free rfl) (.cons (.free rfl) (.cons (.free rfl) (.cons (.free rfl) (.cons (.free rfl) (.cons (.free rfl) (.cons (.free rfl) (.cons (.free rfl) (.cons (.free rfl) .nil)))))))))))), rowsZ_one rfl⟩, trivial⟩ trivial rfl rfl ?_
           exact ⟨(.ptr rfl), (.free rfl), (.free rfl), trivial⟩
         ·rintro ⟨j4_0, h⟩
          replace h : s_ClassOf_j4 p0 x5 j4_0 = some r0 := h
          unfold s_ClassOf_j4 at h
          show Tri _ _ _ (inv_s_ClassOf_4 p0 x5 j4_0)
          refine tri_cond rfl (fun c11 => ?_) (fun c11 => ?_)
          ·replace h := cond_t h c11
           refine tri_sr ?_
           refine s_mv (.inr rfl) (v := .sc (.int .i64 4)) rfl rfl rfl rfl ?_
           refine rt_nil ?_
           refine tri_ret ?_
           have e0 := (some1 h); subst e0
           exact endY [] [] (rvC (resTmp rfl) rvN) trivial trivial rfl rfl rfl rfl (.free rfl)
          ·replace h := cond_f h c11
           refine tri_cutI (ι := { p : Bool // s_ClassOf_j5 p = some r0 }) (fun p => inv_s_ClassOf_5 p.1) ?_ ?_
           ·skip
            refine tri_region ?_
            refine s_fieldAddr rfl rfl fd50_2 rfl rfl rfl rfl ?_
            refine s_load rfl rfl rfl rfl ty4 rfl (.inr rfl) (by conv => lhs; whnf) rfl rfl rfl ?_
            refine s_of (st_not rfl rfl) rfl rfl rfl rfl ?_
            refine m1 ?_
            refine s_split (t := 80) rfl (fun b12 => ?_) (fun b12 => ?_)
            ·replace h := cond_t h b12
             refine s_fieldAddr rfl rfl fd50_6 rfl rfl rfl rfl ?_
             refine s_load rfl rfl rfl rfl ty3 rfl (.inr rfl) (by conv => lhs; whnf) rfl rfl rfl ?_
             refine s_of (st_eqI rfl rfl rfl) rfl rfl rfl rfl ?_
             refine s_pickT rfl rfl (by conv => lhs; whnf) rfl rfl rfl ?_
             refine m1 ?_
             refine s_split (t := 85) rfl (fun b13 => ?_) (fun b13 => ?_)
             ·replace h := cond_t h b13
              refine s_fieldAddr rfl rfl fd50_8 rfl rfl rfl rfl ?_
              refine s_load rfl rfl rfl rfl ty24 rfl (.inr rfl) (by conv => lhs; whnf) rfl rfl rfl ?_
              refine s_lenL rfl sl24 rfl rfl rfl rfl ?_
              refine s_of (st_eqI rfl rfl rfl) rfl rfl rfl rfl ?_
              refine s_pickT rfl rfl (by conv => lhs; whnf) rfl rfl rfl ?_
              refine m1 ?_
              refine s_split (t := 91) rfl (fun b14 => ?_) (fun b14 => ?_)
              ·replace h := cond_t h b14
               refine m1 ?_
               refine s_pickT rfl rfl (by conv => lhs; whnf) rfl rfl rfl ?_
               refine m2 ?_
               refine rt_nil ?_
               refine Exists.intro ⟨x5, h⟩ ?_
               refine entX [] [] trivial trivial rfl rfl ?_
               exact ⟨(.free rfl), trivial⟩
              ·replace h := cond_f h b14
               refine s_skip rfl rfl rfl ?_
               refine s_pickF rfl rfl (v := .sc (.bool false)) rfl rfl rfl rfl ?_
               refine m2 ?_
               refine rt_nil ?_
               refine Exists.intro ⟨false, h⟩ ?_
               refine entX [] [] trivial trivial rfl rfl ?_
               exact ⟨(.free rfl), trivial⟩
             ·replace h := cond_f h b13
              refine s_skip rfl rfl rfl ?_
              refine s_skip rfl rfl rfl ?_
              refine s_skip rfl rfl rfl ?_
              refine s_skip rfl rfl rfl ?_
              refine s_pickF rfl rfl (v := .sc (.bool false)) rfl rfl rfl rfl ?_
              refine m1 ?_
              refine s_skip rfl rfl rfl ?_
              refine s_pickF rfl rfl (v := .sc (.bool false)) rfl rfl rfl rfl ?_
              refine m2 ?_
              refine rt_nil ?_
              refine Exists.intro ⟨false, h⟩ ?_
              refine entX [] [] trivial trivial rfl rfl ?_
              exact ⟨(.free rfl), trivial⟩
            ·replace h := cond_f h b12
             refine s_skip rfl rfl rfl ?_
             refine s_skip rfl rfl rfl ?_
             refine s_skip rfl rfl rfl ?_
             refine s_pickF rfl rfl (v := .sc (.bool false)) rfl rfl rfl rfl ?_
             refine m1 ?_
             refine s_skip rfl rfl rfl ?_
             refine s_skip rfl rfl rfl ?_
             refine s_skip rfl rfl rfl ?_
             refine s_skip rfl rfl rfl ?_
             refine s_pickF rfl rfl (v := .sc (.bool false)) rfl rfl rfl rfl ?_
             refine m1 ?_
             refine s_skip rfl rfl rfl ?_
             refine s_pickF rfl rfl (v := .sc (.bool false)) rfl rfl rfl rfl ?_
             refine m2 ?_
             refine rt_nil ?_
             refine Exists.intro ⟨false, h⟩ ?_
             refine entX [] [] trivial trivial rfl rfl ?_
             exact ⟨(.free rfl), trivial⟩
           ·rintro ⟨j5_0, h⟩
            replace h : s_ClassOf_j5 j5_0 = some r0 := h
            unfold s_ClassOf_j5 at h
            show Tri _ _ _ (inv_s_ClassOf_5 j5_0)
            refine tri_cond rfl (fun c12 => ?_) (fun c12 => ?_)
            ·replace h := cond_t h c12
             refine tri_sr ?_
             refine s_mv (.inr rfl) (v := .sc (.int .i64 1)) rfl rfl rfl rfl ?_
             refine rt_nil ?_
             refine tri_ret ?_
             have e0 := (some1 h); subst e0
             exact endY [] [] (rvC (resTmp rfl) rvN) trivial trivial rfl rfl rfl rfl (.free rfl)
            ·replace h := cond_f h c12
             refine tri_skip ?_
             refine tri_sr ?_
             refine s_mv (.inr rfl) (v := .sc (.int .i64 0)) rfl rfl rfl rfl ?_
             refine rt_nil ?_
             refine tri_ret ?_
             have e0 := (some1 h); subst e0
             exact endY [] [] (rvC (resTmp rfl) rvN) trivial trivial rfl rfl rfl rfl (.free rfl)

/- laws.sameRecs -/
def inv_w_sameRecs_0 (p0 : List Rec) (p1 : List Rec) (v0_0 : Nat) : St := mkT 26 [(0, .lst 6 (List.map recV p0)), (1, .lst 6 (List.map recV p1)), (5, .sc (.int .i64 (v0_0 : Int)))] []
set_option maxRecDepth 4000 in
set_option maxHeartbeats 800000 in
theorem ww_sameRecs (p0 : List Rec) (p1 : List Rec) (r0 : Bool) (h : w_sameRecs p0 p1 = some r0) : Runs Tryd.prog 56 [.lst 6 (List.map recV p0), .lst 6 (List.map recV p1)] [] (.sc (.bool r0)) [] := by
 unfold w_sameRecs at h
 refine runsR [.tmp 4] Tryd.func56 rfl rfl rfl rfl ?_
 rw [Tryd.ntmps56]
 refine tri_sr ?_
 refine s_mv (.inr rfl) (v := .sc (.bool false)) rfl rfl rfl rfl ?_
 refine rt_nil ?_
 refine tri_seq ?_
 refine tri_sr ?_
 refine m1 ?_
 refine s_lenL rfl sl24 rfl rfl rfl rfl ?_
 refine m1 ?_
 refine s_lenL rfl sl24 rfl rfl rfl rfl ?_
 refine s_of (st_neI rfl rfl rfl) rfl rfl rfl rfl ?_
 refine rt_nil ?_
 refine tri_cond rfl (fun c1 => ?_) (fun c1 => ?_)
 ·replace h := cond_t h c1
  refine tri_sr ?_
  refine s_mv (.inr rfl) (v := .sc (.bool false)) rfl rfl rfl rfl ?_
  refine rt_nil ?_
  refine tri_ret ?_
  have e0 := (some1 h); subst e0
  exact endY [] [] (rvC (resTmp rfl) rvN) trivial trivial rfl rfl rfl rfl (.free rfl)
 ·replace h := cond_f h c1
  refine tri_skip ?_
  refine tri_seq ?_
  refine tri_sr ?_
  refine s_mv (.inr rfl) (v := .sc (.int .i64 0)) rfl rfl rfl rfl ?_
  refine rt_nil ?_
  refine tri_block ?_
  refine tri_lstM 0 rfl (fun hl0 => ?_)
  refine tri_loop (ι := { p : (List Rec) × Nat // p0.drop p.2 = p.1 ∧ w_sameRecs_l0 p1 p.1 p.2 = some r0 }) (fun p => inv_w_sameRecs_0 p0 p1 p.1.2) (fun p => p.1.1.length) ⟨(p0, 0), rfl, h⟩ ?_ ?_
  ·skip
   refine entX [] [] trivial trivial rfl rfl ?_
   exact ⟨(.free rfl), (.free rfl), (.free rfl), trivial⟩
  ·rintro ⟨⟨lrs0, v0_0⟩, hd0, h⟩
   replace hd0 : p0.drop v0_0 = lrs0 := hd0
   replace h : w_sameRecs_l0 p1 lrs0 v0_0 = some r0 := h
   show Tri _ _ _ (inv_w_sameRecs_0 p0 p1 v0_0)
   refine tri_seq ?_
   refine tri_sr ?_
   refine m1 ?_
   refine m1 ?_
   refine s_lenL rfl sl24 rfl rfl rfl rfl ?_
   refine s_of (st_lss rfl rfl rfl) rfl rfl rfl rfl ?_
   refine rt_nil ?_
   refine tri_cond rfl (fun c2 => ?_) (fun c2 => ?_)
   ·refine drop_elim hd0 c2 fun e0 rs0 he hx0 hn0 => ?_
    subst he
    rw [w_sameRecs_l0] at h
    refine tri_skip ?_
    refine tri_seq ?_
    refine tri_block ?_
    refine tri_seq ?_
    refine tri_draw mixed ?_
    refine m1 ?_
    refine m1 ?_
    refine s_indexF (i := v0_0) rfl rfl rfl sl24 (get_ltM hx0) rfl rfl rfl ?_
    refine s_loadFR rfl rfl (rowG hx0) ty39 rfl rfl rfl ?_
    refine m1 ?_
    refine m1 ?_
    refine bnd1_elim h fun x3 q4 h => ?_
    have q4a := (idx_some q4).1; have q4b := (idx_some q4).2
    refine s_indexFZ rfl rfl rfl sl24 q4a (get_ltM q4b) rfl rfl rfl ?_
    refine s_loadFR rfl rfl (rowG q4b) ty39 rfl rfl rfl ?_
    refine s_neStruct (r' := (decide (e0.name = x3.name) && (decide (e0.ty = x3.ty) && (decide (e0.ttl = x3.ttl) && (decide (e0.n = x3.n) && (decide (e0.host = x3.host) && (decide (e0.text = x3.text) && true))))))) rfl rfl rfl fk39 rfl rfl rfl rfl rfl ?_
    refine rt_nil ⟨by kernel_rfl, ?_⟩
    refine tri_cond rfl (fun c5 => ?_) (fun c5 => ?_)
    ·replace h := cond_t h c5
     refine tri_sr ?_
     refine s_mv (.inr rfl) (v := .sc (.bool false)) rfl rfl rfl rfl ?_
     refine rt_nil ?_
     refine tri_ret ?_
     have e0 := (some1 h); subst e0
     exact endY [] [] (rvC (resTmp rfl) rvN) trivial trivial rfl rfl rfl rfl (.free rfl)
    ·replace h := cond_f h c5
     refine tri_skip ?_
     refine tri_region ?_
     refine m1 ?_
     refine s_inc (a := v0_0) (b := 1) rfl rfl rfl rfl (by have := get_lt hx0; have := hl0; omega) rfl rfl rfl ?_
     refine m2 ?_
     refine rt_nil ?_
     refine Exists.intro ⟨(rs0, (v0_0 + 1)), hn0, h⟩ (And.intro (Nat.lt_succ_self _) ?_)
     refine entX [] [] trivial trivial rfl rfl ?_
     exact ⟨(.free rfl), (.free rfl), (.free rfl), trivial⟩
   ·have he := drop_f hd0 c2; subst he
    rw [w_sameRecs_l0] at h
    refine tri_exit ?_
    refine tri_sr ?_
    refine s_mv (.inr rfl) (v := .sc (.bool true)) rfl rfl rfl rfl ?_
    refine rt_nil ?_
    refine tri_ret ?_
    have e0 := (some1 h); subst e0
    exact endY [] [] (rvC (resTmp rfl) rvN) trivial trivial rfl rfl rfl rfl (.free rfl)

/- impl.ServersIn -/

set_option maxRecDepth 4000 in
set_option maxHeartbeats 800000 in
theorem wi_ServersIn (p0 : MMsg) (p1 : ByteArray) (r0 : List Rec) (h : i_ServersIn p0 p1 = some r0) : Runs Tryd.prog 29 [.agg (mMsgV p0), .sc (.string p1)] [] (.own 39 6 (List.map recV r0)) [] := by
 unfold i_ServersIn at h
 refine runsR [.tmp 4] Tryd.func29 rfl rfl rfl rfl ?_
 rw [Tryd.ntmps29]
 refine tri_sr ?_
 refine s_box rfl rfl rfl rfl rfl rfl rfl ?_
 refine s_mv (.inr rfl) (v := .nils) rfl rfl rfl rfl ?_
 refine rt_nil ?_
 refine tri_sr ?_
 refine s_loadR rfl rfl rfl rfl ty50 rfl rfl rfl ?_
 refine m1 ?_
 refine bnd2_elim h fun x1 x2 q3 h => ?_
 refine s_callN (kb := []) (ns := []) (v := .tup [.sc (.string x1), .sc (.bool x2)]) rfl rfl cl28 (wi_DownIn p0 p1 x1 x2 q3) rfl (.cons (relAgg rfl) (.cons (.free rfl) .nil)) trivial memNil .nil memNil rfl trivial memNil rfl rfl rfl rfl rfl rfl ?_
 refine m1 ?_
 refine s_extract rfl rfl rfl rfl rfl rfl ?_
 refine s_extract rfl rfl rfl rfl rfl rfl ?_
 refine m2 ?_
 refine m2 ?_
 refine rt_nil ?_
 refine tri_seq ?_
 refine tri_sr ?_
 refine m1 ?_
 refine s_of (st_not rfl rfl) rfl rfl rfl rfl ?_
 refine rt_nil ?_
 refine tri_cond rfl (fun c4 => ?_) (fun c4 => ?_)
 ·replace h := cond_t h c4
  refine tri_sr ?_
  refine s_mv (.inr rfl) (v := .nils) rfl rfl rfl rfl ?_
  refine rt_nil ?_
  refine tri_ret ?_
  have e0 := (some1 h); subst e0
  exact endY (v' := .ref (2000, 0) 0 (([] : List Rec).length)) [((2000, 0), ⟨39, 6, List.map recV ([] : List Rec), false, true⟩, none)] [] (rvC (resTmp rfl) rvN) ⟨rfl, trivial⟩ trivial rfl rfl (by kernel_rfl) (by simp only [V.mat, V.mat1, V.mat0, matL, matT, List.length_map] <;> rfl) (.nilRef rfl)
 ·replace h := cond_f h c4
  refine tri_skip ?_
  refine tri_sr ?_
  refine s_fieldAddr rfl rfl fd50_9 rfl rfl rfl rfl ?_
  refine s_load rfl rfl rfl rfl ty24 rfl (.inr rfl) (by conv => lhs; whnf) rfl rfl rfl ?_
  refine m1 ?_
  refine bnd1_elim h fun x5 q6 h => ?_
  refine s_callN (kb := []) (ns := []) (v := .ref (18, 0) 0 x5.length) rfl rfl cl21 (wi_SetOf p0.au x1 2 x5 q6) rfl (.cons (.free rfl) (.cons (.free rfl) (.cons (.free rfl) .nil))) trivial memNil .nil memNil rfl ⟨(allSc_map recV_sc), trivial⟩ memNil rfl (by simp only [V.mat, V.mat1, V.mat0, matL, matT, List.length_map] <;> rfl) rfl rfl rfl rfl ?_
  refine m2 ?_
  refine rt_nil ?_
  refine tri_ret ?_
  have e0 := (some1 h); subst e0
  exact endY (v' := .ref (2000, 0) 0 x5.length) [((2000, 0), ⟨39, 6, List.map recV x5, false, true⟩, some (18, 0))] [] (rvC (resTmp rfl) rvN) ⟨⟨rfl, _, rfl, rfl, rfl, rfl, id, rowsCv_eq rfl (allFree_map recV_free), rowsZ_map recV_len⟩, trivial⟩ trivial rfl rfl (by kernel_rfl) (by simp only [V.mat, V.mat1, V.mat0, matL, matT, List.length_map] <;> rfl) (.ref rfl)

/- spec.ServersIn -/

set_option maxRecDepth 4000 in
set_option maxHeartbeats 800000 in
theorem ws_ServersIn (p0 : MMsg) (p1 : ByteArray) (r0 : List Rec) (h : s_ServersIn p0 p1 = some r0) : Runs Tryd.prog 83 [.agg (mMsgV p0), .sc (.string p1)] [] (.own 39 6 (List.map recV r0)) [] := by
 unfold s_ServersIn at h
 refine runsR [.tmp 4] Tryd.func83 rfl rfl rfl rfl ?_
 rw [Tryd.ntmps83]
 refine tri_sr ?_
 refine s_box rfl rfl rfl rfl rfl rfl rfl ?_
 refine s_mv (.inr rfl) (v := .nils) rfl rfl rfl rfl ?_
 refine rt_nil ?_
 refine tri_sr ?_
 refine s_loadR rfl rfl rfl rfl ty50 rfl rfl rfl ?_
 refine m1 ?_
 refine bnd2_elim h fun x1 x2 q3 h => ?_
 refine s_callN (kb := []) (ns := []) (v := .tup [.sc (.string x1), .sc (.bool x2)]) rfl rfl cl79 (ws_DownIn p0 p1 x1 x2 q3) rfl (.cons (relAgg rfl) (.cons (.free rfl) .nil)) trivial memNil .nil memNil rfl trivial memNil rfl rfl rfl rfl rfl rfl ?_
 refine m1 ?_
 refine s_extract rfl rfl rfl rfl rfl rfl ?_
 refine s_extract rfl rfl rfl rfl rfl rfl ?_
 refine m2 ?_
 refine m2 ?_
 refine rt_nil ?_
 refine tri_seq ?_
 refine tri_sr ?_
 refine m1 ?_
 refine s_of (st_not rfl rfl) rfl rfl rfl rfl ?_
 refine rt_nil ?_
 refine tri_cond rfl (fun c4 => ?_) (fun c4 => ?_)
 ·replace h := cond_t h c4
  refine tri_sr ?_
  refine s_buildSlice (rows' := List.map recV ([] : List Rec)) rfl rfl rfl sl24 zc39 rfl rfl rfl rfl rfl rfl rfl rfl rfl ?_
  refine m2 ?_
  refine rt_nil ?_
  refine tri_ret ?_
  have e0 := (some1 h); subst e0
  exact endY (v' := .ref (2000, 0) 0 (([] : List Rec).length)) [((2000, 0), ⟨39, 6, List.map recV ([] : List Rec), false, true⟩, some (15, 0))] [] (rvC (resTmp rfl) rvN) ⟨⟨rfl, _, rfl, rfl, rfl, rfl, id, rowsCv_eq rfl (allFree_map recV_free), rowsZ_map recV_len⟩, trivial⟩ trivial rfl rfl (by kernel_rfl) (by simp only [V.mat, V.mat1, V.mat0, matL, matT, List.length_map] <;> rfl) (.ref rfl)
 ·replace h := cond_f h c4
  refine tri_skip ?_
  refine tri_sr ?_
  refine s_fieldAddr rfl rfl fd50_9 rfl rfl rfl rfl ?_
  refine s_load rfl rfl rfl rfl ty24 rfl (.inr rfl) (by conv => lhs; whnf) rfl rfl rfl ?_
  refine m1 ?_
  refine bnd1_elim h fun x5 q6 h => ?_
  refine s_callN (kb := []) (ns := []) (v := .ref (19, 0) 0 x5.length) rfl rfl cl128 (ws_SetOf p0.au x1 2 x5 q6) rfl (.cons (.free rfl) (.cons (.free rfl) (.cons (.free rfl) .nil))) trivial memNil .nil memNil rfl ⟨(allSc_map recV_sc), trivial⟩ memNil rfl (by simp only [V.mat, V.mat1, V.mat0, matL, matT, List.length_map] <;> rfl) rfl rfl rfl rfl ?_
  refine m2 ?_
  refine rt_nil ?_
  refine tri_ret ?_
  have e0 := (some1 h); subst e0
  exact endY (v' := .ref (2000, 0) 0 x5.length) [((2000, 0), ⟨39, 6, List.map recV x5, false, true⟩, some (19, 0))] [] (rvC (resTmp rfl) rvN) ⟨⟨rfl, _, rfl, rfl, rfl, rfl, id, rowsCv_eq rfl (allFree_map recV_free), rowsZ_map recV_len⟩, trivial⟩ trivial rfl rfl (by kernel_rfl) (by simp only [V.mat, V.mat1, V.mat0, matL, matT, List.length_map] <;> rfl) (.ref rfl)

/- slices.Index[[]string,string] -/
def inv_slices_Index_string_0 (p0 : List ByteArray) (p1 : ByteArray) (v0_0 : Nat) : St := mkT 19 [(0, .lst 1 (List.map strV p0)), (1, .sc (.string p1)), (7, .sc (.int .i64 (p0.length : Int))), (8, .sc (.int .i64 (v0_0 : Int)))] []
set_option maxRecDepth 4000 in
set_option maxHeartbeats 800000 in
theorem wslices_Index_string (p0 : List ByteArray) (p1 : ByteArray) (r0 : Int) (h : slices_Index_string p0 p1 = some r0) : Runs Tryd.prog 145 [.lst 1 (List.map strV p0), .sc (.string p1)] [] (.sc (.int .i64 r0)) [] := by
 unfold slices_Index_string at h
 refine runsR [.tmp 4] Tryd.func145 rfl rfl rfl rfl ?_
 rw [Tryd.ntmps145]
 refine tri_sr ?_
 refine s_mv (.inr rfl) (v := .sc (.int .i64 0)) rfl rfl rfl rfl ?_
 refine rt_nil ?_
 refine tri_seq ?_
 refine tri_sr ?_
 refine m1 ?_
 refine s_lenL rfl sl33 rfl rfl rfl rfl ?_
 refine s_mv (.inl rfl) (v := .sc (.int .i64 0)) rfl rfl rfl rfl ?_
 refine rt_nil ?_
 refine tri_block ?_
 refine tri_lstM 0 rfl (fun hl0 => ?_)
 refine tri_loop (ι := { p : (List ByteArray) × Nat // p0.drop p.2 = p.1 ∧ slices_Index_string_l0 p1 p.1 p.2 = some r0 }) (fun p => inv_slices_Index_string_0 p0 p1 p.1.2) (fun p => p.1.1.length) ⟨(p0, 0), rfl, h⟩ ?_ ?_
 ·skip
  refine entX [] [] trivial trivial rfl rfl ?_
  exact ⟨(.free rfl), (.free rfl), (.free rfl), (.free rfl), trivial⟩
 ·rintro ⟨⟨lrs0, v0_0⟩, hd0, h⟩
  replace hd0 : p0.drop v0_0 = lrs0 := hd0
  replace h : slices_Index_string_l0 p1 lrs0 v0_0 = some r0 := h
  show Tri _ _ _ (inv_slices_Index_string_0 p0 p1 v0_0)
  refine tri_sr ?_
  refine s_of (st_lss rfl rfl rfl) rfl rfl rfl rfl ?_
  refine rt_nil ?_
  refine tri_seq ?_
  refine tri_cond rfl (fun c1 => ?_) (fun c1 => ?_)
  ·refine drop_elim hd0 c1 fun e0 rs0 he hx0 hn0 => ?_
   subst he
   rw [slices_Index_string_l0] at h
   refine tri_skip ?_
   refine tri_seq ?_
   refine tri_block ?_
   refine tri_sr ?_
   refine m1 ?_
   refine m2 ?_
   refine rt_nil ?_
   refine tri_sr ?_
   refine m1 ?_
   refine m1 ?_
   refine m1 ?_
   refine s_indexF (i := v0_0) rfl rfl rfl sl33 (get_ltM hx0) rfl rfl rfl ?_
   refine s_loadF rfl rfl (rowG hx0) ty9 rfl (.inr rfl) (by conv => lhs; whnf) rfl rfl rfl ?_
   refine s_of (st_eqS rfl rfl rfl) rfl rfl rfl rfl ?_
   refine rt_nil ?_
   refine tri_cond rfl (fun c2 => ?_) (fun c2 => ?_)
   ·replace h := cond_t h c2
    refine tri_sr ?_
    refine m1 ?_
    refine m2 ?_
    refine rt_nil ?_
    refine tri_ret ?_
    have e0 := (some1 h); subst e0
    exact endY [] [] (rvC (resTmp rfl) rvN) trivial trivial rfl rfl rfl rfl (.free rfl)
   ·replace h := cond_f h c2
    refine tri_skip ?_
    refine tri_region ?_
    refine s_inc (a := v0_0) (b := 1) rfl rfl rfl rfl (by have := get_lt hx0; have := hl0; omega) rfl rfl rfl ?_
    refine m1 ?_
    refine rt_nil ?_
    refine Exists.intro ⟨(rs0, (v0_0 + 1)), hn0, h⟩ (And.intro (Nat.lt_succ_self _) ?_)
    refine entX [] [] trivial trivial rfl rfl ?_
    exact ⟨(.free rfl), (.free rfl), (.free rfl), (.free rfl), trivial⟩
  ·have he := drop_f hd0 c1; subst he
   rw [slices_Index_string_l0] at h
   refine tri_exit ?_
   refine tri_sr ?_
   refine s_mv (.inr rfl) (v := .sc (.int .i64 (-1))) rfl rfl rfl rfl ?_
   refine rt_nil ?_
   refine tri_ret ?_
   have e0 := (some1 h); subst e0
   exact endY [] [] (rvC (resTmp rfl) rvN) trivial trivial rfl rfl rfl rfl (.free rfl)

end Go.Abs.M
