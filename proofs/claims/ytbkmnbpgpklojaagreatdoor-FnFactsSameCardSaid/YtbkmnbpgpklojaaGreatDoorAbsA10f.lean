/- The abstract layer, part A10f. -/
import Derived.Test.YtbkmnbpgpklojaaGreatDoorAbsA10e
import Derived.Lib.AppendZeros
namespace Go.Abs
open Go
section
variable {P : Program} {w0 : World} {M0 : Base} {F0 : Nat → Prop} {st : St} {a : Act} {w : World} {φ : Env} {F : Nat → Prop} {o : Oper} {next : Act → World → Prop} {Q : Exit → Act → World → Prop}
theorem ev_nils (h : Sat w0 M0 F0 st a.tmps w φ F) {x : Operand} (hx : st.ev x = .nils) : a.eval x = .slice none 0 0 := by
 have hr := h.ev x
 rw [hx] at hr
 generalize a.eval x = v at hr
 cases hr; rfl
theorem ok_capNil (h : Sat w0 M0 F0 st a.tmps w φ F) (hd : dstOk o.dst st.n = true) {t : TypeId} {x : Operand} {e : TypeId × Nat × Nat} (ho : o.op = .call { callee := .builtin .cap, args := #[x], argTypes := #[t] }) (hx : st.ev x = .nils) (ht : slTy P t = some e)
  (hn : Next w0 M0 F0 (st.put o.dst (.sc (.int .i64 0))) a.defers next) : o.wp P a w next Q := by
 have hv := ev_nils h hx
 obtain ⟨e, z, b⟩ := e
 obtain ⟨inf, h1, -⟩ := slTy_spec ht
 refine ok_val h hd (v := .int .i64 0) ?_ (.sc rfl) hn
 simp [execOp, ho, resolve, invoke, builtin, Builtin.cap_, hv, run_underlying h1, goInt]
theorem ok_sliceNil (h : Sat w0 M0 F0 st a.tmps w φ F) (hd : dstOk o.dst st.n = true) {t e : TypeId} {x : Operand} {lo hi : Option Operand} {z by_ : Nat} (ho : o.op = .slice t x lo hi none) (hx : st.ev x = .nils) (ht : slTy P t = some (e, z, by_)) (h1 : bnd st lo 0 0) (h2 : bnd st hi 0 0)
  (hn : Next w0 M0 F0 (st.put o.dst .nils) a.defers next) : o.wp P a w next Q := by
 have hv := ev_nils h hx
 have hrun := run_sliceOp (P := P) (w := w) (ad := none) (len := 0) (cap := 0) ht (bnd_val h h1) (bnd_val h h2) (Nat.le_refl _) (Nat.le_refl _) (Nat.le_refl _)
 refine ok_val h hd (v := .slice none 0 0) ?_ .nils hn
 simp only [execOp, ho, hv, hrun, Sem.run_bind, Result.andThen_ok, Sem.run_pure, Option.map_none]
 simp
theorem zeroCells_get {zc : Array Value} {n z i j : Nat} {v : Value} (hz : zc.size = z) (hi : i < n) (hj : zc[j]? = some v) : (Builtin.zeroCells zc n)[i * z + j]? = some v := by
 obtain ⟨hj', e'⟩ := Array.getElem?_eq_some_iff.1 hj
 have hlt : i * z + j < n * z := by
  have : (i + 1) * z ≤ n * z := Nat.mul_le_mul_right _ hi
  rw [Nat.add_mul] at this; omega
 have hmod : (i * z + j) % z = j := by rw [Nat.mul_comm, Nat.mul_add_mod, Nat.mod_eq_of_lt (by omega)]
 simp only [Builtin.zeroCells, Array.getElem?_map, Array.getElem?_range, hz, hlt, if_true, Option.map_some, Option.some.injEq, hmod]
 rw [getElem!_pos zc j hj', e']
theorem ok_appendZ (h : Sat w0 M0 F0 st a.tmps w φ F) {d : Nat} (_hdst : o.dst = some d) (hd : dstOk o.dst st.n = true) {t tn e : TypeId} {n z by_ : Nat} {s x : Operand} {k kn : IntKind} {zs : List Value} {row : List V} (hrow : RowZ zs row)
  (ho : o.op = .call { callee := .builtin .append, args := #[s, x], argTypes := #[t, tn] }) (hnm : st.hp (d, 0) = none) (hs : st.ev s = .nils) (hx : st.ev x = .sc (.int k (n : Int))) (hn0 : 0 < n) (ht : slTy P t = some (e, z, by_)) (htn : P.underlying tn = some (.int kn)) (hz : zeroC P e = some zs) (hzl : zs.length = z)
  (h1 : zs.all (·.oneCell') = true) (hz0 : 0 < z) (hb : by_ ≤ 128) (hnb : n ≤ 1099511627776)
  (hn : Next w0 M0 F0 ((st.put o.dst (.ref (d, 0) 0 n)).up (d, 0) (some ⟨e, z, List.replicate n row, false, true⟩)) a.defers next) : o.wp P a w next Q := by
 obtain ⟨inf, g1, g2, g3, g4⟩ := slTy_spec ht
 obtain ⟨inf', zv, g5, g6, g7⟩ := zeroC_spec hz
 rw [g2] at g5
 cases g5
 have hsz : zv.cells.size = z := by rw [← Array.length_toList, g7, hzl]
 have hbytes : n * inf.bytes ≤ 281474976710656 := by
  have h2 : n * inf.bytes ≤ 1099511627776 * 128 := Nat.mul_le_mul hnb (by omega)
  omega
 have hsv := ev_nils h hs
 have hxv := (hx ▸ h.ev x).sc_inv.1
 have hrun := Lib.run_append_nil_zeros (P := P) w t tn o.type e inf zv k kn g1 htn g2 g6 n hn0 (by omega) (by omega) hbytes
 have hge := grownCap_ge w n 0 e
 have hcm := grownCap_le_maxLen w n 0 e (by simp only [maxLen]; omega)
 generalize hcap : grownCap w n 0 e = capN at hrun hge hcm
 refine ok_new_ref (E := ⟨e, z, List.replicate n row, false, true⟩) (arr := Builtin.zeroCells zv.cells n ++ Builtin.zeroCells zv.cells (capN - n)) (fz := (0, 0)) (len := n) (cap := capN) (w' := w.drew.alloc (.cells (Builtin.zeroCells zv.cells n ++ Builtin.zeroCells zv.cells (capN - n)) e)) h hd hnm ?_ rfl rfl rfl (by simp) (fun _ hc => heap_alloc_old w.drew _ hc) (heap_alloc_new w.drew _)
  (fun _ => rfl) (.inl rfl) ?_ (by simp) hge hcm (fun r hr => by rw [(List.mem_replicate.1 hr).2, ← hrow.1]; exact hzl) (fun i j v hv => ?_) hn
 ·exact exec_appendS ho (by rw [hsv, hxv]; exact hrun)
 ·show (Builtin.zeroCells zv.cells n ++ Builtin.zeroCells zv.cells (capN - n)).size = capN * z
  simp only [Array.size_append, size_zeroCells, hsz]
  rw [← Nat.add_mul]; congr 1; omega
 ·obtain ⟨hi, hv⟩ := cellAt_replicate hv
  have hj : j < z := by have := (List.getElem?_eq_some_iff.1 hv).1; rw [← hrow.1, hzl] at this; exact this
  obtain ⟨u, hu⟩ : ∃ u, zs[j]? = some u := ⟨zs[j]'(by omega), List.getElem?_eq_getElem (by omega)⟩
  obtain ⟨v', hv', hrep⟩ := hrow.2 j u hu
  rw [hv] at hv'; cases hv'
  refine ⟨u, ?_, List.all_eq_true.1 h1 u (List.mem_of_getElem? hu), hrep _ _ _⟩
  have hzj : zv.cells[j]? = some u := by rw [← Array.getElem?_toList, g7]; exact hu
  have hlt : i * z + j < (Builtin.zeroCells zv.cells n).size := by
   rw [size_zeroCells, hsz]
   have : (i + 1) * z ≤ n * z := Nat.mul_le_mul_right _ hi
   rw [Nat.add_mul] at this; omega
  show (Builtin.zeroCells zv.cells n ++ Builtin.zeroCells zv.cells (capN - n))[i * z + j]? = some u
  rw [Array.getElem?_append_left hlt]
  exact zeroCells_get hsz hi hzj
end
end Go.Abs
