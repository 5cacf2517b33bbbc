/- The abstract layer, part A5. -/
import Derived.Test.YtbkmnbpgpklojaaGreatDoorAbsA4
namespace Go.Abs
open Go
section
variable {P : Program} {w0 : World} {M0 : Base} {F0 : Nat → Prop} {st : St} {a : Act} {w : World} {φ : Env} {F : Nat → Prop} {o : Oper} {next : Act → World → Prop} {Q : Exit → Act → World → Prop}
theorem cellAt_replicate {row : List V} {n i j : Nat} {x : V} (h : cellAt (List.replicate n row) i j = some x) : i < n ∧ row[j]? = some x := by
 unfold cellAt at h
 rw [List.getElem?_replicate] at h
 split at h
 ·rename_i hi; exact ⟨hi, by simpa using h⟩
 ·simp at h
def RowZ (zs : List Value) (row : List V) : Prop := zs.length = row.length ∧ ∀ (j : Nat) u, zs[j]? = some u → ∃ x, row[j]? = some x ∧ ∀ (w : World) (F : Nat → Prop) (φ : Env), Rep w F φ x u
theorem rowZ_nil : RowZ [] [] := ⟨rfl, fun j u hu => by simp at hu⟩
theorem rowZ_cv {u : Value} {x : V} {zs : List Value} {row : List V} (h : cv1 u = x) (t : RowZ zs row) : RowZ (u :: zs) (x :: row) := ⟨by simp [t.1], fun j v hv => by
  cases j with
  | zero => simp only [List.getElem?_cons_zero, Option.some.injEq] at hv; subst hv; exact ⟨x, rfl, fun _ _ _ => h ▸ rep_cv1 u⟩
  | succ j => simpa using t.2 j v (by simpa using hv)⟩
theorem ok_makeSlice (h : Sat w0 M0 F0 st a.tmps w φ F) {d : Nat} (_hdst : o.dst = some d) (hd : dstOk o.dst st.n = true) {t e : TypeId} {n z by_ : Nat} {x y : Operand} {k k' : IntKind} {zs : List Value} {row : List V} (hrow : RowZ zs row)
  (ho : o.op = .makeSlice t x y) (hnm : st.hp (d, 0) = none) (hx : st.ev x = .sc (.int k (n : Int))) (hy : st.ev y = .sc (.int k' (n : Int))) (ht : slTy P t = some (e, z, by_)) (hz : zeroC P e = some zs) (hzl : zs.length = z)
  (h1 : zs.all (·.oneCell') = true) (_hz0 : 0 < z) (hb : by_ ≤ 128) (hnb : n ≤ 1099511627776)
  (hn : Next w0 M0 F0 ((st.put o.dst (.ref (d, 0) 0 n)).up (d, 0) (some ⟨e, z, List.replicate n row, false, true⟩)) a.defers next) : o.wp P a w next Q := by
 obtain ⟨inf, g1, g2, g3, g4⟩ := slTy_spec ht
 obtain ⟨inf', zv, g5, g6, g7⟩ := zeroC_spec hz
 rw [g2] at g5
 cases g5
 have hsz : zv.cells.size = z := by rw [← Array.length_toList, g7, hzl]
 have hbytes : (inf.bytes : Int) * (n : Int) ≤ 281474976710656 := by
  have h2 : inf.bytes * n ≤ 128 * 1099511627776 := Nat.mul_le_mul (by omega) hnb
  have h3 : ((inf.bytes * n : Nat) : Int) ≤ 281474976710656 := by omega
  rwa [Int.natCast_mul] at h3
 have hrun := run_make (P := P) w t e inf zv g1 g2 g6 k k' (n : Int) (n : Int) (by omega) (Int.le_refl _) hbytes (by omega)
 have hxv := (hx ▸ h.ev x).sc_inv.1
 have hyv := (hy ▸ h.ev y).sc_inv.1
 refine ok_new_ref (E := ⟨e, z, List.replicate n row, false, true⟩) (arr := madeCells zv.cells (n * z)) (fz := (0, 0)) (len := n) (cap := n) (w' := w.alloc (.cells (madeCells zv.cells (n * z)) e)) h hd hnm ?_ rfl rfl rfl (by simp) (fun _ hc => heap_alloc_old w _ hc) (heap_alloc_new w _)
  (fun _ => rfl) (.inl rfl) (size_madeCells _ _) (by simp) (Nat.le_refl _) (by simp only [maxLen]; omega) (fun r hr => by rw [(List.mem_replicate.1 hr).2, ← hrow.1]; exact hzl) (fun i j v hv => ?_) hn
 ·simp only [execOp, ho, hxv, hyv, Sem.run_bind, hrun, Result.andThen_ok, Sem.run_pure, Int.toNat_natCast, g3]
 ·obtain ⟨hi, hv⟩ := cellAt_replicate hv
  have hj : j < z := by have := (List.getElem?_eq_some_iff.1 hv).1; rw [← hrow.1, hzl] at this; exact this
  have hlt : i * z + j < n * z := by
   have : (i + 1) * z ≤ n * z := Nat.mul_le_mul_right _ hi
   rw [Nat.add_mul] at this; omega
  obtain ⟨u, hu⟩ : ∃ u, zs[j]? = some u := ⟨zs[j]'(by omega), List.getElem?_eq_getElem (by omega)⟩
  obtain ⟨v', hv', hrep⟩ := hrow.2 j u hu
  rw [hv] at hv'; cases hv'
  refine ⟨u, ?_, List.all_eq_true.1 h1 u (List.mem_of_getElem? hu), hrep _ _ _⟩
  have hmod : (i * z + j) % z = j := by rw [Nat.mul_comm, Nat.mul_add_mod, Nat.mod_eq_of_lt hj]
  have hzj : zv.cells[j]? = some u := by rw [← Array.getElem?_toList, g7]; exact hu
  show (madeCells zv.cells (n * z))[i * z + j]? = some u
  simp only [madeCells, Array.getElem?_map, Array.getElem?_range, hlt, if_true, Option.map_some, Option.some.injEq, hsz, hmod]
  obtain ⟨hj', e'⟩ := Array.getElem?_eq_some_iff.1 hzj
  rw [getElem!_pos zv.cells j hj', e']
theorem run_storeCells_blk (g o' : Nat) (e : TypeId) (fz : Nat × Nat) : ∀ (vs : List Value) (i : Nat) (cur : Array Value) (w : World), w.heap[g]? = some (.cells cur e fz) → (fz = (0, 0) ∨ cur.size ≤ fz.1) → o' + i + vs.length ≤ cur.size →
  (∀ v, v ∈ vs → Value.oneCell' v = true) → (storeCells ⟨g, o', none⟩ vs i).run P w = .ok () (w.setRow g (splice cur.toList (o' + i) vs).toArray)
 | [], i, cur, w, hg, _, _, _ => by
  have : w.setRow g cur = w := setRow_self w g cur e fz hg
  simp [storeCells, splice, this]
 | v :: vs, i, cur, w, hg, hf, hl, h1 => by
  simp only [List.length_cons] at hl
  have hi : o' + i < cur.size := by omega
  have hcell : w.cell? ⟨g, o' + i, none⟩ = some cur[o' + i] := by rw [cell_of_row w g _ cur e fz hg]; simp [hi]
  have hfro : w.frozen? ⟨g, o' + i, none⟩ = false := by
   rcases hf with rfl | hf
   ·simp [World.frozen?, hg]
   ·obtain ⟨lo, hi'⟩ := fz
    simp only at hf
    have : ¬ lo ≤ o' + i := by omega
    simp [World.frozen?, hg, this]
  have hst : (store ((⟨g, o', none⟩ : Addr).add i) v).run P w = .ok () (w.setRow g (cur.setIfInBounds (o' + i) v)) := by
   rw [addr_add, run_store P w _ v _ (h1 v (by simp)), hcell]
   simp [hfro, setCell_eq_setRow w g (o' + i) cur e fz v hg]
  have ih := run_storeCells_blk g o' e fz vs (i + 1) (cur.setIfInBounds (o' + i) v) (w.setRow g (cur.setIfInBounds (o' + i) v)) (setRow_heap w g cur _ e fz hg) (by simpa using hf) (by simp; omega) (fun x hx => h1 x (by simp [hx]))
  simp only [storeCells, Sem.run_bind, hst, Result.andThen_ok, ih, setRow_setRow]
  congr 2
  have hlt : o' + i < cur.toList.length := by simpa using hi
  simp only [splice, Array.toList_setIfInBounds, List.length_cons]
  rw [show o' + (i + 1) = o' + i + 1 by omega, List.take_add_one, List.getElem?_set_self hlt, List.take_set_of_le (Nat.le_refl _), List.drop_set_of_lt (by omega)]
  rw [show o' + i + 1 + vs.length = o' + i + (vs.length + 1) by omega]
  simp
theorem getElem?_splice {α : Type} (l cs : List α) (off i : Nat) (h : off + cs.length ≤ l.length) : (splice l off cs)[i]? = if off ≤ i ∧ i < off + cs.length then cs[i - off]? else l[i]? := by
 simp only [splice, List.append_assoc, List.getElem?_append, List.length_take, List.getElem?_take, List.getElem?_drop]
 rw [Nat.min_eq_left (by omega)]
 by_cases h1 : i < off
 ·rw [if_pos h1, if_pos h1, if_neg (by omega)]
 ·rw [if_neg h1]
  by_cases h2 : i - off < cs.length
  ·rw [if_pos h2, if_pos (by omega)]
  ·rw [if_neg h2, if_neg (by omega)]
   congr 1; omega
theorem ok_store (h : Sat w0 M0 F0 st a.tmps w φ F) (hd : dstOk o.dst st.n = true) {t : TypeId} {x y : Operand} {n : Nm} {r c k : Nat} {b : Bool} {E : Entry} {row cs : List V} (ho : o.op = .store t x y)
    (hx : st.ev x = .ptr n r c) (hE : st.hp n = some (some E)) (hrow : E.rows[r]? = some row) (ht : tyK P t = some (b, k)) (hy : (st.ev y).cells = some cs) (hcs : cs.length = k) (hk : c + k ≤ row.length)
    (hn : Next w0 M0 F0 ((st.put o.dst .undef).up n (some { E with rows := E.rows.set r (splice row c cs) })) a.defers next) : o.wp P a w next Q := by
  have hr := hx ▸ h.ev x
  generalize hv : a.eval x = v at hr
  obtain ⟨loc, h1, h2, h2f⟩ := h.obj n E hE
  obtain ⟨dd, inf, t1, t2, t3, t4⟩ := tyK_spec ht
  obtain ⟨c1, c2, c3⟩ := rep_cells (h.ev y) hy
  cases hr with
  | ptr h3 =>
    rename_i z bl cap
    rw [h1] at h3
    obtain ⟨rfl, rfl⟩ : E.z = z ∧ loc = Loc.at bl cap := by simpa using h3
    obtain ⟨arr, fz, g1, gs, g2, g3, g4, g5, g6, g7⟩ := h2
    have hrl : row.length = E.z := g6 row (List.mem_of_getElem? hrow)
    have hr_lt : r < E.rows.length := (List.getElem?_eq_some_iff.1 hrow).1
    have hfit : r * E.z + c + cs.length ≤ arr.size := by
      have : (r + 1) * E.z ≤ cap * E.z := Nat.mul_le_mul_right _ (by omega)
      rw [Nat.add_mul] at this
      omega
    let arr' : Array Value := (splice arr.toList (r * E.z + c) (a.eval y).cells.toList).toArray
    have hsz' : arr'.size = arr.size := by simp [arr', splice, c1]; omega
    have hrun := run_storeCells_blk (P := P) bl (r * E.z + c) E.e fz (a.eval y).cells.toList 0 arr w g1 g2 (by rw [c1]; omega) c3
    let w' : World := w.setRow bl arr'
    have hexec : (execOp a.eval o).run P w = .ok .skip w' := by
      have hs : (a.eval y).cells.size = inf.size := by rw [← Array.length_toList, c1, hcs, t4]
      simp [execOp, ho, hv, Instr.storeAt, Instr.sureAddr, storeVar, sizeOf, typeInfo, t2, hs, hrun, w', arr']
    have hnew : w'.heap[bl]? = some (.cells arr' E.e fz) := setRow_heap w bl arr arr' E.e fz g1
    have hoth : ∀ q, q ≠ bl → w'.heap[q]? = w.heap[q]? := fun q hq => setRow_other w bl q arr' hq
    let E' : Entry := { E with rows := E.rows.set r (splice row c cs) }
    have hM : Mset st.hp φ bl := ⟨n, E, E.z, cap, hE, h1⟩
    have htn : Turn w0 M0 st.hp w φ (upd st.hp n (some E')) w' φ (fun m => m = n) :=
      { os := rfl, tape := rfl, output := rfl, size := by simp [w']
        frz := fun q _ hq => hoth q (fun e => hq (e ▸ hM))
        same := fun m hm => ⟨by simp [upd, hm], rfl⟩
        env := fun _ _ h => h
        blk := fun m Em z b' cap' hm hEm hφ => hoth b' (fun e => hm (h.inj m n Em E z E.z bl cap' cap hEm hE (e ▸ hφ) h1))
        own := fun m Em z b' cap' hm _ hφ => .inr ⟨n, E, z, cap', rfl, hE, by subst hm; exact hφ⟩
        tinj := fun m m' _ _ _ _ _ _ _ hm hm' _ _ _ _ => hm.trans hm'.symm
        abs := fun m hm hE' => by subst hm; simp [upd] at hE' }
    unfold Oper.wp
    rw [hexec]
    refine hn (a.put o.dst undef) w' φ F (h.turn (st' := (st.put o.dst .undef).up n (some E')) (by simpa using htn) (by simp [size_put, h.slots]) (fun t => ?_) (fun m Em hm hEm => ?_)) (put_defers' _ _ _)
    · have := rep_put (w' := w') (F' := F) (φ' := φ) (x := .undef) (v := undef) hd h.slots (fun t => h.keep htn (h.rep t)) .undef t
      simpa using this
    · subst hm
      simp only [St.up_hp, upd, if_true, Option.some.injEq] at hEm
      subst hEm
      refine ⟨.at bl cap, h1, ⟨arr', fz, hnew, gs, by rw [hsz']; exact g2, by rw [hsz']; exact g3, by simpa [E'] using g4, g5, fun q hq => ?_, fun i j x hx => ?_⟩, h2f⟩
      · rcases List.mem_or_eq_of_mem_set hq with hq | rfl
        · exact g6 q hq
        · have : (splice row c cs).length = row.length := by simp [splice]; omega
          exact this.trans hrl
      · have hfin : ∀ {u}, (arr'[i * E.z + j]? = some u) → u.oneCell' = true ∧ Rep w F φ x u → ∃ v, arr'[i * E'.z + j]? = some v ∧ v.oneCell' = true ∧ Rep w' F φ x v :=
          fun {u} hu hh => ⟨u, hu, hh.1, by simpa using h.keep htn hh.2⟩
        have harr : ∀ p, arr'[p]? = if r * E.z + c ≤ p ∧ p < r * E.z + c + cs.length then (a.eval y).cells.toList[p - (r * E.z + c)]? else arr[p]? := fun p => by
          rw [← Array.getElem?_toList]
          simp only [arr']
          rw [getElem?_splice _ _ _ _ (by rw [c1]; simpa using hfit), c1]
          simp
        have hjz : j < E.z := by
          have hx' := hx
          simp only [cellAt, E'] at hx'
          cases hq : (E.rows.set r (splice row c cs))[i]? with
          | none => simp [hq] at hx'
          | some q =>
            simp only [hq, Option.bind_some] at hx'
            have hl := (List.getElem?_eq_some_iff.1 hx').1
            have hql : q.length = E.z := by
              rcases List.mem_or_eq_of_mem_set (List.mem_of_getElem? hq) with h' | rfl
              · exact g6 q h'
              · have : (splice row c cs).length = row.length := by simp [splice]; omega
                exact this.trans hrl
            omega
        by_cases hir : i = r
        · subst hir
          simp only [cellAt, E', List.getElem?_set_self hr_lt, Option.bind_some] at hx
          rw [getElem?_splice _ _ _ _ (by omega)] at hx
          by_cases hin : c ≤ j ∧ j < c + cs.length
          · rw [if_pos hin] at hx
            have hj' : j - c < (a.eval y).cells.toList.length := by rw [c1]; omega
            have hu := List.getElem?_eq_getElem hj'
            refine hfin (u := (a.eval y).cells.toList[j - c]) ?_ ⟨c3 _ (List.getElem_mem hj'), c2 _ _ _ hx hu⟩
            rw [harr, if_pos (by omega), show i * E.z + j - (i * E.z + c) = j - c by omega]
            exact hu
          · rw [if_neg hin] at hx
            obtain ⟨u, hu1, hu2, hu3⟩ := g7 i j x (by simp [cellAt, hrow, hx])
            refine hfin (u := u) ?_ ⟨hu2, hu3⟩
            rw [harr, if_neg (by omega)]
            exact hu1
        · have hx' : cellAt E.rows i j = some x := by
            simpa only [cellAt, E', List.getElem?_set_ne (Ne.symm hir)] using hx
          obtain ⟨u, hu1, hu2, hu3⟩ := g7 i j x hx'
          refine hfin (u := u) ?_ ⟨hu2, hu3⟩
          rw [harr, if_neg ?_]
          · exact hu1
          · intro hh
            rcases Nat.lt_or_gt_of_ne hir with hlt | hlt
            · have : (i + 1) * E.z ≤ r * E.z := Nat.mul_le_mul_right _ hlt
              rw [Nat.add_mul] at this; omega
            · have : (r + 1) * E.z ≤ i * E.z := Nat.mul_le_mul_right _ hlt
              rw [Nat.add_mul] at this; omega
end
end Go.Abs
