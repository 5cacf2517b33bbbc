/- The abstract layer, part A3. -/
import Derived.Test.YtbkmnbpgpklojaaGreatDoorAbsA2
namespace Go.Abs
open Go
theorem run_loadVar_cells {P : Program} {w : World} {t : TypeId} {a : Addr} {cs : List Value} {b : Bool} (ht : tyK P t = some (b, cs.length))
  (hc : ∀ j v, cs[j]? = some v → w.cell? (a.add j) = some v) (hb : b = false → cs.length = 1) :
  (loadVar t a).run P w = .ok (if b then .agg cs.toArray else cs.headD undef) w := by
 obtain ⟨d, i, h1, h2, h3, h4⟩ := tyK_spec ht
 have hagg : (isAgg t).run P w = .ok b w := by
  unfold isAgg
  rw [Sem.run_bind, run_underlying h1 w]
  subst h3
  cases d <;> simp [aggD]
 cases b with
 | true =>
  have hl := run_loadCells_list (P := P) w a cs hc
  rw [← h4] at hl
  simp [loadVar, hagg, sizeOf, typeInfo, h2, hl]
 | false =>
  obtain ⟨v, rfl⟩ := List.length_eq_one_iff.1 (hb rfl)
  have h0 := hc 0 v rfl
  rw [Addr.add_zero'] at h0
  simp [loadVar, hagg, h0]
theorem cells_of_cellAt {rows : List (List V)} {r c n : Nat} {row : List V} (hrow : rows[r]? = some row) (hn : c + n ≤ row.length) :
  ∀ j, j < n → ∃ x, cellAt rows r (c + j) = some x ∧ ((row.drop c).take n)[j]? = some x := by
 intro j hj
 refine ⟨row[c + j], by simp [cellAt, hrow, List.getElem?_eq_getElem (show c + j < row.length by omega)], ?_⟩
 simp [hj, List.getElem?_eq_getElem (show c + j < row.length by omega)]
def loadV (b : Bool) (xs : List V) : V := if b then .agg xs else xs.headD .undef
theorem rep_load {w : World} {F : Nat → Prop} {φ : Env} {b : Bool} {xs : List V} {cs : List Value} (hl : xs.length = cs.length) (hb : b = false → cs.length = 1)
  (h : ∀ (i : Nat) x v, xs[i]? = some x → cs[i]? = some v → Rep w F φ x v) (one : ∀ v, v ∈ cs → Value.oneCell' v = true) :
  Rep w F φ (loadV b xs) (if b then .agg cs.toArray else cs.headD undef) := by
 cases b with
 | true => exact .agg hl h one
 | false =>
  obtain ⟨v, rfl⟩ := List.length_eq_one_iff.1 (hb rfl)
  obtain ⟨x, rfl⟩ := List.length_eq_one_iff.1 (hl.trans rfl)
  exact h 0 x v rfl rfl
section
variable {P : Program} {w0 : World} {M0 : Base} {F0 : Nat → Prop} {st : St} {a : Act} {w : World} {φ : Env} {F : Nat → Prop} {o : Oper} {next : Act → World → Prop} {Q : Exit → Act → World → Prop}
theorem addr_add (b o' j : Nat) : (⟨b, o', none⟩ : Addr).add j = ⟨b, o' + j, none⟩ := by unfold Addr.add; split <;> simp_all
theorem ok_load (h : Sat w0 M0 F0 st a.tmps w φ F) (hd : dstOk o.dst st.n = true) {t : TypeId} {x : Operand} {n : Nm} {r c k : Nat} {b : Bool} {E : Entry} {row : List V} (ho : o.op = .load t x)
  (hx : st.ev x = .ptr n r c) (hE : st.hp n = some (some E)) (hrow : E.rows[r]? = some row) (ht : tyK P t = some (b, k)) (hk : c + k ≤ row.length) (hb : b = false → k = 1)
  (hn : Next w0 M0 F0 (st.put o.dst (loadV b ((row.drop c).take k))) a.defers next) : o.wp P a w next Q := by
 have hr := hx ▸ h.ev x
 generalize hv : a.eval x = v at hr
 obtain ⟨loc, h1, h2, -⟩ := h.obj n E hE
 cases hr with
 | ptr h3 =>
  rename_i z bl cap
  rw [h1] at h3
  obtain ⟨rfl, rfl⟩ : E.z = z ∧ loc = Loc.at bl cap := by simpa using h3
  obtain ⟨arr, fz, g1, -, g2, g3, g4, g5, g6, g7⟩ := h2
  have hcell : ∀ j, j < k → ∃ x u, cellAt E.rows r (c + j) = some x ∧ ((row.drop c).take k)[j]? = some x ∧ arr[r * E.z + (c + j)]? = some u ∧ u.oneCell' = true ∧ Rep w F φ x u := by
   intro j hj
   obtain ⟨x, hx1, hx2⟩ := cells_of_cellAt hrow hk j hj
   obtain ⟨u, hu1, hu2, hu3⟩ := g7 r (c + j) x hx1
   exact ⟨x, u, hx1, hx2, hu1, hu2, hu3⟩
  have hsz : ∀ j, j < k → r * E.z + c + j < arr.size := fun j hj => by
   obtain ⟨x, u, _, _, hu, _⟩ := hcell j hj
   have := (Array.getElem?_eq_some_iff.1 hu).1
   omega
  let cs : List Value := (List.range k).map fun j => arr.getD (r * E.z + c + j) undef
  have hcs : ∀ j v, cs[j]? = some v → j < k ∧ arr[r * E.z + c + j]? = some v := fun j v hv => by
   simp only [cs, List.getElem?_map, Option.map_eq_some_iff] at hv
   obtain ⟨j', hj', rfl⟩ := hv
   obtain ⟨hj1, hj2⟩ := List.getElem?_eq_some_iff.1 hj'
   simp at hj1 hj2
   subst hj2
   exact ⟨hj1, by simp [hsz j hj1]⟩
  have hlen : cs.length = k := by simp [cs]
  have hrun := run_loadVar_cells (P := P) (w := w) (a := ⟨bl, r * E.z + c, none⟩) (cs := cs) (by rw [hlen]; exact ht)
   (fun j v hv => by rw [addr_add, cell_of_row w bl _ arr E.e fz g1]; exact (hcs j v hv).2) (by rw [hlen]; exact hb)
  refine ok_val h hd (v := if b then .agg cs.toArray else cs.headD undef) (by simp [execOp, ho, hv, Instr.loadAt, Instr.sureAddr, hrun]) ?_ hn
  refine rep_load (cs := cs) (xs := (row.drop c).take k) (by rw [hlen, List.length_take, List.length_drop]; omega) (by rw [hlen]; exact hb) (fun i x v hx hv => ?_) (fun v hv => ?_)
  ·obtain ⟨hi, hv'⟩ := hcs i v hv
   obtain ⟨x', u, _, hx2, hu, _, hrep⟩ := hcell i hi
   rw [hx] at hx2
   rw [show r * E.z + (c + i) = r * E.z + c + i by omega, hv'] at hu
   cases hx2; cases hu
   exact hrep
  ·obtain ⟨i, hi, hv⟩ := List.getElem_of_mem hv
   have hv' : cs[i]? = some v := by rw [List.getElem?_eq_getElem hi, hv]
   obtain ⟨hi', hv''⟩ := hcs i v hv'
   obtain ⟨x', u, _, _, hu, ho, _⟩ := hcell i hi'
   rw [show r * E.z + (c + i) = r * E.z + c + i by omega, hv''] at hu
   cases hu
   exact ho
theorem ok_loadF (h : Sat w0 M0 F0 st a.tmps w φ F) (hd : dstOk o.dst st.n = true) {t : TypeId} {x : Operand} {z r c k : Nat} {b : Bool} {rows : List (List V)} {row : List V} (ho : o.op = .load t x)
    (hx : st.ev x = .lptr z rows r c) (hrow : rows[r]? = some row) (ht : tyK P t = some (b, k)) (hk : c + k ≤ row.length) (hb : b = false → k = 1)
    (hn : Next w0 M0 F0 (st.put o.dst (loadV b ((row.drop c).take k))) a.defers next) : o.wp P a w next Q := by
  have hr := hx ▸ h.ev x
  generalize hv : a.eval x = v at hr
  cases hr with
  | lptr bl o' g hz hM cell one sub =>
    let cs : List Value := (List.range k).map fun j => g r (c + j)
    have hcs : ∀ j v, cs[j]? = some v → j < k ∧ g r (c + j) = v := fun j v hv => by
      simp only [cs, List.getElem?_map, Option.map_eq_some_iff] at hv
      obtain ⟨j', hj', rfl⟩ := hv
      obtain ⟨hj1, hj2⟩ := List.getElem?_eq_some_iff.1 hj'
      simp at hj1 hj2
      subst hj2
      exact ⟨hj1, rfl⟩
    have hlen : cs.length = k := by simp [cs]
    have hrun := run_loadVar_cells (P := P) (w := w) (a := ⟨bl, o' + r * z + c, none⟩) (cs := cs) (by rw [hlen]; exact ht)
      (fun j v hv => by
        obtain ⟨hj, rfl⟩ := hcs j v hv
        obtain ⟨x, hx1, _⟩ := cells_of_cellAt hrow hk j hj
        rw [addr_add, ← cell r (c + j) x hx1]
        congr 2; omega) (by rw [hlen]; exact hb)
    refine ok_val h hd (v := if b then .agg cs.toArray else cs.headD undef) (by simp [execOp, ho, hv, Instr.loadAt, Instr.sureAddr, hrun]) ?_ hn
    refine rep_load (cs := cs) (xs := (row.drop c).take k) (by rw [hlen, List.length_take, List.length_drop]; omega) (by rw [hlen]; exact hb) (fun i x v hx hv => ?_) (fun v hv => ?_)
    · obtain ⟨hi, rfl⟩ := hcs i v hv
      obtain ⟨x', hx1, hx2⟩ := cells_of_cellAt hrow hk i hi
      rw [hx] at hx2
      cases hx2
      exact (sub r (c + i) x hx1).mono (w' := w) (fun _ _ => rfl) (fun _ h => h) (fun _ _ h => by cases h)
    · obtain ⟨i, hi, hv⟩ := List.getElem_of_mem hv
      have hv' : cs[i]? = some v := by rw [List.getElem?_eq_getElem hi, hv]
      obtain ⟨hi', rfl⟩ := hcs i v hv'
      obtain ⟨x', hx1, _⟩ := cells_of_cellAt hrow hk i hi'
      exact one r (c + i) x' hx1
theorem ok_fieldAddr (h : Sat w0 M0 F0 st a.tmps w φ F) (hd : dstOk o.dst st.n = true) {s : TypeId} {x : Operand} {f : Nat} {n : Nm} {r c off k : Nat} {b : Bool} (ho : o.op = .fieldAddr s x f)
  (hx : st.ev x = .ptr n r c) (ht : fldTy P s f = some (off, k, b)) (hk : k ≠ 0)
  (hn : Next w0 M0 F0 (st.put o.dst (.ptr n r (c + off))) a.defers next) : o.wp P a w next Q := by
 have hr := hx ▸ h.ev x
 generalize hv : a.eval x = v at hr
 obtain ⟨fs, fd, d, i, h1, h2, h3, h4, h5, h6, h7⟩ := fldTy_spec ht
 cases hr with
 | ptr h8 =>
  refine ok_val h hd (v := .pointer (some ⟨_, _ + (c + off), none⟩)) ?_ (.ptr h8) hn
  subst h7
  simp [execOp, ho, hv, Instr.fieldAt, run_underlying h1, h2, Instr.sureAddr, fieldPlace, sizeOf, typeInfo, h5, hk, addr_add, h3, Nat.add_assoc]
theorem ok_fieldAddrF (h : Sat w0 M0 F0 st a.tmps w φ F) (hd : dstOk o.dst st.n = true) {s : TypeId} {x : Operand} {f : Nat} {z r c off k : Nat} {rows : List (List V)} {b : Bool} (ho : o.op = .fieldAddr s x f)
  (hx : st.ev x = .lptr z rows r c) (ht : fldTy P s f = some (off, k, b)) (hk : k ≠ 0)
  (hn : Next w0 M0 F0 (st.put o.dst (.lptr z rows r (c + off))) a.defers next) : o.wp P a w next Q := by
 have hr := hx ▸ h.ev x
 generalize hv : a.eval x = v at hr
 obtain ⟨fs, fd, d, i, h1, h2, h3, h4, h5, h6, h7⟩ := fldTy_spec ht
 cases hr with
 | lptr bl o' g hz hM cell one sub =>
  refine ok_val h hd (v := .pointer (some ⟨bl, o' + r * z + (c + off), none⟩)) ?_ (.lptr bl o' g hz hM cell one sub) hn
  subst h7
  simp [execOp, ho, hv, Instr.fieldAt, run_underlying h1, h2, Instr.sureAddr, fieldPlace, sizeOf, typeInfo, h5, hk, addr_add, h3, Nat.add_assoc]
theorem ok_field (h : Sat w0 M0 F0 st a.tmps w φ F) (hd : dstOk o.dst st.n = true) {s : TypeId} {x : Operand} {f off k : Nat} {b : Bool} {xs : List V} (ho : o.op = .field s x f)
  (hx : st.ev x = .agg xs) (ht : fldTy P s f = some (off, k, b)) (hk : off + k ≤ xs.length) (hb : b = false → k = 1)
  (hn : Next w0 M0 F0 (st.put o.dst (loadV b ((xs.drop off).take k))) a.defers next) : o.wp P a w next Q := by
 obtain ⟨vs, hv, hl, hrep, one⟩ := (hx ▸ h.ev x).agg_inv
 obtain ⟨fs, fd, d, i, h1, h2, h3, h4, h5, h6, h7⟩ := fldTy_spec ht
 have hagg : (isAgg fd.type).run P w = .ok b w := by
  unfold isAgg
  rw [Sem.run_bind, run_underlying h4 w]
  subst h6
  cases d <;> simp [aggD]
 have hlen : ((vs.drop off).take k).length = k := by simp; omega
 refine ok_val h hd (v := if b then .agg ((vs.drop off).take k).toArray else ((vs.drop off).take k).headD undef) ?_ ?_ hn
 ·subst h3; subst h7
  cases b with
  | true =>
   have e : vs.toArray.extract fd.offset (fd.offset + i.size) = ((vs.drop fd.offset).take i.size).toArray := by
    rw [List.extract_toArray]
    congr 1
    simp
   simp only [execOp, ho, hv, Instr.field, run_underlying h1, Sem.run_bind, Result.andThen_ok, h2, asAgg, Sem.run_pure, part, hagg, if_true, sizeOf, typeInfo, run_program, h5, e]
  | false =>
   have h1' : i.size = 1 := hb rfl
   have hlt : fd.offset < vs.length := by omega
   have e : vs.toArray[fd.offset]? = some vs[fd.offset] := by simp [hlt]
   have e2 : ((vs.drop fd.offset).take i.size).headD undef = vs[fd.offset] := by
    rw [h1', List.drop_eq_getElem_cons hlt]; rfl
   simp only [Bool.false_eq_true, if_false, e2]
   simp only [execOp, ho, hv, Instr.field, run_underlying h1, Sem.run_bind, Result.andThen_ok, h2, asAgg, Sem.run_pure, part, hagg, Bool.false_eq_true, if_false, e]
 ·refine rep_load (by simp; omega) (by rw [hlen]; exact hb) (fun i x v hx hv => ?_) (fun v hv => ?_)
  ·simp only [List.getElem?_take, List.getElem?_drop] at hx hv
   split at hx
   ·rename_i hi
    simp only [hi, if_true] at hv
    exact hrep _ x v hx hv
   ·cases hx
  ·exact one v (List.mem_of_mem_drop (List.mem_of_mem_take hv))
theorem ok_indexAddr (h : Sat w0 M0 F0 st a.tmps w φ F) (hd : dstOk o.dst st.n = true) {t e : TypeId} {x y : Operand} {n : Nm} {off len i z by_ : Nat} {k : IntKind} {E : Entry} (ho : o.op = .indexAddr t x y)
  (hx : st.ev x = .ref n off len) (hy : st.ev y = .sc (.int k (i : Int))) (hE : st.hp n = some (some E)) (ht : slTy P t = some (e, z, by_)) (hz : E.z = z) (hi : i < len)
  (hn : Next w0 M0 F0 (st.put o.dst (.ptr n (off + i) 0)) a.defers next) : o.wp P a w next Q := by
 have hr := hx ▸ h.ev x
 have hyv := (hy ▸ h.ev y).sc_inv.1
 generalize hv : a.eval x = v at hr
 obtain ⟨inf, h1, h2, h3, -⟩ := slTy_spec ht
 obtain ⟨loc, g1, -⟩ := h.obj n E hE
 cases hr with
 | refNil => omega
 | ref h5 hl hm hoff =>
  rename_i z' b cap o'
  rw [g1] at h5
  obtain ⟨rfl, rfl⟩ : E.z = z' ∧ loc = Loc.at b cap := by simpa using h5
  obtain rfl := hoff (by omega)
  refine ok_val h hd (v := .pointer (some ⟨b, (off + i) * E.z + 0, none⟩)) ?_ (.ptr g1) hn
  have h6 : ¬ len ≤ i := by omega
  simp [execOp, ho, hv, hyv, Instr.indexAt, asIntOf, run_underlying h1, h6, sizeOf, typeInfo, h2, h3, addr_add, hz, Nat.add_mul]
theorem ok_indexAddrF (h : Sat w0 M0 F0 st a.tmps w φ F) (hd : dstOk o.dst st.n = true) {t e : TypeId} {x y : Operand} {i z by_ : Nat} {k : IntKind} {rows : List (List V)} (ho : o.op = .indexAddr t x y)
  (hx : st.ev x = .lst z rows) (hy : st.ev y = .sc (.int k (i : Int))) (ht : slTy P t = some (e, z, by_)) (hi : i < rows.length)
  (hn : Next w0 M0 F0 (st.put o.dst (.lptr z rows i 0)) a.defers next) : o.wp P a w next Q := by
 have hr := hx ▸ h.ev x
 have hyv := (hy ▸ h.ev y).sc_inv.1
 generalize hv : a.eval x = v at hr
 obtain ⟨inf, h1, h2, h3, -⟩ := slTy_spec ht
 cases hr with
 | lst b o' g ha hc hm hz hM cell one sub =>
  have hne : rows ≠ [] := by intro e; subst e; simp at hi
  obtain rfl := ha hne
  refine ok_val h hd (v := .pointer (some ⟨b, o' + i * z + 0, none⟩)) ?_ (.lptr b o' g hz hM cell one sub) hn
  have h6 : ¬ rows.length ≤ i := by omega
  simp [execOp, ho, hv, hyv, Instr.indexAt, asIntOf, run_underlying h1, h6, sizeOf, typeInfo, h2, h3, addr_add]
def V.slen : V → Option Nat
 | .nils => some 0
 | .lst _ rows => some rows.length
 | .ref _ _ len => some len
 | _ => none
theorem rep_slen {w : World} {F : Nat → Prop} {φ : Env} {x : V} {v : Value} {n : Nat} (h : Rep w F φ x v) (hx : x.slen = some n) : ∃ a cap, v = .slice a n cap ∧ n ≤ cap ∧ cap ≤ maxLen := by
 cases h with
 | nils => simp only [V.slen, Option.some.injEq] at hx; subst hx; exact ⟨_, _, rfl, Nat.le_refl _, by decide⟩
 | lst b o g ha hc hm => simp only [V.slen, Option.some.injEq] at hx; subst hx; exact ⟨_, _, rfl, hc, hm⟩
 | refNil => simp only [V.slen, Option.some.injEq] at hx; subst hx; exact ⟨_, _, rfl, Nat.le_refl _, by decide⟩
 | ref h1 hl hm => simp only [V.slen, Option.some.injEq] at hx; subst hx; exact ⟨_, _, rfl, by omega, by omega⟩
 | _ => simp [V.slen] at hx
theorem ok_len (h : Sat w0 M0 F0 st a.tmps w φ F) (hd : dstOk o.dst st.n = true) {t : TypeId} {x : Operand} {n : Nat} {e : TypeId × Nat × Nat} (ho : o.op = .call { callee := .builtin .len, args := #[x], argTypes := #[t] })
  (hx : (st.ev x).slen = some n) (ht : slTy P t = some e)
  (hn : Next w0 M0 F0 (st.put o.dst (.sc (.int .i64 n))) a.defers next) : o.wp P a w next Q := by
 obtain ⟨ad, cap, hv, -⟩ := rep_slen (h.ev x) hx
 obtain ⟨e, z, b⟩ := e
 obtain ⟨inf, h1, -⟩ := slTy_spec ht
 refine ok_val h hd (v := .int .i64 n) ?_ (.sc rfl) hn
 simp [execOp, ho, resolve, invoke, builtin, Builtin.len_, hv, run_underlying h1, goInt]
def bnd (st : St) (x : Option Operand) (d l : Nat) : Prop := match x with | none => l = d | some y => ∃ k, st.ev y = .sc (.int k (l : Int))
theorem run_sliceBounds {w : World} {len cap l hi : Nat} {lo hiv : Option Value} (h1 : (lo = none ∧ l = 0) ∨ ∃ k, lo = some (.int k (l : Int))) (h2 : (hiv = none ∧ hi = len) ∨ ∃ k, hiv = some (.int k (hi : Int)))
  (hl : l ≤ hi) (hh : hi ≤ len) (hc : len ≤ cap) : (Instr.sliceBounds true len cap lo hiv none).run P w = .ok (l, hi, cap) w := by
 have a1 : ¬ hi < l := by omega
 have a2 : ¬ cap < hi := by omega
 have a3 : l ≤ hi := hl
 have a4 : hi ≤ cap := by omega
 rcases h1 with ⟨rfl, rfl⟩ | ⟨k, rfl⟩ <;> rcases h2 with ⟨rfl, rfl⟩ | ⟨k', rfl⟩ <;> simp [Instr.sliceBounds, Instr.sliceBound, asIntOf, a3, a4]
theorem bnd_val (h : Sat w0 M0 F0 st a.tmps w φ F) {x : Option Operand} {d l : Nat} (hb : bnd st x d l) : (x.map a.eval = none ∧ l = d) ∨ ∃ k, x.map a.eval = some (.int k (l : Int)) := by
 cases x with
 | none => exact .inl ⟨rfl, hb⟩
 | some y => obtain ⟨k, hk⟩ := hb; exact .inr ⟨k, by simp [(hk ▸ h.ev y).sc_inv.1]⟩
theorem run_sliceOp {w : World} {t e : TypeId} {z by_ : Nat} {ad : Option Addr} {len cap l hi : Nat} {lo hiv : Option Value} (ht : slTy P t = some (e, z, by_)) (h1 : (lo = none ∧ l = 0) ∨ ∃ k, lo = some (.int k (l : Int)))
  (h2 : (hiv = none ∧ hi = len) ∨ ∃ k, hiv = some (.int k (hi : Int))) (hl : l ≤ hi) (hh : hi ≤ len) (hc : len ≤ cap) :
  (Instr.sliceAt t (.slice ad len cap) lo hiv none).run P w = .ok (.slice (if cap = l then ad else ad.map (·.add (l * z))) (hi - l) (cap - l)) w := by
 obtain ⟨inf, g1, g2, g3, -⟩ := slTy_spec ht
 simp [Instr.sliceAt, Instr.slice, run_underlying g1, run_sliceBounds (P := P) (w := w) h1 h2 hl hh hc, sizeOf, typeInfo, g2, g3]
theorem ok_slice (h : Sat w0 M0 F0 st a.tmps w φ F) (hd : dstOk o.dst st.n = true) {t e : TypeId} {x : Operand} {lo hi : Option Operand} {n : Nm} {off len z by_ l hh : Nat} {E : Entry} (ho : o.op = .slice t x lo hi none)
  (hx : st.ev x = .ref n off len) (hE : st.hp n = some (some E)) (ht : slTy P t = some (e, z, by_)) (hz : E.z = z) (h1 : bnd st lo 0 l) (h2 : bnd st hi len hh) (hl : l ≤ hh) (hhl : hh ≤ len)
  (hn : Next w0 M0 F0 (st.put o.dst (.ref n (off + l) (hh - l))) a.defers next) : o.wp P a w next Q := by
 have hr := hx ▸ h.ev x
 generalize hv : a.eval x = v at hr
 obtain ⟨loc, g1, -⟩ := h.obj n E hE
 cases hr with
 | refNil h5 =>
  obtain rfl : hh = 0 := by omega
  obtain rfl : l = 0 := by omega
  refine ok_val h hd (v := .slice none 0 0) ?_ (by simpa using Rep.refNil h5) hn
  have hrun := run_sliceOp (P := P) (w := w) (ad := none) (len := 0) (cap := 0) ht (bnd_val h h1) (bnd_val h h2) hl hhl (Nat.le_refl _)
  simp [execOp, ho, hv, hrun]
 | ref h5 hle hm hoff =>
  rename_i z' b cap o'
  rw [g1] at h5
  obtain ⟨rfl, rfl⟩ : E.z = z' ∧ loc = Loc.at b cap := by simpa using h5
  have hrun := run_sliceOp (P := P) (w := w) (ad := some ⟨b, o', none⟩) (len := len) (cap := cap - off) ht (bnd_val h h1) (bnd_val h h2) hl hhl (by omega)
  have hrep : Rep w F φ (.ref n (off + l) (hh - l)) (.slice (some ⟨b, if cap - off = l then o' else o' + l * z, none⟩) (hh - l) (cap - (off + l))) :=
   .ref g1 (by omega) hm (fun hlt => by rw [if_neg (by omega), hoff (by omega), hz, Nat.add_mul])
  refine ok_val h hd ?_ hrep hn
  simp only [execOp, ho, hv, hrun, Sem.run_bind, Result.andThen_ok, Sem.run_pure, Option.map_none, Option.map_some, addr_add]
  congr 2
  rw [show cap - off - l = cap - (off + l) by omega]
  split <;> rfl
theorem ok_sliceF (h : Sat w0 M0 F0 st a.tmps w φ F) (hd : dstOk o.dst st.n = true) {t e : TypeId} {x : Operand} {lo hi : Option Operand} {z by_ l hh : Nat} {rows : List (List V)} (ho : o.op = .slice t x lo hi none)
  (hx : st.ev x = .lst z rows) (ht : slTy P t = some (e, z, by_)) (h1 : bnd st lo 0 l) (h2 : bnd st hi rows.length hh) (hl : l ≤ hh) (hhl : hh ≤ rows.length)
  (hn : Next w0 M0 F0 (st.put o.dst (.lst z ((rows.drop l).take (hh - l)))) a.defers next) : o.wp P a w next Q := by
 have hr := hx ▸ h.ev x
 generalize hv : a.eval x = v at hr
 cases hr with
 | lst b o' g ha hc hm hz hM cell one sub =>
  rename_i ad cap
  have hlen : ((rows.drop l).take (hh - l)).length = hh - l := by simp; omega
  have hat : ∀ i j x, cellAt ((rows.drop l).take (hh - l)) i j = some x → cellAt rows (l + i) j = some x := fun i j x hx => by
   simp only [cellAt, List.getElem?_take, List.getElem?_drop] at hx ⊢
   split at hx
   ·exact hx
   ·simp at hx
  have hne : (rows.drop l).take (hh - l) ≠ [] → rows ≠ [] := fun hh e => by subst e; simp at hh
  have hrun := run_sliceOp (P := P) (w := w) (ad := ad) (len := rows.length) (cap := cap) ht (bnd_val h h1) (bnd_val h h2) hl hhl hc
  have hrep : Rep w F φ (.lst z ((rows.drop l).take (hh - l))) (.slice (if cap = l then ad else ad.map (·.add (l * z))) ((rows.drop l).take (hh - l)).length (cap - l)) := by
   refine .lst b (o' + l * z) (fun i j => g (l + i) j) (fun hne' => ?_) (by rw [hlen]; omega) (by omega) (fun r hr => hz r (List.mem_of_mem_drop (List.mem_of_mem_take hr)))
    (fun i j x hx => hM _ _ _ (hat i j x hx)) (fun i j x hx => ?_) (fun i j x hx => one _ _ _ (hat i j x hx)) (fun i j x hx => sub _ _ _ (hat i j x hx))
   ·have : 0 < ((rows.drop l).take (hh - l)).length := List.length_pos_iff.2 hne'
    rw [ha (hne hne'), if_neg (by omega)]
    simp [addr_add]
   ·rw [← cell _ _ _ (hat i j x hx)]
    congr 2
    rw [Nat.add_mul]; omega
  rw [hlen] at hrep
  refine ok_val h hd ?_ hrep hn
  simp only [execOp, ho, hv, hrun, Sem.run_bind, Result.andThen_ok, Sem.run_pure, Option.map_none]
end
end Go.Abs
