/- The abstract layer, part A10d. -/
import Derived.Test.YtbkmnbpgpklojaaGreatDoorAbsA10c
namespace Go.Abs
open Go
section
variable {P : Program} {w0 : World} {M0 : Base} {F0 : Nat → Prop} {st : St} {a : Act} {w : World} {φ : Env} {F : Nat → Prop} {o : Oper} {next : Act → World → Prop} {Q : Exit → Act → World → Prop}
theorem cellAt_lt {rows : List (List V)} {z i j : Nat} {x : V} (hr : ∀ r, r ∈ rows → r.length = z) (hx : cellAt rows i j = some x) : i < rows.length ∧ j < z := by
 unfold cellAt at hx
 cases hi : rows[i]? with
 | none => simp [hi] at hx
 | some r =>
  simp only [hi, Option.bind_some] at hx
  have := (List.getElem?_eq_some_iff.1 hx).1
  rw [hr r (List.mem_of_getElem? hi)] at this
  exact ⟨(List.getElem?_eq_some_iff.1 hi).1, this⟩
theorem ok_appendIn (h : Sat w0 M0 F0 st a.tmps w φ F) (hd : dstOk o.dst st.n = true) {t e : TypeId} {z by_ k : Nat} {s x : Operand} {n : Nm} {E : Entry} {rows2 : List (List V)}
    (ho : o.op = .call { callee := .builtin .append, args := #[s, x], argTypes := #[t, t] }) (ht : slTy P t = some (e, z, by_)) (hz0 : 0 < z) (hs : st.ev s = .ref n 0 k) (hE : st.hp n = some (some E)) (hEs : E.str = false) (hEz : E.z = z) (hEe : E.e = e)
    (hx : Src st (st.ev x) z rows2) (hk : k + rows2.length ≤ E.rows.length)
    (hn : Next w0 M0 F0 ((st.put o.dst (.ref n 0 (k + rows2.length))).up n (some { E with rows := E.rows.take k ++ rows2 ++ E.rows.drop (k + rows2.length) })) a.defers next) : o.wp P a w next Q := by
  subst hEz; subst hEe
  obtain ⟨ad, cap, news, hv, hlc, n1, n2, n3, n4, n5⟩ := src_cells h hz0 hx
  obtain ⟨inf, g1, g2, g3, g4⟩ := slTy_spec ht
  have hr := hs ▸ h.ev s
  generalize hsv : a.eval s = vs at hr
  obtain ⟨loc, h1, h2, h2f⟩ := h.obj n E hE
  let E' : Entry := { E with rows := E.rows.take k ++ rows2 ++ E.rows.drop (k + rows2.length) }
  have hlE : E'.rows.length = E.rows.length := by simp [E', List.length_append, List.length_take, List.length_drop]; omega
  have fin : ∀ {v : Value} {w' : World}, (Builtin.append_ #[t, t] o.type #[a.eval s, a.eval x]).run P w = .ok v w' → Turn w0 M0 st.hp w φ (upd st.hp n (some E')) w' φ (fun m => m = n) → Holds w' F φ E' loc → Rep w' F φ (.ref n 0 (k + rows2.length)) v → o.wp P a w next Q := fun {v w'} hrun htn hh hrep => by
    unfold Oper.wp
    rw [exec_append ho hrun]
    refine hn (a.put o.dst v) w' φ F (h.turn (st' := (st.put o.dst (.ref n 0 (k + rows2.length))).up n (some E')) (by simpa using htn) (by simp [size_put, h.slots]) (fun t => ?_) (fun m Em hm hEm => ?_)) (put_defers' _ _ _)
    · have := rep_put (w' := w') (F' := F) (φ' := φ) (x := .ref n 0 (k + rows2.length)) (v := v) hd h.slots (fun t => h.keep htn (h.rep t)) hrep t
      simpa using this
    · subst hm
      simp only [St.up_hp, upd, if_true, Option.some.injEq] at hEm
      subst hEm
      exact ⟨loc, h1, hh, h2f⟩
  have still : Turn w0 M0 st.hp w φ (upd st.hp n (some E')) w φ (fun m => m = n) :=
    { os := rfl, tape := rfl, output := rfl, size := Nat.le_refl _, frz := fun _ _ _ => rfl
      same := fun m hm => ⟨by simp [upd, hm], rfl⟩
      env := fun _ _ h => h
      blk := fun _ _ _ _ _ _ _ _ => rfl
      own := fun m Em z b' cap' hm _ hφ => .inr ⟨n, E, z, cap', rfl, hE, by subst hm; exact hφ⟩
      tinj := fun m m' _ _ _ _ _ _ _ hm hm' _ _ _ _ => hm.trans hm'.symm
      abs := fun m hm hE' => by subst hm; simp [upd] at hE' }
  by_cases hm0 : rows2 = []
  · subst hm0
    have hEE : E' = E := by
      have : E'.rows = E.rows := by simp [E']
      exact congrArg (fun r => ({ E with rows := r } : Entry)) this
    simp only [List.length_nil, Nat.add_zero] at hv hk
    cases hr with
    | refNil h3 =>
      have hrun := run_append_zero (P := P) (w := w) (ty := o.type) (base := none) (ad := ad) (n := 0) (c := 0) (c' := cap) ht (Nat.le_refl _)
      exact fin (w' := w) (by rw [hsv, hv]; exact hrun) still (by rw [hEE]; exact h2) (.refNil h3)
    | ref h3 hl hm hoff =>
      rename_i z' b cap0 o0
      have hrun := run_append_zero (P := P) (w := w) (ty := o.type) (base := some ⟨b, o0, none⟩) (ad := ad) (n := k) (c := cap0 - 0) (c' := cap) ht (by omega)
      exact fin (w' := w) (by rw [hsv, hv]; exact hrun) still (by rw [hEE]; exact h2) (.ref h3 (by simpa using hl) hm hoff)
  · obtain ⟨bx, ox, rfl, hnc⟩ := n2 hm0
    have hmpos : 0 < rows2.length := List.length_pos_iff.2 hm0
    have hn1' : news.length = rows2.length * inf.size := by rw [g3]; exact n1
    cases hr with
    | refNil h3 =>
      rw [h1] at h3
      obtain ⟨-, rfl⟩ : E.z = _ ∧ loc = Loc.nil := by simpa using h3
      have : E.rows = [] := h2
      rw [this, List.length_nil] at hk; omega
    | ref h3 hl hm hoff =>
      rename_i z' b cap0 o0
      rw [h1] at h3
      obtain ⟨rfl, rfl⟩ : E.z = z' ∧ loc = Loc.at b cap0 := by simpa using h3
      obtain ⟨arr, fz, q1, qs, q2, q3, q4, q5, q6, q7⟩ := h2
      obtain rfl := qs hEs
      have hroom : k + rows2.length ≤ cap0 := by omega
      obtain rfl : o0 = 0 := by rw [hoff (by omega)]; simp
      have hfit : k * inf.size + news.length ≤ arr.size := by rw [hn1', g3, q3, ← Nat.add_mul]; exact Nat.mul_le_mul_right _ hroom
      have hrun := run_append_room (P := P) w t o.type E.e inf g1 g2 b k cap0 arr q1 ⟨bx, ox, none⟩ rows2.length cap news hn1' hnc n3 hroom hfit
      generalize hw' : w.setRow b (arr.toList.take (k * inf.size) ++ news ++ arr.toList.drop (k * inf.size + news.length)).toArray = w' at hrun
      have hnew : w'.heap[b]? = some (.cells (arr.toList.take (k * inf.size) ++ news ++ arr.toList.drop (k * inf.size + news.length)).toArray E.e (0, 0)) := by
        rw [← hw']; exact setRow_heap w b arr _ E.e (0, 0) q1
      have hoth : ∀ q, q ≠ b → w'.heap[q]? = w.heap[q]? := fun q hq => by rw [← hw']; exact setRow_other w b q _ hq
      have hM : Mset st.hp φ b := ⟨n, E, E.z, cap0, hE, h1⟩
      have htn : Turn w0 M0 st.hp w φ (upd st.hp n (some E')) w' φ (fun m => m = n) :=
        { os := by rw [← hw']; rfl, tape := by rw [← hw']; rfl, output := by rw [← hw']; rfl, size := by rw [← hw']; simp
          frz := fun q _ hq => hoth q (fun e => hq (e ▸ hM))
          same := fun m hm => ⟨by simp [upd, hm], rfl⟩
          env := fun _ _ h => h
          blk := fun m Em z b' cap' hm hEm hφ => hoth b' (fun e => hm (h.inj m n Em E z E.z b cap' cap0 hEm hE (e ▸ hφ) h1))
          own := fun m Em z b' cap' hm _ hφ => .inr ⟨n, E, z, cap', rfl, hE, by subst hm; exact hφ⟩
          tinj := fun m m' _ _ _ _ _ _ _ hm hm' _ _ _ _ => hm.trans hm'.symm
          abs := fun m hm hE' => by subst hm; simp [upd] at hE' }
      have hrun' : (Builtin.append_ #[t, t] o.type #[a.eval s, a.eval x]).run P w = .ok (.slice (some ⟨b, 0, none⟩) (k + rows2.length) cap0) w' := by
        rw [hsv, hv, Nat.sub_zero]; exact hrun
      refine fin (w' := w') hrun' htn ?_ ?_
      · have e1 : inf.size = E.z := g3
        have hA : arr.toList.length = cap0 * E.z := by simp [q3]
        have hkz : k * E.z ≤ cap0 * E.z := Nat.mul_le_mul_right _ (by omega)
        have hkl : (k + rows2.length) * E.z ≤ cap0 * E.z := Nat.mul_le_mul_right _ hroom
        have hnl : k * inf.size + news.length = (k + rows2.length) * E.z := by rw [hn1', e1, ← Nat.add_mul]
        have hold1 : (arr.toList.take (k * inf.size)).length = (E.rows.take k).length * E.z := by
          rw [List.length_take, hA, List.length_take, e1, Nat.min_eq_left hkz, Nat.min_eq_left (by omega)]
        have c1 : ∀ i j x, cellAt (E.rows.take k) i j = some x → ∃ v, (arr.toList.take (k * inf.size))[i * E.z + j]? = some v ∧ v.oneCell' = true ∧ Rep w' F φ x v := fun i j x hx => by
          obtain ⟨hi, hx'⟩ := cellAt_take hx
          obtain ⟨v, v1, v2, v3⟩ := q7 i j x hx'
          have hj := (cellAt_lt q6 hx').2
          have hlt : i * E.z + j < k * inf.size := by
            rw [e1]
            have : (i + 1) * E.z ≤ k * E.z := Nat.mul_le_mul_right _ hi
            rw [Nat.add_mul] at this; omega
          exact ⟨v, by rw [List.getElem?_take, if_pos hlt, Array.getElem?_toList]; exact v1, v2, h.keep htn v3⟩
        have c2 : ∀ i j x, cellAt rows2 i j = some x → ∃ v, news[i * E.z + j]? = some v ∧ v.oneCell' = true ∧ Rep w' F φ x v := fun i j x hx => by
          obtain ⟨v, v1, v2, v3⟩ := n4 i j x hx
          exact ⟨v, v1, v2, h.keep htn v3⟩
        have c3 : ∀ i j x, cellAt (E.rows.drop (k + rows2.length)) i j = some x → ∃ v, (arr.toList.drop (k * inf.size + news.length))[i * E.z + j]? = some v ∧ v.oneCell' = true ∧ Rep w' F φ x v := fun i j x hx => by
          have hx' : cellAt E.rows (k + rows2.length + i) j = some x := by unfold cellAt at hx ⊢; rw [List.getElem?_drop] at hx; exact hx
          obtain ⟨v, v1, v2, v3⟩ := q7 _ j x hx'
          refine ⟨v, ?_, v2, h.keep htn v3⟩
          rw [List.getElem?_drop, Array.getElem?_toList, hnl, ← Nat.add_assoc, ← Nat.add_mul]
          exact v1
        refine ⟨_, (0, 0), hnew, fun _ => rfl, .inl rfl, ?_, by rw [hlE]; exact q4, hm, fun r hr => ?_, fun i j x hx => ?_⟩
        · rw [List.size_toArray, List.length_append, List.length_append, List.length_drop, hold1, hnl, hA, n1, List.length_take, Nat.min_eq_left (show k ≤ E.rows.length by omega), ← Nat.add_mul]
          show _ = cap0 * E.z
          omega
        · rcases List.mem_append.1 hr with hr | hr
          · rcases List.mem_append.1 hr with hr | hr
            · exact q6 r (List.mem_of_mem_take hr)
            · exact n5 r hr
          · exact q6 r (List.mem_of_mem_drop hr)
        · have c12 := cells_append (w := w') (F := F) (φ := φ) (rest := []) hold1 c1 c2
          simp only [List.append_nil] at c12
          obtain ⟨v, v1, v2, v3⟩ := cells_append (w := w') (F := F) (φ := φ) (rest := []) (olds := arr.toList.take (k * inf.size) ++ news) (rows := E.rows.take k ++ rows2) (by rw [List.length_append, hold1, n1, List.length_append, Nat.add_mul]) c12 c3 i j x hx
          rw [List.append_nil] at v1
          exact ⟨v, by rw [← Array.getElem?_toList]; exact v1, v2, v3⟩
      · have : Rep w' F φ (.ref n 0 (k + rows2.length)) (.slice (some ⟨b, 0, none⟩) (k + rows2.length) (cap0 - 0)) := .ref (z := E.z) (b := b) (cap := cap0) h1 (by omega) hm (fun _ => by simp)
        simpa using this
theorem run_sliceCap {w : World} {t e : TypeId} {z by_ : Nat} {ad : Option Addr} {len cap l hi : Nat} {lo hiv : Option Value} {k k' : IntKind} (ht : slTy P t = some (e, z, by_)) (h1 : lo = some (.int k (l : Int)))
  (h2 : hiv = some (.int k' (hi : Int))) (hl : l ≤ hi) (hh : hi ≤ cap) :
  (Instr.sliceAt t (.slice ad len cap) lo hiv none).run P w = .ok (.slice (if cap = l then ad else ad.map (·.add (l * z))) (hi - l) (cap - l)) w := by
 obtain ⟨inf, g1, g2, g3, -⟩ := slTy_spec ht
 have hb : (Instr.sliceBounds true len cap lo hiv none).run P w = .ok (l, hi, cap) w := by
  subst h1; subst h2
  simp [Instr.sliceBounds, Instr.sliceBound, asIntOf, hl, hh]
 simp [Instr.sliceAt, Instr.slice, run_underlying g1, hb, sizeOf, typeInfo, g2, g3]
theorem run_slice3 {w : World} {t e : TypeId} {z by_ : Nat} {ad : Option Addr} {len cap l hi m : Nat} {lo hiv mv : Option Value} {k k' k2 : IntKind} (ht : slTy P t = some (e, z, by_)) (h1 : lo = some (.int k (l : Int)))
  (h2 : hiv = some (.int k' (hi : Int))) (h3 : mv = some (.int k2 (m : Int))) (hl : l ≤ hi) (hh : hi ≤ m) (hm : m ≤ cap) :
  ∃ v, (Instr.sliceAt t (.slice ad len cap) lo hiv mv).run P w = .ok v w := by
 obtain ⟨inf, g1, g2, g3, -⟩ := slTy_spec ht
 have hb : (Instr.sliceBounds true len cap lo hiv mv).run P w = .ok (l, hi, m) w := by
  subst h1; subst h2; subst h3
  simp [Instr.sliceBounds, Instr.sliceBound, asIntOf, hl, hh, hm]
 exact ⟨_, by simp [Instr.sliceAt, Instr.slice, run_underlying g1, hb, sizeOf, typeInfo, g2, g3]; rfl⟩
theorem ok_sliceCap (h : Sat w0 M0 F0 st a.tmps w φ F) (hd : dstOk o.dst st.n = true) {t e : TypeId} {x y y' : Operand} {n : Nm} {off len z by_ l hh : Nat} {k k' : IntKind} {E : Entry} (ho : o.op = .slice t x (some y) (some y') none)
  (hx : st.ev x = .ref n off len) (hE : st.hp n = some (some E)) (ht : slTy P t = some (e, z, by_)) (hz : E.z = z) (h1 : st.ev y = .sc (.int k (l : Int))) (h2 : st.ev y' = .sc (.int k' (hh : Int))) (hl : l ≤ hh) (hhl : off + hh ≤ E.rows.length)
  (hn : Next w0 M0 F0 (st.put o.dst (.ref n (off + l) (hh - l))) a.defers next) : o.wp P a w next Q := by
 have hr := hx ▸ h.ev x
 generalize hv : a.eval x = v at hr
 obtain ⟨loc, g1, g2, -⟩ := h.obj n E hE
 have e1 := (h1 ▸ h.ev y).sc_inv.1
 have e2 := (h2 ▸ h.ev y').sc_inv.1
 cases hr with
 | refNil h5 =>
  rw [g1] at h5
  obtain ⟨-, rfl⟩ : E.z = _ ∧ loc = Loc.nil := by simpa using h5
  have hE0 : E.rows = [] := g2
  rw [hE0] at hhl; simp at hhl
  obtain rfl : hh = 0 := by omega
  obtain rfl : l = 0 := by omega
  refine ok_val h hd (v := .slice none 0 0) ?_ (by simpa using Rep.refNil (n := n) (z := E.z) g1) hn
  have hrun := run_sliceCap (P := P) (w := w) (ad := none) (len := 0) (cap := 0) (k := k) (k' := k') (lo := some (a.eval y)) (hiv := some (a.eval y')) ht (by rw [e1]) (by rw [e2]) hl (Nat.le_refl _)
  simp [execOp, ho, hv, hrun]
 | ref h5 hle hm hoff =>
  rename_i z' b cap o'
  rw [g1] at h5
  obtain ⟨rfl, rfl⟩ : E.z = z' ∧ loc = Loc.at b cap := by simpa using h5
  obtain ⟨arr, fz, q1, qs, q2, q3, q4, q5, q6, q7⟩ := g2
  have hrun := run_sliceCap (P := P) (w := w) (ad := some ⟨b, o', none⟩) (len := len) (cap := cap - off) (k := k) (k' := k') (lo := some (a.eval y)) (hiv := some (a.eval y')) ht (by rw [e1]) (by rw [e2]) hl (by omega)
  have hrep : Rep w F φ (.ref n (off + l) (hh - l)) (.slice (some ⟨b, if cap - off = l then o' else o' + l * z, none⟩) (hh - l) (cap - (off + l))) :=
   .ref g1 (by omega) hm (fun hlt => by rw [if_neg (by omega), hoff (by omega), hz, Nat.add_mul])
  refine ok_val h hd ?_ hrep hn
  simp only [execOp, ho, hv, hrun, Sem.run_bind, Result.andThen_ok, Sem.run_pure, Option.map_none, Option.map_some, addr_add]
  congr 2
  rw [show cap - off - l = cap - (off + l) by omega]
  split <;> rfl
theorem ok_slice3 (h : Sat w0 M0 F0 st a.tmps w φ F) (hd : dstOk o.dst st.n = true) {t e : TypeId} {x y y' y2 : Operand} {n : Nm} {off len z by_ l hh m : Nat} {k k' k2 : IntKind} {E : Entry} (ho : o.op = .slice t x (some y) (some y') (some y2))
  (hx : st.ev x = .ref n off len) (hE : st.hp n = some (some E)) (ht : slTy P t = some (e, z, by_)) (h1 : st.ev y = .sc (.int k (l : Int))) (h2 : st.ev y' = .sc (.int k' (hh : Int))) (h3 : st.ev y2 = .sc (.int k2 (m : Int))) (hl : l ≤ hh) (hhm : hh ≤ m) (hml : m ≤ len)
  (hn : Next w0 M0 F0 (st.put o.dst .undef) a.defers next) : o.wp P a w next Q := by
 have hr := hx ▸ h.ev x
 generalize hv : a.eval x = v at hr
 have e1 := (h1 ▸ h.ev y).sc_inv.1
 have e2 := (h2 ▸ h.ev y').sc_inv.1
 have e3 := (h3 ▸ h.ev y2).sc_inv.1
 cases hr with
 | refNil h5 =>
  obtain ⟨u, hrun⟩ := run_slice3 (P := P) (w := w) (ad := none) (len := 0) (cap := 0) (k := k) (k' := k') (k2 := k2) (lo := some (a.eval y)) (hiv := some (a.eval y')) (mv := some (a.eval y2)) ht (by rw [e1]) (by rw [e2]) (by rw [e3]) hl hhm hml
  refine ok_val h hd (v := u) ?_ .undef hn
  simp [execOp, ho, hv, hrun]
 | ref h5 hle hm hoff =>
  rename_i z' b cap o'
  obtain ⟨u, hrun⟩ := run_slice3 (P := P) (w := w) (ad := some ⟨b, o', none⟩) (len := len) (cap := cap - off) (k := k) (k' := k') (k2 := k2) (lo := some (a.eval y)) (hiv := some (a.eval y')) (mv := some (a.eval y2)) ht (by rw [e1]) (by rw [e2]) (by rw [e3]) hl hhm (by omega)
  refine ok_val h hd (v := u) ?_ .undef hn
  simp [execOp, ho, hv, hrun]
end
end Go.Abs
