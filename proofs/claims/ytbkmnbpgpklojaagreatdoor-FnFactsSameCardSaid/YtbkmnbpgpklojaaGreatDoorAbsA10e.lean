/- The abstract layer, part A10e. -/
import Derived.Test.YtbkmnbpgpklojaaGreatDoorAbsA10d
import Derived.Lib.AppendStr
namespace Go.Abs
open Go
section
variable {P : Program} {w0 : World} {M0 : Base} {F0 : Nat → Prop} {st : St} {a : Act} {w : World} {φ : Env} {F : Nat → Prop} {o : Oper} {next : Act → World → Prop} {Q : Exit → Act → World → Prop}
theorem run_append_zeroS {w : World} {t u ty e : TypeId} {z by_ : Nat} {s0 : ByteArray} {base : Option Addr} {n c : Nat} (ht : slTy P t = some (e, z, by_)) (hu : P.underlying u = some .string) (hs : s0.size = 0) (hn : n ≤ c) :
  (Builtin.append_ #[t, u] ty #[.slice base n c, .string s0]).run P w = .ok (.slice base n c) w := by
 obtain ⟨inf, g1, g2, g3, -⟩ := slTy_spec ht
 have hf := Lib.run_firstCells_string (P := P) w inf.size s0
 have h0 : Lib.strCells s0 = [] := List.eq_nil_of_length_eq_zero (by rw [Lib.strCells_length, hs])
 rw [hs, h0] at hf
 cases base <;> simp [Builtin.append_, run_underlying g1, run_underlying hu, sizeOf, typeInfo, g2, Builtin.lenOf, hs, hn, hf, storeCells]
theorem exec_appendS {s x : Operand} {t u : TypeId} {v : Value} {w' : World} (ho : o.op = .call { callee := .builtin .append, args := #[s, x], argTypes := #[t, u] })
  (hr : (Builtin.append_ #[t, u] o.type #[a.eval s, a.eval x]).run P w = .ok v w') : (execOp a.eval o).run P w = .ok (.value v) w' := by
 simp [execOp, ho, resolve, invoke, builtin, hr]
theorem ok_appendS (h : Sat w0 M0 F0 st a.tmps w φ F) {d : Nat} (_hdst : o.dst = some d) (hd : dstOk o.dst st.n = true) {t u e : TypeId} {z by_ : Nat} {s x : Operand} {K : Option Nm} {s0 : ByteArray} {rows rows2 : List (List V)} {zs : List Value} (hz1 : z = 1) (hr2 : rows2 = byteRows s0) (hu0 : isStr P u = true)
    (ho : o.op = .call { callee := .builtin .append, args := #[s, x], argTypes := #[t, u] }) (hnm : st.hp (d, 0) = none) (ht : slTy P t = some (e, z, by_)) (hz : zeroC P e = some zs) (hzl : zs.length = z) (hz0 : 0 < z)
    (hb : by_ ≤ 128) (hs : Tgt st (st.ev s) e z rows K) (hx : st.ev x = .sc (.string s0)) (hlen : rows.length + rows2.length ≤ 1099511627776)
    (hn : Next w0 M0 F0 { st.put o.dst (.ref (d, 0) 0 (rows.length + rows2.length)) with hp := upd (killed st.hp K) (d, 0) (some ⟨e, z, rows ++ rows2, false, true⟩) } a.defers next) : o.wp P a w next Q := by
  have hu := isStr_spec hu0
  have hlen2 : rows2.length = s0.size := by rw [hr2]; unfold byteRows; rw [List.length_map]; rfl
  have hv : a.eval x = .string s0 := by
    have hr := h.ev x
    rw [hx] at hr
    generalize a.eval x = v at hr
    cases hr; rfl
  obtain ⟨news, hnews⟩ : ∃ news, news = Lib.strCells s0 := ⟨_, rfl⟩
  have n1 : news.length = rows2.length * z := by rw [hnews, Lib.strCells_length, hlen2, hz1, Nat.mul_one]
  have n3 : ∀ u, u ∈ news → Value.oneCell' u = true := by rw [hnews]; exact Lib.strCells_oneCell s0
  have n4 : ∀ i j x, cellAt rows2 i j = some x → ∃ v, news[i * z + j]? = some v ∧ v.oneCell' = true ∧ Rep w F φ x v := fun i j y hy => by
    subst hr2 hz1 hnews
    unfold cellAt byteRows at hy
    rw [List.getElem?_map] at hy
    cases hb : s0.data.toList[i]? with
    | none => simp [hb] at hy
    | some c =>
      simp only [hb, Option.map_some, Option.bind_some] at hy
      cases j with
      | zero =>
        simp only [List.getElem?_cons_zero, Option.some.injEq] at hy
        subst hy
        exact ⟨.int .u8 c.toNat, by unfold Lib.strCells; rw [Nat.mul_one, Nat.add_zero, List.getElem?_map, hb]; rfl, rfl, .sc rfl⟩
      | succ j => simp at hy
  have n5 : ∀ r, r ∈ rows2 → r.length = z := fun r hr => by
    subst hr2 hz1
    obtain ⟨c, -, rfl⟩ := List.mem_map.1 hr
    rfl
  obtain ⟨inf, g1, g2, g3, g4⟩ := slTy_spec ht
  obtain ⟨inf', zv, g5, g6, g7⟩ := zeroC_spec hz
  rw [g2] at g5
  cases g5
  have hsz : zv.cells.size = z := by rw [← Array.length_toList, g7, hzl]
  have hK : ∀ m, K = some m → ∃ E, st.hp m = some (some E) := fun m hm => by
    rcases hs with ⟨_, _, hs⟩ | ⟨n, E, _, hE, _, _, _, _, _, hs⟩
    · rw [hs] at hm; cases hm
    · rw [hs] at hm; cases hm; exact ⟨E, hE⟩
  have hbytes : (rows.length + rows2.length) * inf.bytes ≤ 140737488355328 := by
    have h2 : (rows.length + rows2.length) * inf.bytes ≤ 1099511627776 * 128 := Nat.mul_le_mul hlen (by omega)
    omega
  let E' : Entry := ⟨e, z, rows ++ rows2, false, true⟩
  have hrow1 : ∀ r, r ∈ rows → r.length = z := fun r hr => by
    rcases hs with ⟨_, hs, _⟩ | ⟨n, E, _, hE, _, _, _, hEz, hs, _⟩
    · rw [hs] at hr; cases hr
    · obtain ⟨loc, _, h2, _⟩ := h.obj n E hE
      cases loc with
      | nil => have : E.rows = [] := h2; rw [hs, this] at hr; cases hr
      | «at» b c => obtain ⟨_, _, _, _, _, _, _, _, g6, _⟩ := h2; rw [hs] at hr; exact (g6 r hr).trans hEz
  have hrowz : ∀ r, r ∈ E'.rows → r.length = E'.z := fun r hr => by
    rcases List.mem_append.1 hr with hr | hr
    · exact hrow1 r hr
    · exact n5 r hr
  -- a new block
  have grown : ∀ (olds : List Value) (capO : Nat) (vs : Value), a.eval s = vs → capO < rows.length + rows2.length → olds.length = rows.length * z →
      (∀ i j x, cellAt rows i j = some x → ∃ v, olds[i * z + j]? = some v ∧ v.oneCell' = true ∧ Rep w F φ x v) →
      (Builtin.append_ #[t, u] o.type #[a.eval s, a.eval x]).run P w = .ok (.slice (some ⟨w.heap.size, 0, none⟩) (rows.length + rows2.length) (grownCap w (rows.length + rows2.length) capO e))
        (w.drew.alloc (.cells (olds.toArray ++ news.toArray ++ Builtin.zeroCells zv.cells (grownCap w (rows.length + rows2.length) capO e - (rows.length + rows2.length))) e)) → o.wp P a w next Q := by
    intro olds capO vs _ hlt hol hoc hrun
    have hge := grownCap_ge w (rows.length + rows2.length) capO e
    have hcm := grownCap_le_maxLen w (rows.length + rows2.length) capO e (by simp only [maxLen]; omega)
    generalize hcap : grownCap w (rows.length + rows2.length) capO e = capN at hrun hge hcm
    generalize hw' : w.drew.alloc (.cells (olds.toArray ++ news.toArray ++ Builtin.zeroCells zv.cells (capN - (rows.length + rows2.length))) e) = w' at hrun
    have hsize : w'.heap.size = w.heap.size + 1 := by rw [← hw']; simp
    have hold : ∀ c, c < w.heap.size → w'.heap[c]? = w.heap[c]? := fun c hc => by rw [← hw']; exact heap_alloc_old w.drew _ hc
    have hnew : w'.heap[w.heap.size]? = some (.cells (olds.toArray ++ news.toArray ++ Builtin.zeroCells zv.cells (capN - (rows.length + rows2.length))) e (0, 0)) := by rw [← hw']; exact heap_alloc_new w.drew _
    have htn := turn_append (w' := w') (E' := E') (loc' := .at w.heap.size capN) h hnm hK (by rw [← hw']; rfl) (by rw [← hw']; rfl) (by rw [← hw']; rfl) (by omega) (fun c hc _ => hold c hc)
      (fun b c hbc => by cases hbc; exact .inl (Nat.le_refl _))
    refine ok_turn h hd (exec_appendS ho hrun) htn ?_ (fun m Em hm hEm => ?_) hn
    · have : Rep w' F (addName φ (d, 0) (E'.z, .at w.heap.size capN)) (.ref (d, 0) 0 (rows.length + rows2.length)) (.slice (some ⟨w.heap.size, 0, none⟩) (rows.length + rows2.length) (capN - 0)) :=
        .ref (z := E'.z) (b := w.heap.size) (cap := capN) (by simp [addName]) (by omega) hcm (fun _ => by simp)
      simpa using this
    · have hmd : m = (d, 0) := by
        rcases hm with rfl | hm
        · rfl
        · by_cases hmd : m = (d, 0)
          · exact hmd
          · simp [upd, hmd, hm, killed] at hEm
      subst hmd
      simp only [upd, if_true, Option.some.injEq] at hEm
      subst hEm
      refine ⟨.at w.heap.size capN, by simp [addName], ⟨_, (0, 0), hnew, fun _ => rfl, .inl rfl, ?_, by simpa [E'] using hge, hcm, hrowz, fun i j x hx => ?_⟩, fun _ b c hb => by cases hb; exact h.size⟩
      · simp only [Array.size_append, List.size_toArray, hol, n1, size_zeroCells, hsz]
        show _ = capN * z
        rw [← Nat.add_mul, ← Nat.add_mul]
        congr 1
        omega
      · obtain ⟨v, v1, v2, v3⟩ := cells_append (w := w) (F := F) (φ := φ) (rest := (Builtin.zeroCells zv.cells (capN - (rows.length + rows2.length))).toList) hol hoc n4 i j x hx
        exact ⟨v, by rw [← Array.getElem?_toList]; simpa using v1, v2, h.keep htn v3⟩
  by_cases hm0 : rows2 = []
  · have hs00 : s0.size = 0 := by rw [← hlen2, hm0]; rfl
    subst hm0
    simp only [List.length_nil, Nat.add_zero, List.append_nil] at hn hv
    have stay : ∀ (v : Value) (loc : Loc), (Builtin.append_ #[t, u] o.type #[a.eval s, a.eval x]).run P w = .ok v w →
        (∀ b cap, loc = .at b cap → ∃ m z cap', K = some m ∧ φ m = some (z, .at b cap')) → Holds w F φ ⟨e, z, rows, false, true⟩ loc → Fresh w0 ⟨e, z, rows, false, true⟩ loc →
        (∀ φ' M', φ' (d, 0) = some (z, loc) → Rep w M' φ' (.ref (d, 0) 0 rows.length) v) → o.wp P a w next Q := by
      intro v loc hrun hloc hholds hfr hrep
      have htn := turn_append (w' := w) (E' := ⟨e, z, rows, false, true⟩) (loc' := loc) h hnm hK rfl rfl rfl (Nat.le_refl _) (fun _ _ _ => rfl) (fun b c hbc => .inr (hloc b c hbc))
      refine ok_turn h hd (exec_appendS ho hrun) htn (hrep _ _ (by simp [addName])) (fun m Em hm hEm => ?_) hn
      have hmd : m = (d, 0) := by
        rcases hm with rfl | hm
        · rfl
        · by_cases hmd : m = (d, 0)
          · exact hmd
          · simp [upd, hmd, hm, killed] at hEm
      subst hmd
      simp only [upd, if_true, Option.some.injEq] at hEm
      subst hEm
      exact ⟨loc, by simp [addName], hholds.mono (h.ext htn) (fun _ h => h) htn.env (fun _ _ _ => rfl), hfr⟩
    have hr := h.ev s
    rcases hs with ⟨hs, rfl, rfl⟩ | ⟨n0, E, hs, hE, hEm, hEs, hEe, hEz, rfl, rfl⟩
    · rw [hs] at hr
      generalize hsv : a.eval s = vs at hr
      cases hr with
      | nils =>
        have hrun := run_append_zeroS (P := P) (w := w) (ty := o.type) (base := none) (n := 0) (c := 0) ht hu hs00 (Nat.le_refl _)
        exact stay _ .nil (by rw [hsv, hv]; exact hrun) (fun _ _ h => by cases h) rfl (fun _ _ _ h => by cases h) (fun φ' M' hφ => .refNil hφ)
    · rw [hs] at hr
      generalize hsv : a.eval s = vs at hr
      obtain ⟨loc, h1, h2, h2f⟩ := h.obj n0 E hE
      subst hEe; subst hEz
      have hEeta : (⟨E.e, E.z, E.rows, false, true⟩ : Entry) = E := by rw [← hEs, ← hEm]
      generalize hlenE : E.rows.length = lenE at hr
      cases hr with
      | refNil h3 =>
        have hrun := run_append_zeroS (P := P) (w := w) (ty := o.type) (base := none) (n := 0) (c := 0) ht hu hs00 (Nat.le_refl _)
        exact stay _ .nil (by rw [hsv, hv]; exact hrun) (fun _ _ h => by cases h) (List.eq_nil_of_length_eq_zero hlenE) (fun _ _ _ h => by cases h) (fun φ' M' hφ => by rw [hlenE]; exact .refNil hφ)
      | ref h3 hl hm hoff =>
        rename_i z' b cap0 o0
        rw [h1] at h3
        obtain ⟨rfl, rfl⟩ : E.z = z' ∧ loc = Loc.at b cap0 := by simpa using h3
        have hrun := run_append_zeroS (P := P) (w := w) (ty := o.type) (base := some ⟨b, o0, none⟩) (n := lenE) (c := cap0 - 0) ht hu hs00 (by omega)
        refine stay _ (.at b cap0) (by rw [hsv, hv]; exact hrun) (fun b' c' hbc => by cases hbc; exact ⟨n0, E.z, cap0, rfl, h1⟩) (by rw [hEeta]; exact h2) (fun hm b c hb => h2f hEm b c hb) (fun φ' M' hφ => ?_)
        rw [hlenE]
        exact .ref hφ hl hm hoff
  · have hmpos : 0 < rows2.length := List.length_pos_iff.2 hm0
    have hn1' : news.length = rows2.length * inf.size := by rw [g3]; exact n1
    have hs1 : inf.size = 1 := by rw [g3, hz1]
    have nilCase : a.eval s = .slice none 0 0 → rows = [] → o.wp P a w next Q := by
      intro hsv hr0
      subst hr0
      refine grown [] 0 _ rfl (by simpa using hmpos) (by simp) (fun i j x hx => by simp [cellAt] at hx) ?_
      have hrun := run_append_nil_string (P := P) w t u o.type e inf zv g1 hu g2 g6 s0 (by omega) (by simp at hlen; omega) (by rw [← hlen2]; simp at hbytes; omega)
      rw [hsv, hv]
      rw [← hlen2] at hrun
      have ea : news.toArray = s0.data.map (fun b => Value.int .u8 b.toNat) := by rw [hnews]; unfold Lib.strCells; apply Array.ext'; simp
      simpa [ea] using hrun
    have hr := h.ev s
    rcases hs with ⟨hs, hr0, _⟩ | ⟨n0, E, hs, hE, hEm, hEs, hEe, hEz, rfl, rfl⟩
    · rw [hs] at hr
      generalize hsv : a.eval s = vs at hr
      cases hr with
      | nils => exact nilCase hsv hr0
    · rw [hs] at hr
      generalize hsv : a.eval s = vs at hr
      obtain ⟨loc, h1, h2, h2f⟩ := h.obj n0 E hE
      subst hEe; subst hEz
      generalize hlenE : E.rows.length = lenE at hr
      cases hr with
      | refNil h3 => exact nilCase hsv (List.eq_nil_of_length_eq_zero hlenE)
      | ref h3 hl hm hoff =>
        rename_i z' b cap0 o0
        rw [h1] at h3
        obtain ⟨rfl, rfl⟩ : E.z = z' ∧ loc = Loc.at b cap0 := by simpa using h3
        obtain ⟨arr, fz, q1, qs, q2, q3, q4, q5, q6, q7⟩ := h2
        obtain rfl := qs hEs
        have holdl : (arr.toList.take (E.rows.length * E.z)).length = E.rows.length * E.z := by
          rw [List.length_take, Array.length_toList, q3]
          exact Nat.min_eq_left (Nat.mul_le_mul_right _ q4)
        have holdc : ∀ i j x, cellAt E.rows i j = some x → ∃ v, (arr.toList.take (E.rows.length * E.z))[i * E.z + j]? = some v ∧ v.oneCell' = true ∧ Rep w F φ x v := fun i j x hx => by
          obtain ⟨v, v1, v2, v3⟩ := q7 i j x hx
          have hi : i < E.rows.length := by
            unfold cellAt at hx
            cases hr : E.rows[i]? with
            | none => simp [hr] at hx
            | some r => exact (List.getElem?_eq_some_iff.1 hr).1
          have hj : j < E.z := by
            simp only [cellAt, List.getElem?_eq_getElem hi, Option.bind_some] at hx
            have := (List.getElem?_eq_some_iff.1 hx).1
            rwa [q6 _ (List.getElem_mem hi)] at this
          have hlt : i * E.z + j < E.rows.length * E.z := by
            have : (i + 1) * E.z ≤ E.rows.length * E.z := Nat.mul_le_mul_right _ hi
            rw [Nat.add_mul] at this; omega
          exact ⟨v, by rw [List.getElem?_take, if_pos hlt, Array.getElem?_toList]; exact v1, v2, v3⟩
        by_cases hroom : E.rows.length + rows2.length ≤ cap0
        · obtain rfl : o0 = 0 := by rw [hoff (by omega)]; simp
          have hrun := Lib.run_append_room_string (P := P) w t u o.type E.e inf g1 hu g2 hs1 b E.rows.length cap0 arr q1 s0 (by rw [← hlen2]; exact hroom) (by rw [← hlen2, q3, hz1, Nat.mul_one]; exact hroom)
          rw [← hnews, ← hlen2] at hrun
          have eb : arr.toList.take E.rows.length ++ news ++ arr.toList.drop (E.rows.length + rows2.length) = arr.toList.take (E.rows.length * inf.size) ++ news ++ arr.toList.drop (E.rows.length * inf.size + news.length) := by rw [hs1, Nat.mul_one, hn1', hs1, Nat.mul_one]
          rw [eb] at hrun
          generalize hw' : w.setRow b (arr.toList.take (E.rows.length * inf.size) ++ news ++ arr.toList.drop (E.rows.length * inf.size + news.length)).toArray = w' at hrun
          have hnew : w'.heap[b]? = some (.cells (arr.toList.take (E.rows.length * inf.size) ++ news ++ arr.toList.drop (E.rows.length * inf.size + news.length)).toArray E.e (0, 0)) := by
            rw [← hw']; exact setRow_heap w b arr _ E.e (0, 0) q1
          have hoth : ∀ q, q ≠ b → w'.heap[q]? = w.heap[q]? := fun q hq => by rw [← hw']; exact setRow_other w b q _ hq
          have htn := turn_append (w' := w') (E' := E') (loc' := .at b cap0) h hnm hK (by rw [← hw']; rfl) (by rw [← hw']; rfl) (by rw [← hw']; rfl) (by rw [← hw']; simp)
            (fun c hc hne => hoth c (fun e => hne n0 E.z cap0 rfl (by rw [e]; exact h1))) (fun b' c' hbc => by cases hbc; exact .inr ⟨n0, E.z, cap0, rfl, h1⟩)
          have hrun' : (Builtin.append_ #[t, u] o.type #[a.eval s, a.eval x]).run P w = .ok (.slice (some ⟨b, 0, none⟩) (E.rows.length + rows2.length) cap0) w' := by
            rw [hsv, hv, ← hlenE, Nat.sub_zero]; exact hrun
          refine ok_turn h hd (exec_appendS ho hrun') htn ?_ (fun m Em hm' hEm => ?_) hn
          · have : Rep w' F (addName φ (d, 0) (E'.z, .at b cap0)) (.ref (d, 0) 0 (E.rows.length + rows2.length)) (.slice (some ⟨b, 0, none⟩) (E.rows.length + rows2.length) (cap0 - 0)) :=
              .ref (z := E'.z) (b := b) (cap := cap0) (by simp [addName]) (by omega) hm (fun _ => by simp)
            simpa using this
          · have hmd : m = (d, 0) := by
              rcases hm' with rfl | hm'
              · rfl
              · by_cases hmd : m = (d, 0)
                · exact hmd
                · have hmn : n0 = m := by simpa using hm'
                  subst hmn
                  simp [upd, hmd, killed] at hEm
            subst hmd
            simp only [upd, if_true, Option.some.injEq] at hEm
            subst hEm
            refine ⟨.at b cap0, by simp [addName], ⟨_, (0, 0), hnew, fun _ => rfl, .inl rfl, ?_, by simpa [E'] using hroom, hm, hrowz, fun i j x hx => ?_⟩, fun _ b' c hb => h2f hEm b' c hb⟩
            · have : (E.rows.length + rows2.length) * E.z ≤ cap0 * E.z := Nat.mul_le_mul_right _ hroom
              rw [Nat.add_mul] at this
              have e1 : inf.size = E.z := g3
              have hA : arr.toList.length = cap0 * E.z := by simp [q3]
              rw [List.size_toArray, List.length_append, List.length_append, List.length_drop, e1, holdl, n1, hA]
              show _ = cap0 * E.z
              omega
            · rw [g3]
              obtain ⟨v, v1, v2, v3⟩ := cells_append (w := w) (F := F) (φ := φ) (rest := arr.toList.drop (E.rows.length * E.z + news.length)) holdl holdc n4 i j x hx
              exact ⟨v, by rw [← Array.getElem?_toList]; exact v1, v2, h.keep htn v3⟩
        · refine grown (arr.toList.take (E.rows.length * E.z)) cap0 _ rfl (by omega) holdl holdc ?_
          have hrun := Lib.run_append_grow_string (P := P) w t u o.type E.e inf zv g1 hu g2 g6 ⟨b, o0, none⟩ E.rows.length cap0 (arr.toList.take (E.rows.length * E.z)) (by rw [g3]; exact holdl)
            (fun j u' hu' => by
              have hj : j < E.rows.length * E.z := by rw [← holdl]; exact (List.getElem?_eq_some_iff.1 hu').1
              rw [List.getElem?_take, if_pos hj, Array.getElem?_toList] at hu'
              have hc0 : 0 < cap0 := by
                rcases Nat.eq_zero_or_pos cap0 with h0 | h0
                · have : E.rows.length = 0 := by omega
                  rw [this] at hj; simp at hj
                · exact h0
              rw [addr_add, cell_of_row w b _ arr E.e (0, 0) q1, hoff hc0]
              simpa using hu') s0 (by omega) (by omega) (growslice_fits (by omega) (by rw [← hlen2]; exact hbytes))
          rw [← hnews, ← hlen2] at hrun
          rw [hsv, hv, ← hlenE, Nat.sub_zero]
          exact hrun
end
end Go.Abs
