/- The abstract layer, part A6. -/
import Derived.Test.YtbkmnbpgpklojaaGreatDoorAbsA5
namespace Go.Abs
open Go
section
variable {P : Program} {w0 : World} {M0 : Base} {F0 : Nat → Prop} {st : St} {a : Act} {w : World} {φ : Env} {F : Nat → Prop} {o : Oper} {next : Act → World → Prop} {Q : Exit → Act → World → Prop}
def Src (st : St) (x : V) (z : Nat) (rows : List (List V)) : Prop :=
 (rows = [] ∧ x.slen = some 0) ∨ x = .lst z rows ∨ ∃ n off len E, x = .ref n off len ∧ st.hp n = some (some E) ∧ E.z = z ∧ off + len ≤ E.rows.length ∧ rows = (E.rows.drop off).take len
theorem news_of {w : World} {F : Nat → Prop} {φ : Env} {z b o' : Nat} (hz0 : 0 < z) {rows : List (List V)} (hz : ∀ r, r ∈ rows → r.length = z) (g : Nat → Nat → Value)
  (hg : ∀ i j x, cellAt rows i j = some x → w.cell? ⟨b, o' + i * z + j, none⟩ = some (g i j) ∧ (g i j).oneCell' = true ∧ Rep w F φ x (g i j)) :
  ∃ news : List Value, news.length = rows.length * z ∧ (∀ j u, news[j]? = some u → w.cell? ((⟨b, o', none⟩ : Addr).add j) = some u) ∧ (∀ u, u ∈ news → Value.oneCell' u = true) ∧
   ∀ i j x, cellAt rows i j = some x → ∃ v, news[i * z + j]? = some v ∧ v.oneCell' = true ∧ Rep w F φ x v := by
 let news := (List.range (rows.length * z)).map fun k => g (k / z) (k % z)
 have hat : ∀ k, k < rows.length * z → ∃ x, cellAt rows (k / z) (k % z) = some x := fun k hk => by
  have h1 : k / z < rows.length := (Nat.div_lt_iff_lt_mul hz0).2 hk
  have h2 : k % z < z := Nat.mod_lt _ hz0
  have h3 := hz _ (List.getElem_mem h1)
  exact ⟨(rows[k / z])[k % z], by simp [cellAt, List.getElem?_eq_getElem h1, List.getElem?_eq_getElem (show k % z < (rows[k / z]).length by omega)]⟩
 have hk : ∀ k u, news[k]? = some u → k < rows.length * z ∧ g (k / z) (k % z) = u := fun k u hu => by
  simp only [news, List.getElem?_map, Option.map_eq_some_iff] at hu
  obtain ⟨k', hk', rfl⟩ := hu
  obtain ⟨h1, h2⟩ := List.getElem?_eq_some_iff.1 hk'
  simp at h1 h2
  subst h2
  exact ⟨h1, rfl⟩
 refine ⟨news, by simp [news], fun k u hu => ?_, fun u hu => ?_, fun i j x hx => ?_⟩
 ·obtain ⟨h1, rfl⟩ := hk k u hu
  obtain ⟨x, hx⟩ := hat k h1
  rw [addr_add, ← (hg _ _ x hx).1, Nat.add_assoc, Nat.mul_comm (k / z) z, Nat.div_add_mod]
 ·obtain ⟨k, hk', rfl⟩ := List.getElem_of_mem hu
  obtain ⟨h1, h2⟩ := hk k _ (List.getElem?_eq_getElem hk')
  obtain ⟨x, hx⟩ := hat k h1
  rw [← h2]
  exact (hg _ _ x hx).2.1
 ·have hi : i < rows.length := by
   unfold cellAt at hx
   cases hr : rows[i]? with
   | none => simp [hr] at hx
   | some r => exact (List.getElem?_eq_some_iff.1 hr).1
  have hj : j < z := by
   simp only [cellAt, List.getElem?_eq_getElem hi, Option.bind_some] at hx
   have := (List.getElem?_eq_some_iff.1 hx).1
   rwa [hz _ (List.getElem_mem hi)] at this
  have hlt : i * z + j < rows.length * z := by
   have : (i + 1) * z ≤ rows.length * z := Nat.mul_le_mul_right _ hi
   rw [Nat.add_mul] at this; omega
  have e1 : (i * z + j) / z = i := by rw [Nat.mul_comm, Nat.mul_add_div hz0, Nat.div_eq_of_lt hj, Nat.add_zero]
  have e2 : (i * z + j) % z = j := by rw [Nat.mul_comm, Nat.mul_add_mod, Nat.mod_eq_of_lt hj]
  refine ⟨g i j, ?_, (hg i j x hx).2⟩
  simp [news, hlt, e1, e2]
theorem src_cells (h : Sat w0 M0 F0 st a.tmps w φ F) {x : Operand} {z : Nat} (hz0 : 0 < z) {rows : List (List V)} (hs : Src st (st.ev x) z rows) :
    ∃ (ad : Option Addr) (cap : Nat) (news : List Value), a.eval x = .slice ad rows.length cap ∧ rows.length ≤ cap ∧ news.length = rows.length * z ∧ (rows ≠ [] → ∃ b o', ad = some ⟨b, o', none⟩ ∧ ∀ (j : Nat) u, news[j]? = some u → w.cell? ((⟨b, o', none⟩ : Addr).add j) = some u) ∧
      (∀ u, u ∈ news → Value.oneCell' u = true) ∧ (∀ i j x, cellAt rows i j = some x → ∃ v, news[i * z + j]? = some v ∧ v.oneCell' = true ∧ Rep w F φ x v) ∧ ∀ r, r ∈ rows → r.length = z := by
  have hr := h.ev x
  rcases hs with ⟨rfl, hs⟩ | hs | ⟨n, off, len, E, hs, hE, hEz, hlen, rfl⟩
  · obtain ⟨ad, cap, hv, _⟩ := rep_slen hr hs
    exact ⟨ad, cap, [], hv, Nat.zero_le _, by simp, fun h => absurd rfl h, by simp, fun i j x hx => by simp [cellAt] at hx, by simp⟩
  · rw [hs] at hr
    generalize hv : a.eval x = v at hr
    cases hr with
    | lst b o' g ha hc hm hz hM cell one sub =>
      rename_i ad cap
      obtain ⟨news, n1, n2, n3, n4⟩ := news_of (F := F) (φ := φ) hz0 hz g (fun i j x hx => ⟨cell i j x hx, one i j x hx, (sub i j x hx).mono (w' := w) (fun _ _ => rfl) (fun _ h => h) (fun _ _ h => by cases h)⟩)
      exact ⟨ad, cap, news, rfl, hc, n1, fun hne => ⟨b, o', ha hne, n2⟩, n3, n4, hz⟩
  · rw [hs] at hr
    generalize hv : a.eval x = v at hr
    obtain ⟨loc, h1, h2, h2f⟩ := h.obj n E hE
    cases hr with
    | refNil h3 => exact ⟨none, 0, [], by simp, by simp, by simp, by simp, by simp, fun i j x hx => by simp [cellAt] at hx, by simp⟩
    | ref h3 hl hm hoff =>
      rename_i z' b cap o'
      rw [h1] at h3
      obtain ⟨rfl, rfl⟩ : E.z = z' ∧ loc = Loc.at b cap := by simpa using h3
      obtain ⟨arr, fz, g1, gs, g2, g3, g4, g5, g6, g7⟩ := h2
      subst hEz
      have hrl : ((E.rows.drop off).take len).length = len := by simp; omega
      have hat : ∀ i j x, cellAt ((E.rows.drop off).take len) i j = some x → i < len ∧ cellAt E.rows (off + i) j = some x := fun i j x hx => by
        simp only [cellAt, List.getElem?_take, List.getElem?_drop] at hx ⊢
        split at hx
        · rename_i hi; exact ⟨hi, hx⟩
        · simp at hx
      obtain ⟨news, n1, n2, n3, n4⟩ := news_of (w := w) (F := F) (φ := φ) (b := b) (o' := o') hz0 (rows := (E.rows.drop off).take len) (fun r hr => g6 r (List.mem_of_mem_drop (List.mem_of_mem_take hr))) (fun i j => arr.getD ((off + i) * E.z + j) undef)
        (fun i j x hx => by
          obtain ⟨hi, hx'⟩ := hat i j x hx
          obtain ⟨v, v1, v2, v3⟩ := g7 _ _ _ hx'
          have e : arr.getD ((off + i) * E.z + j) undef = v := by simp [v1]
          rw [e]
          refine ⟨?_, v2, v3⟩
          rw [cell_of_row w b _ arr E.e fz g1, ← v1, hoff (by omega), Nat.add_mul])
      rw [hrl] at n1
      exact ⟨some ⟨b, o', none⟩, cap - off, news, by rw [hrl], by rw [hrl]; omega, by rw [hrl]; exact n1, fun _ => ⟨b, o', rfl, n2⟩, n3, n4, fun r hr => g6 r (List.mem_of_mem_drop (List.mem_of_mem_take hr))⟩
def killed (hp : Heap) (K : Option Nm) : Heap := match K with | some n => upd hp n none | none => hp
theorem turn_append {tm : Array Value} (h : Sat w0 M0 F0 st tm w φ F) {K : Option Nm} {nd : Nm} (hnd : st.hp nd = none) (hK : ∀ m, K = some m → ∃ E, st.hp m = some (some E)) {E' : Entry} {loc' : Loc} {w' : World}
    (h1 : w'.os = w.os) (h2 : w'.tape = w.tape) (h3 : w'.output = w.output) (h4 : w.heap.size ≤ w'.heap.size)
    (h5 : ∀ c, c < w.heap.size → (∀ m z cap, K = some m → φ m ≠ some (z, .at c cap)) → w'.heap[c]? = w.heap[c]?)
    (h6 : ∀ b cap, loc' = .at b cap → w.heap.size ≤ b ∨ ∃ m z cap', K = some m ∧ φ m = some (z, .at b cap')) :
    Turn w0 M0 st.hp w φ (upd (killed st.hp K) nd (some E')) w' (addName φ nd (E'.z, loc')) (fun m => m = nd ∨ K = some m) where
  os := h1
  tape := h2
  output := h3
  size := h4
  frz c hc hM := h5 c hc (fun m z cap hm hφ => by
    obtain ⟨E, hE⟩ := hK m hm
    exact hM ⟨m, E, z, cap, hE, hφ⟩)
  same m hm := by
    have hm1 : m ≠ nd := fun e => hm (.inl e)
    refine ⟨?_, by simp [addName, hm1]⟩
    simp only [upd, hm1, if_false]
    cases K with
    | none => rfl
    | some k => simp only [killed, upd]; rw [if_neg (fun e => hm (.inr (by rw [e])))]
  env m e he := by
    by_cases hm : m = nd
    · subst hm; rw [h.absent _ hnd] at he; cases he
    · simp [addName, hm, he]
  blk m E z b cap hm hE hφ := h5 b (h.lt ⟨m, E, z, cap, hE, hφ⟩) (fun k z' cap' hk hφk => by
    obtain ⟨Ek, hEk⟩ := hK k hk
    have := h.inj m k E Ek z z' b cap cap' hE hEk hφ hφk
    subst this
    exact hm (.inr hk))
  own m E z b cap hm hE hφ := by
    rcases hm with rfl | hm
    · simp only [addName, if_true, Option.some.injEq, Prod.mk.injEq] at hφ
      rcases h6 b cap hφ.2 with h7 | ⟨k, z', cap', hk, hφk⟩
      · exact .inl h7
      · obtain ⟨Ek, hEk⟩ := hK k hk
        exact .inr ⟨k, Ek, z', cap', .inr hk, hEk, hφk⟩
    · by_cases hmd : m = nd
      · subst hmd
        obtain ⟨Ek, hEk⟩ := hK m hm
        rw [hnd] at hEk; cases hEk
      · simp [upd, hmd, hm, killed] at hE
  tinj m m' E E2 z z' b cap cap' hm hm' hE hE2 _ _ := by
    have key : ∀ {q Eq}, (q = nd ∨ K = some q) → upd (killed st.hp K) nd (some E') q = some (some Eq) → q = nd := fun {q Eq} hq hEq => by
      rcases hq with rfl | hq
      · rfl
      · by_cases hqd : q = nd
        · exact hqd
        · simp [upd, hqd, hq, killed] at hEq
    exact (key hm hE).trans (key hm' hE2).symm
  abs m hm hE := by
    exfalso
    rcases hm with rfl | hm
    · simp [upd] at hE
    · by_cases hmd : m = nd
      · subst hmd; simp [upd] at hE
      · simp [upd, hmd, hm, killed] at hE
theorem cells_append {w F φ z} {rows rows2 : List (List V)} {olds news rest : List Value} (ho : olds.length = rows.length * z)
  (h1 : ∀ i j x, cellAt rows i j = some x → ∃ v, olds[i * z + j]? = some v ∧ v.oneCell' = true ∧ Rep w F φ x v)
  (h2 : ∀ i j x, cellAt rows2 i j = some x → ∃ v, news[i * z + j]? = some v ∧ v.oneCell' = true ∧ Rep w F φ x v) :
  ∀ i j x, cellAt (rows ++ rows2) i j = some x → ∃ v, (olds ++ news ++ rest)[i * z + j]? = some v ∧ v.oneCell' = true ∧ Rep w F φ x v := by
 intro i j x hx
 by_cases hi : i < rows.length
 ·simp only [cellAt, List.getElem?_append_left hi] at hx
  obtain ⟨v, hv, hh⟩ := h1 i j x hx
  exact ⟨v, by rw [List.append_assoc, List.getElem?_append_left (List.getElem?_eq_some_iff.1 hv).1]; exact hv, hh⟩
 ·simp only [cellAt, List.getElem?_append_right (show rows.length ≤ i by omega)] at hx
  obtain ⟨v, hv, hh⟩ := h2 (i - rows.length) j x hx
  refine ⟨v, ?_, hh⟩
  have e : i * z + j = rows.length * z + ((i - rows.length) * z + j) := by
   have : i * z = rows.length * z + (i - rows.length) * z := by rw [← Nat.add_mul]; congr 1; omega
   omega
  rw [e, List.append_assoc, List.getElem?_append_right (by omega), ho, Nat.add_sub_cancel_left, List.getElem?_append_left (List.getElem?_eq_some_iff.1 hv).1]
  exact hv
def Tgt (st : St) (x : V) (e : TypeId) (z : Nat) (rows : List (List V)) (K : Option Nm) : Prop :=
 (x = .nils ∧ rows = [] ∧ K = none) ∨ ∃ n E, x = .ref n 0 E.rows.length ∧ st.hp n = some (some E) ∧ E.mine = true ∧ E.str = false ∧ E.e = e ∧ E.z = z ∧ rows = E.rows ∧ K = some n
theorem run_append_zero {w : World} {t ty e : TypeId} {z by_ : Nat} {base ad : Option Addr} {n c c' : Nat} (ht : slTy P t = some (e, z, by_)) (hn : n ≤ c) :
  (Builtin.append_ #[t, t] ty #[.slice base n c, .slice ad 0 c']).run P w = .ok (.slice base n c) w := by
 obtain ⟨inf, g1, g2, g3, -⟩ := slTy_spec ht
 have hf : (Builtin.firstCells inf.size 0 (.slice ad 0 c')).run P w = .ok #[] w := by
  cases ad <;> simp [Builtin.firstCells, loadCells, loadCellsFrom]
 cases base <;> simp [Builtin.append_, run_underlying g1, sizeOf, typeInfo, g2, Builtin.lenOf, hn, hf, storeCells]
theorem exec_append {s x : Operand} {t : TypeId} {v : Value} {w' : World} (ho : o.op = .call { callee := .builtin .append, args := #[s, x], argTypes := #[t, t] })
  (hr : (Builtin.append_ #[t, t] o.type #[a.eval s, a.eval x]).run P w = .ok v w') : (execOp a.eval o).run P w = .ok (.value v) w' := by
 simp [execOp, ho, resolve, invoke, builtin, hr]
theorem ok_append (h : Sat w0 M0 F0 st a.tmps w φ F) {d : Nat} (_hdst : o.dst = some d) (hd : dstOk o.dst st.n = true) {t e : TypeId} {z by_ : Nat} {s x : Operand} {K : Option Nm} {rows rows2 : List (List V)} {zs : List Value}
    (ho : o.op = .call { callee := .builtin .append, args := #[s, x], argTypes := #[t, t] }) (hnm : st.hp (d, 0) = none) (ht : slTy P t = some (e, z, by_)) (hz : zeroC P e = some zs) (hzl : zs.length = z) (hz0 : 0 < z)
    (hb : by_ ≤ 128) (hs : Tgt st (st.ev s) e z rows K) (hx : Src st (st.ev x) z rows2) (hlen : rows.length + rows2.length ≤ 1099511627776)
    (hn : Next w0 M0 F0 { st.put o.dst (.ref (d, 0) 0 (rows.length + rows2.length)) with hp := upd (killed st.hp K) (d, 0) (some ⟨e, z, rows ++ rows2, false, true⟩) } a.defers next) : o.wp P a w next Q := by
  obtain ⟨ad, cap, news, hv, hlc, n1, n2, n3, n4, n5⟩ := src_cells h hz0 hx
  obtain ⟨inf, g1, g2, g3, g4⟩ := slTy_spec ht
  obtain ⟨inf', zv, g5, g6, g7⟩ := zeroC_spec hz
  rw [g2] at g5
  cases g5
  have hsz : zv.cells.size = z := by rw [← Array.length_toList, g7, hzl]
  have hK : ∀ m, K = some m → ∃ E, st.hp m = some (some E) := fun m hm => by
    rcases hs with ⟨_, _, hs⟩ | ⟨n, E, _, hE, _, _, _, _, _, hs⟩
    · rw [hs] at hm; cases hm
    · rw [hs] at hm; cases hm; exact ⟨E, hE⟩
  have hbytes : (rows.length + rows2.length) * inf.bytes ≤ 140737488355328 := by
    have h2 : (rows.length + rows2.length) * inf.bytes ≤ 1099511627776 * 128 := Nat.mul_le_mul hlen (by omega)
    omega
  let E' : Entry := ⟨e, z, rows ++ rows2, false, true⟩
  have hrow1 : ∀ r, r ∈ rows → r.length = z := fun r hr => by
    rcases hs with ⟨_, hs, _⟩ | ⟨n, E, _, hE, _, _, _, hEz, hs, _⟩
    · rw [hs] at hr; cases hr
    · obtain ⟨loc, _, h2, _⟩ := h.obj n E hE
      cases loc with
      | nil => have : E.rows = [] := h2; rw [hs, this] at hr; cases hr
      | «at» b c => obtain ⟨_, _, _, _, _, _, _, _, g6, _⟩ := h2; rw [hs] at hr; exact (g6 r hr).trans hEz
  have hrowz : ∀ r, r ∈ E'.rows → r.length = E'.z := fun r hr => by
    rcases List.mem_append.1 hr with hr | hr
    · exact hrow1 r hr
    · exact n5 r hr
  -- a new block
  have grown : ∀ (olds : List Value) (capO : Nat) (vs : Value), a.eval s = vs → capO < rows.length + rows2.length → olds.length = rows.length * z →
      (∀ i j x, cellAt rows i j = some x → ∃ v, olds[i * z + j]? = some v ∧ v.oneCell' = true ∧ Rep w F φ x v) →
      (Builtin.append_ #[t, t] o.type #[a.eval s, a.eval x]).run P w = .ok (.slice (some ⟨w.heap.size, 0, none⟩) (rows.length + rows2.length) (grownCap w (rows.length + rows2.length) capO e))
        (w.drew.alloc (.cells (olds.toArray ++ news.toArray ++ Builtin.zeroCells zv.cells (grownCap w (rows.length + rows2.length) capO e - (rows.length + rows2.length))) e)) → o.wp P a w next Q := by
    intro olds capO vs _ hlt hol hoc hrun
    have hge := grownCap_ge w (rows.length + rows2.length) capO e
    have hcm := grownCap_le_maxLen w (rows.length + rows2.length) capO e (by simp only [maxLen]; omega)
    generalize hcap : grownCap w (rows.length + rows2.length) capO e = capN at hrun hge hcm
    generalize hw' : w.drew.alloc (.cells (olds.toArray ++ news.toArray ++ Builtin.zeroCells zv.cells (capN - (rows.length + rows2.length))) e) = w' at hrun
    have hsize : w'.heap.size = w.heap.size + 1 := by rw [← hw']; simp
    have hold : ∀ c, c < w.heap.size → w'.heap[c]? = w.heap[c]? := fun c hc => by rw [← hw']; exact heap_alloc_old w.drew _ hc
    have hnew : w'.heap[w.heap.size]? = some (.cells (olds.toArray ++ news.toArray ++ Builtin.zeroCells zv.cells (capN - (rows.length + rows2.length))) e (0, 0)) := by rw [← hw']; exact heap_alloc_new w.drew _
    have htn := turn_append (w' := w') (E' := E') (loc' := .at w.heap.size capN) h hnm hK (by rw [← hw']; rfl) (by rw [← hw']; rfl) (by rw [← hw']; rfl) (by omega) (fun c hc _ => hold c hc)
      (fun b c hbc => by cases hbc; exact .inl (Nat.le_refl _))
    refine ok_turn h hd (exec_append ho hrun) htn ?_ (fun m Em hm hEm => ?_) hn
    · have : Rep w' F (addName φ (d, 0) (E'.z, .at w.heap.size capN)) (.ref (d, 0) 0 (rows.length + rows2.length)) (.slice (some ⟨w.heap.size, 0, none⟩) (rows.length + rows2.length) (capN - 0)) :=
        .ref (z := E'.z) (b := w.heap.size) (cap := capN) (by simp [addName]) (by omega) hcm (fun _ => by simp)
      simpa using this
    · have hmd : m = (d, 0) := by
        rcases hm with rfl | hm
        · rfl
        · by_cases hmd : m = (d, 0)
          · exact hmd
          · simp [upd, hmd, hm, killed] at hEm
      subst hmd
      simp only [upd, if_true, Option.some.injEq] at hEm
      subst hEm
      refine ⟨.at w.heap.size capN, by simp [addName], ⟨_, (0, 0), hnew, fun _ => rfl, .inl rfl, ?_, by simpa [E'] using hge, hcm, hrowz, fun i j x hx => ?_⟩, fun _ b c hb => by cases hb; exact h.size⟩
      · simp only [Array.size_append, List.size_toArray, hol, n1, size_zeroCells, hsz]
        show _ = capN * z
        rw [← Nat.add_mul, ← Nat.add_mul]
        congr 1
        omega
      · obtain ⟨v, v1, v2, v3⟩ := cells_append (w := w) (F := F) (φ := φ) (rest := (Builtin.zeroCells zv.cells (capN - (rows.length + rows2.length))).toList) hol hoc n4 i j x hx
        exact ⟨v, by rw [← Array.getElem?_toList]; simpa using v1, v2, h.keep htn v3⟩
  by_cases hm0 : rows2 = []
  · subst hm0
    simp only [List.length_nil, Nat.add_zero, List.append_nil] at hn hv
    have stay : ∀ (v : Value) (loc : Loc), (Builtin.append_ #[t, t] o.type #[a.eval s, a.eval x]).run P w = .ok v w →
        (∀ b cap, loc = .at b cap → ∃ m z cap', K = some m ∧ φ m = some (z, .at b cap')) → Holds w F φ ⟨e, z, rows, false, true⟩ loc → Fresh w0 ⟨e, z, rows, false, true⟩ loc →
        (∀ φ' M', φ' (d, 0) = some (z, loc) → Rep w M' φ' (.ref (d, 0) 0 rows.length) v) → o.wp P a w next Q := by
      intro v loc hrun hloc hholds hfr hrep
      have htn := turn_append (w' := w) (E' := ⟨e, z, rows, false, true⟩) (loc' := loc) h hnm hK rfl rfl rfl (Nat.le_refl _) (fun _ _ _ => rfl) (fun b c hbc => .inr (hloc b c hbc))
      refine ok_turn h hd (exec_append ho hrun) htn (hrep _ _ (by simp [addName])) (fun m Em hm hEm => ?_) hn
      have hmd : m = (d, 0) := by
        rcases hm with rfl | hm
        · rfl
        · by_cases hmd : m = (d, 0)
          · exact hmd
          · simp [upd, hmd, hm, killed] at hEm
      subst hmd
      simp only [upd, if_true, Option.some.injEq] at hEm
      subst hEm
      exact ⟨loc, by simp [addName], hholds.mono (h.ext htn) (fun _ h => h) htn.env (fun _ _ _ => rfl), hfr⟩
    have hr := h.ev s
    rcases hs with ⟨hs, rfl, rfl⟩ | ⟨n0, E, hs, hE, hEm, hEs, hEe, hEz, rfl, rfl⟩
    · rw [hs] at hr
      generalize hsv : a.eval s = vs at hr
      cases hr with
      | nils =>
        have hrun := run_append_zero (P := P) (w := w) (ty := o.type) (base := none) (ad := ad) (n := 0) (c := 0) (c' := cap) ht (Nat.le_refl _)
        exact stay _ .nil (by rw [hsv, hv]; exact hrun) (fun _ _ h => by cases h) rfl (fun _ _ _ h => by cases h) (fun φ' M' hφ => .refNil hφ)
    · rw [hs] at hr
      generalize hsv : a.eval s = vs at hr
      obtain ⟨loc, h1, h2, h2f⟩ := h.obj n0 E hE
      subst hEe; subst hEz
      have hEeta : (⟨E.e, E.z, E.rows, false, true⟩ : Entry) = E := by rw [← hEs, ← hEm]
      generalize hlenE : E.rows.length = lenE at hr
      cases hr with
      | refNil h3 =>
        have hrun := run_append_zero (P := P) (w := w) (ty := o.type) (base := none) (ad := ad) (n := 0) (c := 0) (c' := cap) ht (Nat.le_refl _)
        exact stay _ .nil (by rw [hsv, hv]; exact hrun) (fun _ _ h => by cases h) (List.eq_nil_of_length_eq_zero hlenE) (fun _ _ _ h => by cases h) (fun φ' M' hφ => by rw [hlenE]; exact .refNil hφ)
      | ref h3 hl hm hoff =>
        rename_i z' b cap0 o0
        rw [h1] at h3
        obtain ⟨rfl, rfl⟩ : E.z = z' ∧ loc = Loc.at b cap0 := by simpa using h3
        have hrun := run_append_zero (P := P) (w := w) (ty := o.type) (base := some ⟨b, o0, none⟩) (ad := ad) (n := lenE) (c := cap0 - 0) (c' := cap) ht (by omega)
        refine stay _ (.at b cap0) (by rw [hsv, hv]; exact hrun) (fun b' c' hbc => by cases hbc; exact ⟨n0, E.z, cap0, rfl, h1⟩) (by rw [hEeta]; exact h2) (fun hm b c hb => h2f hEm b c hb) (fun φ' M' hφ => ?_)
        rw [hlenE]
        exact .ref hφ hl hm hoff
  · obtain ⟨bx, ox, rfl, hnc⟩ := n2 hm0
    have hmpos : 0 < rows2.length := List.length_pos_iff.2 hm0
    have hn1' : news.length = rows2.length * inf.size := by rw [g3]; exact n1
    have nilCase : a.eval s = .slice none 0 0 → rows = [] → o.wp P a w next Q := by
      intro hsv hr0
      subst hr0
      refine grown [] 0 _ rfl (by simpa using hmpos) (by simp) (fun i j x hx => by simp [cellAt] at hx) ?_
      have hrun := run_append_nil (P := P) w t o.type e inf zv g1 g2 g6 ⟨bx, ox, none⟩ rows2.length cap news hn1' hnc hmpos (by simp at hlen; omega) (by simp at hbytes; omega)
      rw [hsv, hv]
      simpa using hrun
    have hr := h.ev s
    rcases hs with ⟨hs, hr0, _⟩ | ⟨n0, E, hs, hE, hEm, hEs, hEe, hEz, rfl, rfl⟩
    · rw [hs] at hr
      generalize hsv : a.eval s = vs at hr
      cases hr with
      | nils => exact nilCase hsv hr0
    · rw [hs] at hr
      generalize hsv : a.eval s = vs at hr
      obtain ⟨loc, h1, h2, h2f⟩ := h.obj n0 E hE
      subst hEe; subst hEz
      generalize hlenE : E.rows.length = lenE at hr
      cases hr with
      | refNil h3 => exact nilCase hsv (List.eq_nil_of_length_eq_zero hlenE)
      | ref h3 hl hm hoff =>
        rename_i z' b cap0 o0
        rw [h1] at h3
        obtain ⟨rfl, rfl⟩ : E.z = z' ∧ loc = Loc.at b cap0 := by simpa using h3
        obtain ⟨arr, fz, q1, qs, q2, q3, q4, q5, q6, q7⟩ := h2
        obtain rfl := qs hEs
        have holdl : (arr.toList.take (E.rows.length * E.z)).length = E.rows.length * E.z := by
          rw [List.length_take, Array.length_toList, q3]
          exact Nat.min_eq_left (Nat.mul_le_mul_right _ q4)
        have holdc : ∀ i j x, cellAt E.rows i j = some x → ∃ v, (arr.toList.take (E.rows.length * E.z))[i * E.z + j]? = some v ∧ v.oneCell' = true ∧ Rep w F φ x v := fun i j x hx => by
          obtain ⟨v, v1, v2, v3⟩ := q7 i j x hx
          have hi : i < E.rows.length := by
            unfold cellAt at hx
            cases hr : E.rows[i]? with
            | none => simp [hr] at hx
            | some r => exact (List.getElem?_eq_some_iff.1 hr).1
          have hj : j < E.z := by
            simp only [cellAt, List.getElem?_eq_getElem hi, Option.bind_some] at hx
            have := (List.getElem?_eq_some_iff.1 hx).1
            rwa [q6 _ (List.getElem_mem hi)] at this
          have hlt : i * E.z + j < E.rows.length * E.z := by
            have : (i + 1) * E.z ≤ E.rows.length * E.z := Nat.mul_le_mul_right _ hi
            rw [Nat.add_mul] at this; omega
          exact ⟨v, by rw [List.getElem?_take, if_pos hlt, Array.getElem?_toList]; exact v1, v2, v3⟩
        by_cases hroom : E.rows.length + rows2.length ≤ cap0
        · obtain rfl : o0 = 0 := by rw [hoff (by omega)]; simp
          have hrun := run_append_room (P := P) w t o.type E.e inf g1 g2 b E.rows.length cap0 arr q1 ⟨bx, ox, none⟩ rows2.length cap news hn1' hnc n3 hroom
            (by rw [hn1', g3, q3, ← Nat.add_mul]; exact Nat.mul_le_mul_right _ hroom)
          generalize hw' : w.setRow b (arr.toList.take (E.rows.length * inf.size) ++ news ++ arr.toList.drop (E.rows.length * inf.size + news.length)).toArray = w' at hrun
          have hnew : w'.heap[b]? = some (.cells (arr.toList.take (E.rows.length * inf.size) ++ news ++ arr.toList.drop (E.rows.length * inf.size + news.length)).toArray E.e (0, 0)) := by
            rw [← hw']; exact setRow_heap w b arr _ E.e (0, 0) q1
          have hoth : ∀ q, q ≠ b → w'.heap[q]? = w.heap[q]? := fun q hq => by rw [← hw']; exact setRow_other w b q _ hq
          have htn := turn_append (w' := w') (E' := E') (loc' := .at b cap0) h hnm hK (by rw [← hw']; rfl) (by rw [← hw']; rfl) (by rw [← hw']; rfl) (by rw [← hw']; simp)
            (fun c hc hne => hoth c (fun e => hne n0 E.z cap0 rfl (by rw [e]; exact h1))) (fun b' c' hbc => by cases hbc; exact .inr ⟨n0, E.z, cap0, rfl, h1⟩)
          have hrun' : (Builtin.append_ #[t, t] o.type #[a.eval s, a.eval x]).run P w = .ok (.slice (some ⟨b, 0, none⟩) (E.rows.length + rows2.length) cap0) w' := by
            rw [hsv, hv, ← hlenE, Nat.sub_zero]; exact hrun
          refine ok_turn h hd (exec_append ho hrun') htn ?_ (fun m Em hm' hEm => ?_) hn
          · have : Rep w' F (addName φ (d, 0) (E'.z, .at b cap0)) (.ref (d, 0) 0 (E.rows.length + rows2.length)) (.slice (some ⟨b, 0, none⟩) (E.rows.length + rows2.length) (cap0 - 0)) :=
              .ref (z := E'.z) (b := b) (cap := cap0) (by simp [addName]) (by omega) hm (fun _ => by simp)
            simpa using this
          · have hmd : m = (d, 0) := by
              rcases hm' with rfl | hm'
              · rfl
              · by_cases hmd : m = (d, 0)
                · exact hmd
                · have hmn : n0 = m := by simpa using hm'
                  subst hmn
                  simp [upd, hmd, killed] at hEm
            subst hmd
            simp only [upd, if_true, Option.some.injEq] at hEm
            subst hEm
            refine ⟨.at b cap0, by simp [addName], ⟨_, (0, 0), hnew, fun _ => rfl, .inl rfl, ?_, by simpa [E'] using hroom, hm, hrowz, fun i j x hx => ?_⟩, fun _ b' c hb => h2f hEm b' c hb⟩
            · have : (E.rows.length + rows2.length) * E.z ≤ cap0 * E.z := Nat.mul_le_mul_right _ hroom
              rw [Nat.add_mul] at this
              have e1 : inf.size = E.z := g3
              have hA : arr.toList.length = cap0 * E.z := by simp [q3]
              rw [List.size_toArray, List.length_append, List.length_append, List.length_drop, e1, holdl, n1, hA]
              show _ = cap0 * E.z
              omega
            · rw [g3]
              obtain ⟨v, v1, v2, v3⟩ := cells_append (w := w) (F := F) (φ := φ) (rest := arr.toList.drop (E.rows.length * E.z + news.length)) holdl holdc n4 i j x hx
              exact ⟨v, by rw [← Array.getElem?_toList]; exact v1, v2, h.keep htn v3⟩
        · refine grown (arr.toList.take (E.rows.length * E.z)) cap0 _ rfl (by omega) holdl holdc ?_
          have hrun := run_append_grow (P := P) w t o.type E.e inf zv g1 g2 g6 ⟨b, o0, none⟩ E.rows.length cap0 (arr.toList.take (E.rows.length * E.z)) (by rw [g3]; exact holdl)
            (fun j u hu => by
              have hj : j < E.rows.length * E.z := by rw [← holdl]; exact (List.getElem?_eq_some_iff.1 hu).1
              rw [List.getElem?_take, if_pos hj, Array.getElem?_toList] at hu
              have hc0 : 0 < cap0 := by
                rcases Nat.eq_zero_or_pos cap0 with h0 | h0
                · have : E.rows.length = 0 := by omega
                  rw [this] at hj; simp at hj
                · exact h0
              rw [addr_add, cell_of_row w b _ arr E.e (0, 0) q1, hoff hc0]
              simpa using hu) ⟨bx, ox, none⟩ rows2.length cap news hn1' hnc (by omega) (by omega) (growslice_fits (by omega) hbytes)
          rw [hsv, hv, ← hlenE, Nat.sub_zero]
          exact hrun
end
end Go.Abs
