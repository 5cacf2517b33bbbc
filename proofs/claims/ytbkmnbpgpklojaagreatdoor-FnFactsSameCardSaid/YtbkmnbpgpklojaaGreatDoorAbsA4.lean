/- The abstract layer, part A4. -/
import Derived.Test.YtbkmnbpgpklojaaGreatDoorAbsA3
namespace Go.Abs
open Go
section
variable {P : Program} {w0 : World} {M0 : Base} {F0 : Nat → Prop} {st : St} {a : Act} {w : World} {φ : Env} {F : Nat → Prop} {o : Oper} {next : Act → World → Prop} {Q : Exit → Act → World → Prop}
def addName (φ : Env) (n : Nm) (e : Nat × Loc) : Env := fun m => if m = n then some e else φ m
theorem new_obj {tm : Array Value} (h : Sat w0 M0 F0 st tm w φ F) {n : Nm} (hn : st.hp n = none) {E : Entry} {arr : Array Value} {fz : Nat × Nat} {cap : Nat} {w' : World}
  (h1 : w'.os = w.os) (h2 : w'.tape = w.tape) (h3 : w'.output = w.output) (h4 : w'.heap.size = w.heap.size + 1) (h5 : ∀ c, c < w.heap.size → w'.heap[c]? = w.heap[c]?)
  (hnew : w'.heap[w.heap.size]? = some (.cells arr E.e fz)) (hs : E.str = false → fz = (0, 0)) (hf : fz = (0, 0) ∨ arr.size ≤ fz.1) (hsz : arr.size = cap * E.z)
  (hle : E.rows.length ≤ cap) (hm : cap ≤ maxLen) (hz : ∀ r, r ∈ E.rows → r.length = E.z)
  (hc : ∀ i j x, cellAt E.rows i j = some x → ∃ v, arr[i * E.z + j]? = some v ∧ v.oneCell' = true ∧ Rep w F φ x v) :
  Turn w0 M0 st.hp w φ (upd st.hp n (some E)) w' (addName φ n (E.z, .at w.heap.size cap)) (fun m => m = n) ∧
  ∀ m E', m = n → upd st.hp n (some E) m = some (some E') → ∃ loc, addName φ n (E.z, .at w.heap.size cap) m = some (E'.z, loc) ∧
   Holds w' F (addName φ n (E.z, .at w.heap.size cap)) E' loc ∧ Fresh w0 E' loc := by
 have ht := Turn.alloc h n hn E cap h1 h2 h3 h4 h5
 refine ⟨ht, fun m E' hm' hE' => ?_⟩
 subst hm'
 simp only [upd, if_true, Option.some.injEq] at hE'
 subst hE'
 refine ⟨.at w.heap.size cap, by simp [addName], ⟨arr, fz, hnew, hs, hf, hsz, hle, hm, hz, fun i j x hx => ?_⟩, fun _ b c hb => by cases hb; exact h.size⟩
 obtain ⟨v, hv, ho, hr⟩ := hc i j x hx
 exact ⟨v, hv, ho, h.keep ht hr⟩
theorem ok_new_ptr (h : Sat w0 M0 F0 st a.tmps w φ F) (hd : dstOk o.dst st.n = true) {n : Nm} (hn : st.hp n = none) {E : Entry} {arr : Array Value} {w' : World}
  (hr : (execOp a.eval o).run P w = .ok (.value (.pointer (some ⟨w.heap.size, 0, none⟩))) w')
  (h1 : w'.os = w.os) (h2 : w'.tape = w.tape) (h3 : w'.output = w.output) (h4 : w'.heap.size = w.heap.size + 1) (h5 : ∀ c, c < w.heap.size → w'.heap[c]? = w.heap[c]?)
  (hnew : w'.heap[w.heap.size]? = some (.cells arr E.e (0, 0))) (hsz : arr.size = 1 * E.z)
  (hle : E.rows.length ≤ 1) (hz : ∀ r, r ∈ E.rows → r.length = E.z)
  (hc : ∀ i j x, cellAt E.rows i j = some x → ∃ v, arr[i * E.z + j]? = some v ∧ v.oneCell' = true ∧ Rep w F φ x v)
  (hnx : Next w0 M0 F0 ((st.put o.dst (.ptr n 0 0)).up n (some E)) a.defers next) : o.wp P a w next Q := by
 obtain ⟨ht, hobj⟩ := new_obj (cap := 1) h hn h1 h2 h3 h4 h5 hnew (fun _ => rfl) (.inl rfl) hsz hle (by decide) hz hc
 refine ok_turn h hd hr ht ?_ hobj (by simpa [St.up] using hnx)
 have : Rep w' F (addName φ n (E.z, .at w.heap.size 1)) (.ptr n 0 0) (.pointer (some ⟨w.heap.size, 0 * E.z + 0, none⟩)) :=
  .ptr (z := E.z) (b := w.heap.size) (cap := 1) (by simp [addName])
 simpa using this
theorem ok_new_ref (h : Sat w0 M0 F0 st a.tmps w φ F) (hd : dstOk o.dst st.n = true) {n : Nm} (hn : st.hp n = none) {E : Entry} {arr : Array Value} {fz : Nat × Nat} {len cap : Nat} {w' : World}
  (hr : (execOp a.eval o).run P w = .ok (.value (.slice (some ⟨w.heap.size, 0, none⟩) len cap)) w')
  (h1 : w'.os = w.os) (h2 : w'.tape = w.tape) (h3 : w'.output = w.output) (h4 : w'.heap.size = w.heap.size + 1) (h5 : ∀ c, c < w.heap.size → w'.heap[c]? = w.heap[c]?)
  (hnew : w'.heap[w.heap.size]? = some (.cells arr E.e fz)) (hs : E.str = false → fz = (0, 0)) (hf : fz = (0, 0) ∨ arr.size ≤ fz.1) (hsz : arr.size = cap * E.z)
  (hle : E.rows.length = len) (hlc : len ≤ cap) (hm : cap ≤ maxLen) (hz : ∀ r, r ∈ E.rows → r.length = E.z)
  (hc : ∀ i j x, cellAt E.rows i j = some x → ∃ v, arr[i * E.z + j]? = some v ∧ v.oneCell' = true ∧ Rep w F φ x v)
  (hnx : Next w0 M0 F0 ((st.put o.dst (.ref n 0 len)).up n (some E)) a.defers next) : o.wp P a w next Q := by
 obtain ⟨ht, hobj⟩ := new_obj (cap := cap) h hn h1 h2 h3 h4 h5 hnew hs hf hsz (by omega) hm hz hc
 refine ok_turn h hd hr ht ?_ hobj (by simpa [St.up] using hnx)
 have : Rep w' F (addName φ n (E.z, .at w.heap.size cap)) (.ref n 0 len) (.slice (some ⟨w.heap.size, 0, none⟩) len (cap - 0)) :=
  .ref (z := E.z) (b := w.heap.size) (cap := cap) (by simp [addName]) (by omega) hm (fun _ => by simp)
 simpa using this
theorem cellAt_one {row : List V} {i j : Nat} {x : V} (h : cellAt [row] i j = some x) : i = 0 ∧ row[j]? = some x := by
 cases i with
 | zero => exact ⟨rfl, by simpa [cellAt] using h⟩
 | succ i => simp [cellAt] at h
theorem ok_alloc (h : Sat w0 M0 F0 st a.tmps w φ F) {d : Nat} (_hdst : o.dst = some d) (hd : dstOk o.dst st.n = true) {t : TypeId} {zs : List Value} (ho : o.op = .alloc t) (hn : st.hp (d, 0) = none)
  (hz : zeroC P t = some zs) (h1 : zs.all (·.oneCell') = true)
  (hnx : Next w0 M0 F0 ((st.put o.dst (.ptr (d, 0) 0 0)).up (d, 0) (some ⟨t, zs.length, [zs.map cv1], false, true⟩)) a.defers next) : o.wp P a w next Q := by
 obtain ⟨i, v, g1, g2, g3⟩ := zeroC_spec hz
 refine ok_new_ptr (E := ⟨t, zs.length, [zs.map cv1], false, true⟩) (arr := v.cells) (w' := w.alloc (.cells v.cells t)) h hd hn ?_ rfl rfl rfl (by simp) (fun _ hc => heap_alloc_old w _ hc) (heap_alloc_new w _)
  (by simp [← g3]) (by simp) (by simp) (fun i j x hx => ?_) hnx
 ·simp [execOp, ho, Instr.alloc, zeroValue, typeInfo, g1, g2, newVar, newRow]
 ·obtain ⟨rfl, hx⟩ := cellAt_one hx
  have hx : (zs.map cv1)[j]? = some x := hx
  rw [List.getElem?_map, Option.map_eq_some_iff] at hx
  obtain ⟨u, hu, rfl⟩ := hx
  refine ⟨u, ?_, ?_, rep_cv1 u⟩
  ·simp only [Nat.zero_mul, Nat.zero_add]
   rw [← g3] at hu
   simpa using hu
  ·exact List.all_eq_true.1 h1 u (List.mem_of_getElem? hu)
theorem ok_box (h : Sat w0 M0 F0 st a.tmps w φ F) {d : Nat} (_hdst : o.dst = some d) (hd : dstOk o.dst st.n = true) {t : TypeId} {x : Operand} {cs : List V} (ho : o.op = .box t x) (hn : st.hp (d, 0) = none)
  (hx : (st.ev x).cells = some cs)
  (hnx : Next w0 M0 F0 ((st.put o.dst (.ptr (d, 0) 0 0)).up (d, 0) (some ⟨t, cs.length, [cs], false, true⟩)) a.defers next) : o.wp P a w next Q := by
 obtain ⟨g1, g2, g3⟩ := rep_cells (h.ev x) hx
 refine ok_new_ptr (E := ⟨t, cs.length, [cs], false, true⟩) (arr := (a.eval x).cells) (w' := w.alloc (.cells (a.eval x).cells t)) h hd hn ?_ rfl rfl rfl (by simp) (fun _ hc => heap_alloc_old w _ hc) (heap_alloc_new w _)
  (by simp at g1; simp [g1]) (by simp) (by simp) (fun i j y hy => ?_) hnx
 ·simp [execOp, ho, Instr.box, newVar, newRow]
 ·obtain ⟨rfl, hy⟩ := cellAt_one hy
  have hj : j < (a.eval x).cells.toList.length := by rw [g1]; exact (List.getElem?_eq_some_iff.1 hy).1
  have hu : (a.eval x).cells.toList[j]? = some (a.eval x).cells.toList[j] := List.getElem?_eq_getElem hj
  exact ⟨_, by simp, g3 _ (List.getElem_mem hj), g2 j y _ hy hu⟩
def RowRep (w : World) (F : Nat → Prop) (φ : Env) (row : List V) (vs : List Value) : Prop :=
 row.length = vs.length ∧ (∀ (i : Nat) x v, row[i]? = some x → vs[i]? = some v → Rep w F φ x v) ∧ ∀ v, v ∈ vs → Value.oneCell' v = true
theorem rows_flat {w F φ z} : ∀ {rows : List (List V)} {vss : List (List Value)}, rows.length = vss.length → (∀ (i : Nat) r vs, rows[i]? = some r → vss[i]? = some vs → RowRep w F φ r vs) → (∀ r, r ∈ rows → r.length = z) →
  vss.flatten.length = rows.length * z ∧ ∀ i j x, cellAt rows i j = some x → ∃ v, vss.flatten[i * z + j]? = some v ∧ v.oneCell' = true ∧ Rep w F φ x v
 | [], [], _, _, _ => ⟨by simp, fun i j x hx => by simp [cellAt] at hx⟩
 | [], _ :: _, h, _, _ => by simp at h
 | _ :: _, [], h, _, _ => by simp at h
 | r :: rows, vs :: vss, hl, hr, hz => by
  have h0 := hr 0 r vs rfl rfl
  have hr0 : r.length = z := hz r (by simp)
  have hv0 : vs.length = z := h0.1 ▸ hr0
  obtain ⟨g1, g2⟩ := rows_flat (rows := rows) (vss := vss) (w := w) (F := F) (φ := φ) (z := z) (by simpa using hl) (fun i r vs h1 h2 => hr (i + 1) r vs (by simpa using h1) (by simpa using h2)) (fun r hr' => hz r (by simp [hr']))
  refine ⟨by simp [g1, hv0, Nat.add_mul]; omega, fun i j x hx => ?_⟩
  cases i with
  | zero =>
   simp only [cellAt, List.getElem?_cons_zero, Option.bind_some] at hx
   have hj : j < vs.length := by rw [← h0.1]; exact (List.getElem?_eq_some_iff.1 hx).1
   refine ⟨vs[j], by simp [List.getElem?_append, hj], h0.2.2 _ (List.getElem_mem hj), h0.2.1 j x _ hx (List.getElem?_eq_getElem hj)⟩
  | succ i =>
   obtain ⟨v, hv, ho, hrep⟩ := g2 i j x (by simpa [cellAt] using hx)
   refine ⟨v, ?_, ho, hrep⟩
   rw [List.flatten_cons, List.getElem?_append_right (by rw [hv0, Nat.add_mul]; omega), hv0]
   rw [show (i + 1) * z + j - z = i * z + j by rw [Nat.add_mul]; omega]
   exact hv
theorem foldl_set (off : Nat) : ∀ (l : List Value) (n : Nat) (arr : Array Value), off + n + l.length ≤ arr.size →
  (l.zipIdx n).foldl (fun cs p => cs.setIfInBounds (off + p.2) p.1) arr = (arr.toList.take (off + n) ++ l ++ arr.toList.drop (off + n + l.length)).toArray
 | [], n, arr, _ => by simp
 | v :: l, n, arr, h => by
  simp only [List.length_cons] at h
  rw [List.zipIdx_cons, List.foldl_cons, foldl_set off l (n + 1) _ (by simp; omega)]
  have hlt : off + n < arr.toList.length := by simp; omega
  congr 1
  simp only [Array.toList_setIfInBounds]
  rw [show off + (n + 1) = off + n + 1 by omega, List.take_add_one, List.getElem?_set_self hlt, List.take_set_of_le (Nat.le_refl _), List.drop_set_of_lt (by omega)]
  simp
  omega
theorem setAt_eq (off : Nat) (cells v : Array Value) (h : off + v.size ≤ cells.size) :
  (v.zipIdx.foldl (fun cs (x : Value × Nat) => cs.setIfInBounds (off + x.2) x.1) cells) = (cells.toList.take off ++ v.toList ++ cells.toList.drop (off + v.size)).toArray := by
 rw [← Array.foldl_toList, Array.toList_zipIdx]
 simpa using foldl_set off v.toList 0 cells (by simpa using h)
def splice {α : Type} (l : List α) (off : Nat) (cs : List α) : List α := l.take off ++ cs ++ l.drop (off + cs.length)
def fillV (place : Nat → Option (Nat × Nat)) (cells : List V) : List (Nat × List V) → Option (List V)
 | [] => some cells
 | (i, cs) :: rest =>
  match place i with
  | none => none
  | some (off, size) => if cs.length = size ∧ off + cs.length ≤ cells.length then fillV place (splice cells off cs) rest else none
theorem RowRep.splice {w F φ} {row cs : List V} {vs us : List Value} {off : Nat} (h : RowRep w F φ row vs) (hc : RowRep w F φ cs us) (_hb : off + cs.length ≤ row.length) :
  RowRep w F φ (splice row off cs) (vs.take off ++ us ++ vs.drop (off + us.length)) := by
 obtain ⟨h1, h2, h3⟩ := h
 obtain ⟨c1, c2, c3⟩ := hc
 refine ⟨by simp [Abs.splice, h1, c1], fun i x v hx hv => ?_, fun v hv => ?_⟩
 ·simp only [Abs.splice, List.append_assoc, List.getElem?_append, List.length_take, List.getElem?_take, List.getElem?_drop, h1, c1] at hx hv
  split at hx
  ·rename_i hi
   simp only [hi, if_true] at hv
   split at hx
   ·rename_i hi2; simp only [hi2, if_true] at hv; exact h2 _ _ _ hx hv
   ·cases hx
  ·rename_i hi
   simp only [hi, if_false] at hv
   split at hx
   ·rename_i hi2; simp only [hi2, if_true] at hv; exact c2 _ _ _ hx hv
   ·rename_i hi2; simp only [hi2, if_false] at hv; exact h2 _ _ _ hx hv
 ·simp only [List.mem_append] at hv
  rcases hv with (hv | hv) | hv
  ·exact h3 v (List.mem_of_mem_take hv)
  ·exact c3 v hv
  ·exact h3 v (List.mem_of_mem_drop hv)
theorem fill_ok {w F φ} {place : Nat → Option (Nat × Nat)} : ∀ {parts : List (Nat × List V)} {vs : List (Nat × Value)} {cells : List V} {arr : Array Value} {out : List V},
  parts.length = vs.length → (∀ (i : Nat) p v, parts[i]? = some p → vs[i]? = some v → p.1 = v.1 ∧ RowRep w F φ p.2 v.2.cells.toList) → RowRep w F φ cells arr.toList →
  fillV place cells parts = some out → ∃ arr', Instr.fill place arr vs = some arr' ∧ RowRep w F φ out arr'.toList
 | [], [], cells, arr, out, _, _, hr, ho => by
  simp only [fillV, Option.some.injEq] at ho
  exact ⟨arr, rfl, ho ▸ hr⟩
 | [], _ :: _, _, _, _, h, _, _, _ => by simp at h
 | _ :: _, [], _, _, _, h, _, _, _ => by simp at h
 | (i, cs) :: parts, (i', v) :: vs, cells, arr, out, hl, hp, hr, ho => by
  obtain ⟨e, hcs⟩ := hp 0 _ _ rfl rfl
  simp only at e hcs
  subst e
  simp only [fillV] at ho
  cases hpl : place i with
  | none => simp [hpl] at ho
  | some p =>
   obtain ⟨off, size⟩ := p
   simp only [hpl] at ho
   split at ho
   ·rename_i hb
    have hlen : v.cells.size = cs.length := by rw [← Array.length_toList, ← hcs.1]
    have harr : cells.length = arr.size := by rw [hr.1, Array.length_toList]
    have e2 : arr.toList.take off ++ v.cells.toList ++ arr.toList.drop (off + v.cells.toList.length) = (v.cells.zipIdx.foldl (fun cs (x : Value × Nat) => cs.setIfInBounds (off + x.2) x.1) arr).toList := by
     rw [setAt_eq off arr v.cells (by omega)]; simp
    obtain ⟨arr', g1, g2⟩ := fill_ok (w := w) (F := F) (φ := φ) (place := place) (parts := parts) (vs := vs) (cells := splice cells off cs) (arr := v.cells.zipIdx.foldl (fun cs (x : Value × Nat) => cs.setIfInBounds (off + x.2) x.1) arr) (out := out)
     (by simpa using hl) (fun j p u h1 h2 => hp (j + 1) p u (by simpa using h1) (by simpa using h2)) (e2 ▸ hr.splice hcs hb.2) ho
    refine ⟨arr', ?_, g2⟩
    simp only [Instr.fill, hpl]
    rw [if_neg (by simp [hlen, hb.1]; omega)]
    exact g1
   ·cases ho
def strTy (P : Program) (t : TypeId) : Option (List (Nat × Nat) × List Value) :=
 match P.info? t, P.underlying t with
 | some it, some (.struct fields) =>
  match it.zero, fields.toList.mapM (fun f => (P.info? f.type).map fun i => (f.offset, i.size)) with
  | some z, some pl => some (pl, z.cells.toList)
  | _, _ => none
 | _, _ => none
theorem built_of_strTy {P : Program} {t : TypeId} {pl : List (Nat × Nat)} {zs : List Value} (h : strTy P t = some (pl, zs)) (parts : List (Nat × Value)) :
  P.built t parts = Instr.fill (pl.toArray[·]?) zs.toArray parts := by
 unfold strTy at h
 unfold Program.built
 split at h
 ·rename_i it fields h1 h2
  split at h
  ·rename_i z pl' h3 h4
   simp only [Option.some.injEq, Prod.mk.injEq] at h
   obtain ⟨rfl, rfl⟩ := h
   simp [h1, h2, h3, h4]
  ·cases h
 ·cases h
def partsV (st : St) : List (Nat × Operand) → Option (List (Nat × List V))
 | [] => some []
 | (i, x) :: rest => match (st.ev x).cells, partsV st rest with | some cs, some r => some ((i, cs) :: r) | _, _ => none
theorem partsV_rep (h : Sat w0 M0 F0 st a.tmps w φ F) : ∀ {parts : List (Nat × Operand)} {ps : List (Nat × List V)}, partsV st parts = some ps →
  ps.length = (parts.map fun p => (p.1, a.eval p.2)).length ∧
  ∀ (i : Nat) p v, ps[i]? = some p → (parts.map fun p => (p.1, a.eval p.2))[i]? = some v → p.1 = v.1 ∧ RowRep w F φ p.2 v.2.cells.toList
 | [], ps, hp => by simp only [partsV, Option.some.injEq] at hp; subst hp; exact ⟨rfl, fun i p v hx => by simp at hx⟩
 | (i, x) :: parts, ps, hp => by
  simp only [partsV] at hp
  split at hp
  ·rename_i cs r h1 h2
   simp only [Option.some.injEq] at hp
   subst hp
   obtain ⟨g1, g2⟩ := partsV_rep h h2
   refine ⟨by simp [g1], fun k p v hx hv => ?_⟩
   cases k with
   | zero =>
    simp only [List.map_cons, List.getElem?_cons_zero, Option.some.injEq] at hx hv
    subst hx; subst hv
    obtain ⟨c1, c2, c3⟩ := rep_cells (h.ev x) h1
    exact ⟨rfl, c1.symm, c2, c3⟩
   | succ k => exact g2 k p v (by simpa using hx) (by simpa using hv)
  ·cases hp
theorem rowRep_zero {w F φ} (zs : List Value) (h1 : zs.all (·.oneCell') = true) : RowRep w F φ (zs.map cv1) zs :=
 ⟨by simp, fun i x v hx hv => by rw [List.getElem?_map, hv] at hx; simp at hx; subst hx; exact rep_cv1 v, fun v hv => List.all_eq_true.1 h1 v hv⟩
theorem map_pair (a : Act) (parts : Array (Nat × Operand)) : (parts.map fun (x : Nat × Operand) => (x.1, a.eval x.2)).toList = parts.toList.map fun p => (p.1, a.eval p.2) := by simp
theorem ok_build (h : Sat w0 M0 F0 st a.tmps w φ F) (hd : dstOk o.dst st.n = true) {t : TypeId} {parts : Array (Nat × Operand)} {pl : List (Nat × Nat)} {zs : List Value} {ps : List (Nat × List V)} {cells : List V} (ho : o.op = .build t parts)
  (ht : strTy P t = some (pl, zs)) (h1 : zs.all (·.oneCell') = true) (hp : partsV st parts.toList = some ps) (hf : fillV (pl[·]?) (zs.map cv1) ps = some cells)
  (hn : Next w0 M0 F0 (st.put o.dst (.agg cells)) a.defers next) : o.wp P a w next Q := by
 obtain ⟨g1, g2⟩ := partsV_rep h hp
 obtain ⟨arr, g3, g4⟩ := fill_ok (arr := zs.toArray) g1 g2 (by simpa using rowRep_zero zs h1) hf
 have hb : P.built t (parts.map fun (x : Nat × Operand) => (x.1, a.eval x.2)).toList = some arr := by
  rw [built_of_strTy ht, map_pair]
  simpa using g3
 refine ok_val h hd (v := .agg arr) ?_ ?_ hn
 ·simp only [execOp, ho, Sem.run_bind]
  rw [run_build w t _ arr hb]
  rfl
 ·have := Rep.agg (w := w) (F := F) (φ := φ) (xs := cells) (vs := arr.toList) g4.1 g4.2.1 g4.2.2
  simpa using this
theorem fill_rows {z n : Nat} : ∀ (vs : List (Nat × Value)) (k : Nat) (done : List Value) (arr : Array Value), (∀ (i : Nat) v, vs[i]? = some v → v.1 = k + i ∧ v.2.cells.size = z) → k + vs.length = n → arr.size = n * z → done.length = k * z → arr.toList.take (k * z) = done →
    ∃ arr', Instr.fill (fun i => some (i * z, z)) arr vs = some arr' ∧ arr'.toList = done ++ (vs.map fun v => v.2.cells.toList).flatten
  | [], k, done, arr, _, hk, hs, hd, ht => ⟨arr, rfl, by simp at hk; subst hk; rw [← ht, List.take_of_length_le (by rw [Array.length_toList, hs]; exact Nat.le_refl _)]; simp⟩
  | (i, v) :: vs, k, done, arr, hv, hk, hs, hd, ht => by
    obtain ⟨e, hz⟩ := hv 0 _ rfl
    simp only [Nat.add_zero] at e hz
    subst e
    simp only [List.length_cons] at hk
    have hle : (i + 1) * z ≤ n * z := Nat.mul_le_mul_right _ (by omega)
    have hb : i * z + v.cells.size ≤ arr.size := by rw [hz, hs]; rw [Nat.add_mul] at hle; omega
    obtain ⟨arr', g1, g2⟩ := fill_rows (z := z) (n := n) vs (i + 1) (done ++ v.cells.toList) (v.cells.zipIdx.foldl (fun cs (x : Value × Nat) => cs.setIfInBounds (i * z + x.2) x.1) arr)
      (fun j u hu => by have := hv (j + 1) u (by simpa using hu); exact ⟨by omega, this.2⟩) (by omega)
      (by rw [setAt_eq _ _ _ hb, ← hs]; simp; omega) (by simp [hd, hz, Nat.add_mul])
      (by
        rw [setAt_eq _ _ _ hb]
        simp only []
        rw [ht, List.take_append_of_le_length (by simp [hd, hz, Nat.add_mul]), List.take_of_length_le (by simp [hd, hz, Nat.add_mul])])
    refine ⟨arr', ?_, by rw [g2]; simp⟩
    simp only [Instr.fill]
    rw [if_neg (by rw [hz] at hb ⊢; simp; omega)]
    exact g1
def rowsLit (z : Nat) : Nat → List (Nat × List V) → Option (List (List V))
 | _, [] => some []
 | k, (i, cs) :: rest => if i = k ∧ cs.length = z then (rowsLit z (k + 1) rest).map (cs :: ·) else none
theorem rowsLit_spec {z : Nat} : ∀ {ps : List (Nat × List V)} {k : Nat} {rows : List (List V)}, rowsLit z k ps = some rows →
  rows.length = ps.length ∧ (∀ r, r ∈ rows → r.length = z) ∧ ∀ (i : Nat) p, ps[i]? = some p → p.1 = k + i ∧ rows[i]? = some p.2
 | [], k, rows, h => by simp only [rowsLit, Option.some.injEq] at h; subst h; simp
 | (i, cs) :: ps, k, rows, h => by
  simp only [rowsLit] at h
  split at h
  ·rename_i hb
   cases hr : rowsLit z (k + 1) ps with
   | none => simp [hr] at h
   | some rows' =>
    simp only [hr, Option.map_some, Option.some.injEq] at h
    subst h
    obtain ⟨g1, g2, g3⟩ := rowsLit_spec hr
    refine ⟨by simp [g1], fun r hr' => ?_, fun j p hp => ?_⟩
    ·rcases List.mem_cons.1 hr' with rfl | hr'
     ·exact hb.2
     ·exact g2 r hr'
    ·cases j with
     | zero => simp only [List.getElem?_cons_zero, Option.some.injEq] at hp; subst hp; exact ⟨by simpa using hb.1, rfl⟩
     | succ j => obtain ⟨e1, e2⟩ := g3 j p (by simpa using hp); exact ⟨by omega, by simpa using e2⟩
  ·cases h
theorem ok_buildSlice (h : Sat w0 M0 F0 st a.tmps w φ F) {d : Nat} (_hdst : o.dst = some d) (hd : dstOk o.dst st.n = true) {t e : TypeId} {len z by_ : Nat} {parts : Array (Nat × Operand)} {ps : List (Nat × List V)} {rows : List (List V)} {zs : List Value}
    (ho : o.op = .buildSlice t len parts) (hnm : st.hp (d, 0) = none) (ht : slTy P t = some (e, z, by_)) (hz : zeroC P e = some zs) (hzl : zs.length = z) (hp : partsV st parts.toList = some ps) (hr : rowsLit z 0 ps = some rows)
    (hl : rows.length = len) (hsm : len * z ≤ 16777216) (hz0 : 0 < z)
    (hn : Next w0 M0 F0 ((st.put o.dst (.ref (d, 0) 0 len)).up (d, 0) (some ⟨e, z, rows, false, true⟩)) a.defers next) : o.wp P a w next Q := by
  obtain ⟨inf, h1, h2, h3, -⟩ := slTy_spec ht
  obtain ⟨inf', zv, h4, h5, h6⟩ := zeroC_spec hz
  rw [h2] at h4
  cases h4
  obtain ⟨r1, r2, r3⟩ := rowsLit_spec hr
  obtain ⟨g1, g2⟩ := partsV_rep h hp
  have hsz : zv.cells.size = z := by rw [← Array.length_toList, h6, hzl]
  obtain ⟨arr, f1, f2⟩ := fill_rows (z := z) (n := len) (parts.toList.map fun p => (p.1, a.eval p.2)) 0 [] ((Array.range (len * z)).map (zv.cells[· % zv.cells.size]!))
    (fun i v hv => by
      have hi : i < ps.length := by rw [g1]; exact (List.getElem?_eq_some_iff.1 hv).1
      obtain ⟨e1, e2, _⟩ := g2 i _ v (List.getElem?_eq_getElem hi) hv
      obtain ⟨e3, e4⟩ := r3 i _ (List.getElem?_eq_getElem hi)
      have := r2 _ (List.mem_of_getElem? e4)
      exact ⟨by omega, by rw [← Array.length_toList, ← e2]; exact this⟩) (by rw [← g1, ← r1, hl]; omega) (by simp) (by simp) (by simp)
  have hvs : ((parts.toList.map fun p => (p.1, a.eval p.2)).map fun v => v.2.cells.toList).flatten.length = rows.length * z ∧ _ :=
    rows_flat (w := w) (F := F) (φ := φ) (rows := rows) (vss := (parts.toList.map fun p => (p.1, a.eval p.2)).map fun v => v.2.cells.toList) (by simp [r1, g1]) (fun i r vs hr' hvs => by
      rw [List.getElem?_map, Option.map_eq_some_iff] at hvs
      obtain ⟨v, hv, rfl⟩ := hvs
      have hi : i < ps.length := by rw [← r1]; exact (List.getElem?_eq_some_iff.1 hr').1
      obtain ⟨_, e2⟩ := g2 i _ v (List.getElem?_eq_getElem hi) hv
      obtain ⟨_, e4⟩ := r3 i _ (List.getElem?_eq_getElem hi)
      rw [hr'] at e4
      cases e4
      exact e2) r2
  have hfl : arr.toList = ((parts.toList.map fun p => (p.1, a.eval p.2)).map fun v => v.2.cells.toList).flatten := by simpa using f2
  refine ok_new_ref (E := ⟨e, z, rows, false, true⟩) (arr := arr) (fz := (0, 0)) (len := len) (cap := len) (w' := w.alloc (.cells arr e)) h hd hnm ?_ rfl rfl rfl (by simp) (fun _ hc => heap_alloc_old w _ hc) (heap_alloc_new w _)
    (fun _ => rfl) (.inl rfl) (by rw [← Array.length_toList, hfl, hvs.1, hl]) hl (Nat.le_refl _) ?_ r2 (fun i j x hx => ?_) hn
  · have hmap : (parts.map fun (x : Nat × Operand) => (x.1, a.eval x.2)).toList = parts.toList.map fun p => (p.1, a.eval p.2) := map_pair a parts
    have hne : ¬ 16777216 < len * inf.size := by rw [h3]; omega
    by_cases h0 : len * z = 0
    · have hl0 : len = 0 := by rcases Nat.mul_eq_zero.1 h0 with h' | h' <;> omega
      subst hl0
      have hp0 : parts.toList = [] := by
        have : ps.length = 0 := by rw [← r1]; exact hl
        have : parts.toList.length = 0 := by rw [g1] at this; simpa using this
        exact List.eq_nil_of_length_eq_zero this
      have harr : arr = #[] := by
        have : arr.toList = [] := by rw [hfl, hp0]; rfl
        exact Array.ext' this
      have hp0' : parts = #[] := Array.ext' hp0
      subst hp0'
      simp [execOp, ho, Instr.buildSlice, run_underlying h1, sizeOf, typeInfo, h2, Instr.fill, newRow, harr, Array.range_zero']
    · rw [h3] at hne
      simp only [execOp, ho, Instr.buildSlice, Sem.run_bind, run_underlying h1, Result.andThen_ok, sizeOf, typeInfo, h2, h3, run_program, Sem.run_pure, hmap, Sem.run_ite]
      rw [if_neg (by simpa using hne), if_neg h0]
      simp only [zeroValue, typeInfo, Sem.run_bind, run_program, Result.andThen_ok, h2, h5, Sem.run_pure, f1, newRow, run_newObj, World.alloc_eq]
  · have : len * 1 ≤ len * z := Nat.mul_le_mul_left _ hz0
    simp only [maxLen]; omega
  · obtain ⟨v, hv, ho', hrep⟩ := hvs.2 i j x hx
    exact ⟨v, by rw [← Array.getElem?_toList, hfl]; exact hv, ho', hrep⟩
end
end Go.Abs
