/- The abstract layer, part A10c. -/
import Derived.Test.YtbkmnbpgpklojaaGreatDoorAbsA10b
namespace Go.Abs
open Go
section
variable {P : Program} {w0 : World} {M0 : Base} {F0 : Nat → Prop} {st : St} {a : Act} {w : World} {φ : Env} {F : Nat → Prop} {o : Oper} {next : Act → World → Prop} {Q : Exit → Act → World → Prop}
theorem cellAt_take {rows : List (List V)} {k i j : Nat} {x : V} (h : cellAt (rows.take k) i j = some x) : i < k ∧ cellAt rows i j = some x := by
 unfold cellAt at h ⊢
 rw [List.getElem?_take] at h
 split at h
 ·rename_i hi; exact ⟨hi, h⟩
 ·simp at h
theorem zeroCells_one {zs : Array Value} {n : Nat} (h : zs.toList.all (·.oneCell') = true) : ∀ v, v ∈ (Builtin.zeroCells zs n).toList → v.oneCell' = true := fun v hv => by
 simp only [Builtin.zeroCells, Array.toList_map, List.mem_map] at hv
 obtain ⟨i, hi, rfl⟩ := hv
 have hi' : i < n * zs.size := by simpa using hi
 have hpos : 0 < zs.size := by
  rcases Nat.eq_zero_or_pos zs.size with h0 | h0
  ·rw [h0] at hi'; simp at hi'
  ·exact h0
 have hm := Nat.mod_lt i hpos
 rw [getElem!_pos zs (i % zs.size) hm]
 exact List.all_eq_true.1 h _ (by simp)
theorem ok_clear (h : Sat w0 M0 F0 st a.tmps w φ F) (hd : dstOk o.dst st.n = true) {t e : TypeId} {z by_ : Nat} {x : Operand} {n : Nm} {off len : Nat} {E : Entry} {zs : List Value} (ho : o.op = .call { callee := .builtin .clear, args := #[x], argTypes := #[t] })
    (hx : st.ev x = .ref n off len) (hE : st.hp n = some (some E)) (ht : slTy P t = some (e, z, by_)) (hz : zeroC P e = some zs) (hzl : zs.length = z) (hEz : E.z = z) (h1 : zs.all (·.oneCell') = true) (hl : off + len = E.rows.length)
    (hn : Next w0 M0 F0 ((st.put o.dst (.tup [])).up n (some { E with rows := E.rows.take off })) a.defers next) : o.wp P a w next Q := by
  have hr := hx ▸ h.ev x
  generalize hv : a.eval x = v at hr
  obtain ⟨loc, g1, g2, g2f⟩ := h.obj n E hE
  obtain ⟨inf, t1, t2, t3, t4⟩ := slTy_spec ht
  obtain ⟨inf', zv, t5, t6, t7⟩ := zeroC_spec hz
  rw [t2] at t5; cases t5
  -- the state behind it, whatever the world
  have fin : ∀ {w' : World}, (execOp a.eval o).run P w = .ok (.value (.tuple #[])) w' → Turn w0 M0 st.hp w φ (upd st.hp n (some { E with rows := E.rows.take off })) w' φ (fun m => m = n) → Holds w' F φ { E with rows := E.rows.take off } loc → o.wp P a w next Q := fun {w'} hexec htn hh => by
    unfold Oper.wp
    rw [hexec]
    refine hn (a.put o.dst (.tuple #[])) w' φ F (h.turn (st' := (st.put o.dst (.tup [])).up n (some { E with rows := E.rows.take off })) (by simpa using htn) (by simp [size_put, h.slots]) (fun t => ?_) (fun m Em hm hEm => ?_)) (put_defers' _ _ _)
    · have := rep_put (w' := w') (F' := F) (φ' := φ) (x := .tup []) (v := .tuple #[]) hd h.slots (fun t => h.keep htn (h.rep t)) (.tup (xs := []) (vs := []) rfl (fun i x v hx => by simp at hx)) t
      simpa using this
    · subst hm
      simp only [St.up_hp, upd, if_true, Option.some.injEq] at hEm
      subst hEm
      exact ⟨loc, g1, hh, g2f⟩
  have still : Turn w0 M0 st.hp w φ (upd st.hp n (some { E with rows := E.rows.take off })) w φ (fun m => m = n) :=
    { os := rfl, tape := rfl, output := rfl, size := Nat.le_refl _, frz := fun _ _ _ => rfl
      same := fun m hm => ⟨by simp [upd, hm], rfl⟩
      env := fun _ _ h => h
      blk := fun _ _ _ _ _ _ _ _ => rfl
      own := fun m Em z b' cap' hm _ hφ => .inr ⟨n, E, z, cap', rfl, hE, by subst hm; exact hφ⟩
      tinj := fun m m' _ _ _ _ _ _ _ hm hm' _ _ _ _ => hm.trans hm'.symm
      abs := fun m hm hE' => by subst hm; simp [upd] at hE' }
  have hzv : (zeroValue e).run P w = .ok zv w := by simp [zeroValue, typeInfo, t2, t6]
  cases hr with
  | refNil h3 =>
    refine fin (w' := w) (by simp [execOp, ho, hv, resolve, invoke, builtin, Builtin.clear_, run_underlying t1]) still ?_
    rw [g1] at h3
    obtain ⟨-, rfl⟩ : E.z = _ ∧ loc = Loc.nil := by simpa using h3
    have : E.rows = [] := g2
    show E.rows.take 0 = []
    simp
  | ref h3 hle hm hoff =>
    rename_i zz b cap oo
    rw [g1] at h3
    obtain ⟨rfl, rfl⟩ : E.z = zz ∧ loc = Loc.at b cap := by simpa using h3
    obtain ⟨arr, fz, q1, qs, q2, q3, q4, q5, q6, q7⟩ := g2
    by_cases hlen : len = 0
    · subst hlen
      refine fin (w' := w) (by simp [execOp, ho, hv, resolve, invoke, builtin, Builtin.clear_, run_underlying t1]) still ?_
      exact ⟨arr, fz, q1, qs, q2, q3, by simp only [List.length_take]; omega, q5, fun r hr => q6 r (List.mem_of_mem_take hr), fun i j x hx => q7 i j x (cellAt_take hx).2⟩
    · have hoo : oo = off * E.z := hoff (by omega)
      let vs := (Builtin.zeroCells zv.cells len).toList
      have hzsz : zv.cells.size = E.z := by rw [← Array.length_toList, t7, hzl, hEz]
      have hvl : vs.length = len * E.z := by simp [vs, Builtin.zeroCells, hzsz]
      have hv1 : ∀ v, v ∈ vs → v.oneCell' = true := zeroCells_one (by rw [t7]; exact h1)
      have hfit : oo + 0 + vs.length ≤ arr.size := by
        rw [hvl, hoo, q3, Nat.add_zero, ← Nat.add_mul]
        exact Nat.mul_le_mul_right _ (by omega)
      have hrun := run_storeCells_blk (P := P) b oo E.e fz vs 0 arr w q1 q2 hfit hv1
      let arr' : Array Value := (splice arr.toList (oo + 0) vs).toArray
      let w' : World := w.setRow b arr'
      have hsz' : arr'.size = arr.size := by simp [arr', splice]; omega
      have hnew : w'.heap[b]? = some (.cells arr' E.e fz) := setRow_heap w b arr arr' E.e fz q1
      have hoth : ∀ q, q ≠ b → w'.heap[q]? = w.heap[q]? := fun q hq => setRow_other w b q arr' hq
      have hM : Mset st.hp φ b := ⟨n, E, E.z, cap, hE, g1⟩
      have htn : Turn w0 M0 st.hp w φ (upd st.hp n (some { E with rows := E.rows.take off })) w' φ (fun m => m = n) :=
        { os := rfl, tape := rfl, output := rfl, size := by simp [w']
          frz := fun q _ hq => hoth q (fun e => hq (e ▸ hM))
          same := fun m hm => ⟨by simp [upd, hm], rfl⟩
          env := fun _ _ h => h
          blk := fun m Em z b' cap' hm hEm hφ => hoth b' (fun e => hm (h.inj m n Em E z E.z b cap' cap hEm hE (e ▸ hφ) g1))
          own := fun m Em z b' cap' hm _ hφ => .inr ⟨n, E, z, cap', rfl, hE, by subst hm; exact hφ⟩
          tinj := fun m m' _ _ _ _ _ _ _ hm hm' _ _ _ _ => hm.trans hm'.symm
          abs := fun m hm hE' => by subst hm; simp [upd] at hE' }
      refine fin (w' := w') ?_ htn ?_
      · obtain ⟨k, hk⟩ : ∃ k, len = k + 1 := ⟨len - 1, by omega⟩
        have hrun' : (storeCells ⟨b, oo, none⟩ (Builtin.zeroCells zv.cells len).toList).run P w = .ok () w' := hrun
        rw [hk] at hrun' hv
        simp [execOp, ho, hv, resolve, invoke, builtin, Builtin.clear_, run_underlying t1, hzv, hrun']
      · refine ⟨arr', fz, hnew, qs, by rw [hsz']; exact q2, by rw [hsz']; exact q3, by simp only [List.length_take]; omega, q5, fun r hr => q6 r (List.mem_of_mem_take hr), fun i j x hx => ?_⟩
        obtain ⟨hi, hx'⟩ := cellAt_take hx
        obtain ⟨u, u1, u2, u3⟩ := q7 i j x hx'
        refine ⟨u, ?_, u2, h.keep htn u3⟩
        have hj : j < E.z := by
          unfold cellAt at hx'
          cases hr : E.rows[i]? with
          | none => simp [hr] at hx'
          | some r =>
            simp only [hr, Option.bind_some] at hx'
            have := (List.getElem?_eq_some_iff.1 hx').1
            rw [q6 r (List.mem_of_getElem? hr)] at this
            exact this
        have hlt : i * E.z + j < oo := by
          rw [hoo]
          have : (i + 1) * E.z ≤ off * E.z := Nat.mul_le_mul_right _ hi
          rw [Nat.add_mul] at this; omega
        show arr'[i * E.z + j]? = some u
        rw [← u1, ← Array.getElem?_toList, ← Array.getElem?_toList (xs := arr)]
        simp only [arr']
        rw [getElem?_splice _ _ _ _ (by simpa using hfit), if_neg (by omega)]
end
end Go.Abs
