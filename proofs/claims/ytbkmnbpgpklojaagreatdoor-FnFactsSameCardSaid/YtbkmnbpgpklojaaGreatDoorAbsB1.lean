/- The abstract layer, part B1. -/
import Derived.Test.YtbkmnbpgpklojaaGreatDoorAbsA19
import Derived.ChangeArms
import Derived.Below
namespace Go.Abs
open Go Go.RowKit
def typedF (R : TypeId → List V → Prop) : List Field → List V → Prop
 | [], xs => xs = []
 | f :: fs, xs => ∃ ys zs, xs = ys ++ zs ∧ R f.type ys ∧ typedF R fs zs
def Typed (P : Program) : Nat → TypeId → List V → Prop
 | 0, _, _ => False
 | n + 1, t, xs => match P.underlying t with
  | some .bool => ∃ b, xs = [.sc (.bool b)]
  | some (.int k) => ∃ i, xs = [.sc (.int k i)] ∧ (Lit.int k i).wf = true
  | some .string => ∃ s : ByteArray, xs = [.sc (.string s)] ∧ s.size ≤ maxLen
  | some (.slice e) => ∃ rows, xs = [.lst (P.cellsOf e) rows] ∧ rows.length ≤ maxLen ∧ ∀ r, r ∈ rows → Typed P n e r
  | some (.struct fs) => typedF (Typed P n) fs.toList xs
  | _ => False
def contig (P : Program) : Nat → List Field → Option Nat
 | o, [] => some o
 | o, f :: fs => if f.offset = o then contig P (o + P.cellsOf f.type) fs else none
def plainB (P : Program) : Nat → TypeId → Bool
 | 0, _ => false
 | n + 1, t => match P.underlying t with
  | some .bool => true
  | some (.int _) => true
  | some .string => true
  | some (.slice e) => Nat.blt 0 (P.cellsOf e) && plainB P n e
  | some (.struct fs) => (contig P 0 fs.toList == some (P.cellsOf t)) && fs.toList.all fun f => plainB P n f.type
  | _ => false
def CellsRep (W : World) (xs : List V) (cs : List Value) : Prop :=
 xs.length = cs.length ∧ ∀ (i : Nat) x v, xs[i]? = some x → cs[i]? = some v → Rep W (fun b => b < W.heap.size) (fun _ => none) x v ∧ x.free = true ∧ v.oneCell' = true
theorem list_choose {α : Type} {R : Nat → α → Prop} : ∀ {n : Nat}, (∀ i, i < n → ∃ x, R i x) → ∃ l : List α, l.length = n ∧ ∀ i x, l[i]? = some x → R i x
 | 0, _ => ⟨[], rfl, fun i x h => by simp at h⟩
 | n + 1, h => by
  obtain ⟨l, h1, h2⟩ := list_choose (n := n) fun i hi => h i (by omega)
  obtain ⟨y, hy⟩ := h n (by omega)
  refine ⟨l ++ [y], by simp [h1], fun i x hx => ?_⟩
  by_cases q : i < l.length
  ·rw [List.getElem?_append_left q] at hx; exact h2 i x hx
  ·rw [List.getElem?_append_right (by omega)] at hx
   have : i - l.length = 0 := by
    have := (List.getElem?_eq_some_iff.1 hx).1
    simp at this; omega
   rw [this] at hx
   simp only [List.getElem?_cons_zero, Option.some.injEq] at hx
   subst hx
   have : i = n := by omega
   subst this; exact hy
theorem CellsRep.one {W : World} {x : V} {v : Value} (h : Rep W (fun b => b < W.heap.size) (fun _ => none) x v) (h1 : x.free = true) (h2 : v.oneCell' = true) : CellsRep W [x] [v] :=
 ⟨rfl, fun i y u hy hu => by cases i with | zero => simp at hy hu; subst hy hu; exact ⟨h, h1, h2⟩ | succ i => simp at hy⟩
theorem CellsRep.append {W : World} {xs ys : List V} {cs ds : List Value} (h : CellsRep W xs cs) (k : CellsRep W ys ds) : CellsRep W (xs ++ ys) (cs ++ ds) :=
  ⟨by simp [h.1, k.1], fun i x v hx hv => by
    by_cases q : i < xs.length
    · rw [List.getElem?_append_left q] at hx
      rw [List.getElem?_append_left (by rw [← h.1]; exact q)] at hv
      exact h.2 i x v hx hv
    · rw [List.getElem?_append_right (by omega)] at hx
      rw [List.getElem?_append_right (by rw [← h.1]; omega), ← h.1] at hv
      exact k.2 _ x v hx hv⟩
theorem cell_lt {w : World} {a : Addr} {v : Value} (h : w.cell? a = some v) : a.block < w.heap.size := by
 unfold World.cell? at h
 cases hb : w.heap[a.block]? with
 | none => simp [hb] at h
 | some o => exact (Array.getElem?_eq_some_iff.1 hb).1
theorem cell_spot {w : World} {a : Addr} {v : Value} (h : w.cell? a = some v) : a.spot = none := by
 unfold World.cell? at h
 split at h
 ·split at h
  ·cases h
  ·rename_i q; simpa using q
 ·cases h
theorem trod_fields {H : Type} {enc : TypeId × Value → H} {P : Program} {W : World} {sp : Nat → Bool} {held : Bool} {n : Nat} {R : TypeId → List V → Prop} {tot : Nat} {cs : List Value} (hcs : cs.length = tot) :
  ∀ (fs : List Field) (o : Nat), contig P o fs = some tot →
   (∀ f, f ∈ fs → ∃ x, DataW.trod enc P W 0 sp held n f.type ((cs.drop f.offset).take (P.cellsOf f.type)) = some x) →
   (∀ f, f ∈ fs → ∀ cs' x, DataW.trod enc P W 0 sp held n f.type cs' = some x → ∃ xs, CellsRep W xs cs' ∧ R f.type xs) →
   ∃ xs, CellsRep W xs (cs.drop o) ∧ typedF R fs xs
 | [], o, hc, _, _ => by
  simp only [contig, Option.some.injEq] at hc
  refine ⟨[], ?_, rfl⟩
  rw [List.drop_eq_nil_of_le (by omega)]
  exact ⟨rfl, fun i x v h => by simp at h⟩
 | f :: fs, o, hc, ht, hr => by
  simp only [contig] at hc
  split at hc
  ·rename_i ho
   subst ho
   obtain ⟨zs, h1, h2⟩ := trod_fields hcs fs (f.offset + P.cellsOf f.type) hc (fun g hg => ht g (.tail _ hg)) (fun g hg => hr g (.tail _ hg))
   obtain ⟨x, hx⟩ := ht f (.head _)
   obtain ⟨ys, h3, h4⟩ := hr f (.head _) _ x hx
   refine ⟨ys ++ zs, ?_, ys, zs, rfl, h4, h2⟩
   have : cs.drop f.offset = (cs.drop f.offset).take (P.cellsOf f.type) ++ cs.drop (f.offset + P.cellsOf f.type) := by
    rw [← List.drop_drop, List.take_append_drop]
   rw [this]
   exact h3.append h1
  ·cases hc
theorem trod_typed {H : Type} {enc : TypeId × Value → H} {P : Program} {W : World} {sp : Nat → Bool} {held : Bool} : ∀ (m : Nat) (t : TypeId), plainB P m t = true →
    ∀ (fuel : Nat) (cs : List Value) (x : DataW H × List MemPlace), DataW.trod enc P W 0 sp held fuel t cs = some x → ∃ xs, CellsRep W xs cs ∧ Typed P m t xs := by
  intro m
  induction m with
  | zero => intro t h; simp [plainB] at h
  | succ m ih =>
    intro t hp fuel cs x hx
    unfold plainB at hp
    unfold Typed
    cases ht : P.underlying t with
    | none => simp [ht] at hp
    | some d =>
      cases d with
      | bool =>
        obtain ⟨b, rfl, -⟩ := DataW.trod_bool ht hx
        exact ⟨[.sc (.bool b)], .one (.sc rfl) rfl rfl, b, rfl⟩
      | int k =>
        obtain ⟨i, rfl, -, h⟩ := DataW.trod_int ht hx
        exact ⟨[.sc (.int k i)], .one (.sc rfl) rfl rfl, i, rfl, h⟩
      | string =>
        obtain ⟨s, rfl, -, h⟩ := DataW.trod_string ht hx
        exact ⟨[.sc (.string s)], .one (.sc rfl) rfl rfl, s, rfl, h⟩
      | struct fs =>
        simp only [ht, Bool.and_eq_true, beq_iff_eq, List.all_eq_true] at hp
        obtain ⟨xs, n, rfl, -, h1, h2, h3⟩ := DataW.trod_struct ht hx
        have := trod_fields (enc := enc) (W := W) (sp := sp) (held := held) (n := n) (R := Typed P m) h1 fs.toList 0 hp.1 (fun f hf => by
          obtain ⟨i, hi⟩ := List.getElem?_of_mem hf
          have hlt := (List.getElem?_eq_some_iff.1 hi).1
          have := h3 i f (by simpa using hi)
          rw [List.getElem?_eq_getElem (by simp at hlt; omega)] at this
          exact ⟨_, this⟩) (fun f hf cs' x hx => ih f.type (hp.2 f hf) n cs' x hx)
        simpa using this
      | slice e =>
        simp only [ht, Bool.and_eq_true] at hp
        have hz : 0 < P.cellsOf e := by simpa [Nat.blt_eq] using hp.1
        rcases DataW.trod_slice ht hx with ⟨rfl, -⟩ | ⟨a, len, cap, elems, rest, n, rfl, rfl, -, hb, hl, hm, hlen, hel, -⟩
        · exact ⟨[.lst (P.cellsOf e) []], .one (rep_empty (by decide)) rfl rfl, [], rfl, Nat.zero_le _, fun r hr => by cases hr⟩
        · have each : ∀ i, i < len → ∃ r : List V, ∃ cs', W.cells? 0 (a.add (i * P.cellsOf e)) (P.cellsOf e) = some cs' ∧ CellsRep W r cs' ∧ Typed P m e r := fun i hi => by
            have h1 := hel i hi
            rw [List.getElem?_eq_getElem (by omega), Option.bind_eq_some_iff] at h1
            obtain ⟨cs', h2, h3⟩ := h1
            obtain ⟨r, h4, h5⟩ := ih e hp.2 n cs' _ h3
            exact ⟨r, cs', h2, h4, h5⟩
          obtain ⟨rows, hrl, hrows⟩ := list_choose each
          have hcell : ∀ i j x, cellAt rows i j = some x → ∃ u, W.cell? ⟨a.block, a.off + i * P.cellsOf e + j, none⟩ = some u ∧ a.spot = none ∧ Rep W (fun b => b < W.heap.size) (fun _ => none) x u ∧ x.free = true ∧ u.oneCell' = true := fun i j x hx => by
            unfold cellAt at hx
            cases hr : rows[i]? with
            | none => simp [hr] at hx
            | some r =>
              simp only [hr, Option.bind_some] at hx
              obtain ⟨cs', h1, h2, h3⟩ := hrows i r hr
              obtain ⟨-, h4, h5⟩ := World.cells?_some h1
              have hj : j < P.cellsOf e := by rw [← h4, ← h2.1]; exact (List.getElem?_eq_some_iff.1 hx).1
              have h6 := h5 j hj
              have hjc : j < cs'.length := by omega
              rw [List.getElem?_eq_getElem hjc] at h6
              have h7 := h5 0 (by omega)
              rw [List.getElem?_eq_getElem (by omega)] at h7
              have hi0 : 0 < len := by have := (List.getElem?_eq_some_iff.1 hr).1; omega
              have hsp : a.spot = none := by
                obtain ⟨r0, cs0, g1, g2, g3⟩ := each 0 hi0
                obtain ⟨-, g4, g5⟩ := World.cells?_some g1
                have g6 := g5 0 hz
                rw [List.getElem?_eq_getElem (by omega)] at g6
                have := cell_spot g6
                simpa [Addr.add] using this
              have ea : (a.add (i * P.cellsOf e)).add j = ⟨a.block, a.off + i * P.cellsOf e + j, none⟩ := by
                obtain ⟨b, o, s⟩ := a
                simp only at hsp
                subst hsp
                unfold Addr.add
                by_cases q : i * P.cellsOf e = 0
                · by_cases q' : j = 0 <;> simp [q, q']
                · by_cases q' : j = 0 <;> simp [q, q']
              rw [ea] at h6
              obtain ⟨k1, k2, k3⟩ := h2.2 j x cs'[j] hx (List.getElem?_eq_getElem hjc)
              exact ⟨_, h6, hsp, k1, k2, k3⟩
          have hgd : ∀ i j x, cellAt rows i j = some x → W.cell? ⟨a.block, a.off + i * P.cellsOf e + j, none⟩ = some ((W.cell? ⟨a.block, a.off + i * P.cellsOf e + j, none⟩).getD Go.undef) := fun i j x hx => by
            obtain ⟨u, h1, -⟩ := hcell i j x hx
            rw [h1]; rfl
          refine ⟨[.lst (P.cellsOf e) rows], .one ?_ rfl rfl, rows, rfl, by omega, fun r hr => ?_⟩
          · rw [← hrl]
            refine .lst a.block a.off (fun i j => (W.cell? ⟨a.block, a.off + i * P.cellsOf e + j, none⟩).getD Go.undef) (fun hne => ?_) (by omega) hm (fun r hr => ?_) (fun i j x hx => ?_) hgd (fun i j x hx => ?_) (fun i j x hx => ?_)
            · have h0 : 0 < len := by rw [← hrl]; exact List.length_pos_iff.2 hne
              obtain ⟨r0, cs0, g1, g2, g3⟩ := each 0 h0
              obtain ⟨-, g4, g5⟩ := World.cells?_some g1
              have g6 := g5 0 hz
              rw [List.getElem?_eq_getElem (by omega)] at g6
              have := cell_spot g6
              obtain ⟨b, o, s⟩ := a
              simp [Addr.add] at this
              rw [this]
            · obtain ⟨i, hi⟩ := List.getElem?_of_mem hr
              obtain ⟨cs', h1, h2, h3⟩ := hrows i r hi
              rw [h2.1]; exact (World.cells?_some h1).2.1
            · obtain ⟨u, h1, -⟩ := hcell i j x hx; exact cell_lt (a := ⟨a.block, a.off + i * P.cellsOf e + j, none⟩) h1
            · obtain ⟨u, h1, -, -, -, h2⟩ := hcell i j x hx; simp only [h1]; exact h2
            · obtain ⟨u, h1, -, h2, -⟩ := hcell i j x hx; simp only [h1]; exact h2
          · obtain ⟨i, hi⟩ := List.getElem?_of_mem hr
            obtain ⟨cs', h1, h2, h3⟩ := hrows i r hi
            exact h3
      | _ => simp [ht] at hp
def ArgTy (P : Program) (m : Nat) (t : TypeId) (x : V) : Prop := match P.underlying t with
 | some (.struct _) => ∃ xs, x = .agg xs ∧ xs.all (·.free) = true ∧ Typed P m t xs
 | _ => x.free = true ∧ Typed P m t [x]
theorem trod_arg {H : Type} {enc : TypeId × Value → H} {P : Program} {W : World} {sp : Nat → Bool} {held : Bool} {r : Reach} {base : Nat} (m : Nat) {t : TypeId} {v : Value} {d : DataW H} {ps : List MemPlace} (hp : plainB P m t = true)
  (hv : Value.okWide P W r base t v) (h : DataW.Trod enc P W 0 sp held t v d ps) : ∃ x, Rep W (fun b => b < W.heap.size) (fun _ => none) x v ∧ ArgTy P m t x := by
 obtain ⟨fuel, h⟩ := h
 obtain ⟨xs, h1, h2⟩ := trod_typed m t hp fuel _ _ h
 unfold ArgTy
 unfold Value.okWide at hv
 have one : (∀ fs, P.underlying t ≠ some (.struct fs)) → Cell.okWide P W r base t v → ∃ x, Rep W (fun b => b < W.heap.size) (fun _ => none) x v ∧ x.free = true ∧ Typed P m t [x] := fun hns hc => by
  have hvc : v.cells.toList = [v] := by
   cases v with
   | agg cs =>
    exfalso
    unfold Cell.okWide Cell.ok at hc
    cases m with
    | zero => simp [plainB] at hp
    | succ m =>
     unfold plainB at hp
     cases ht : P.underlying t with
     | none => simp [ht] at hp
     | some d => cases d <;> simp_all
   | _ => rfl
  rw [hvc] at h1
  obtain ⟨x, rfl⟩ : ∃ x, xs = [x] := List.length_eq_one_iff.1 h1.1
  obtain ⟨k1, k2, k3⟩ := h1.2 0 x v rfl rfl
  exact ⟨x, k1, k2, h2⟩
 cases ht : P.underlying t with
 | none =>
  cases m with
  | zero => simp [plainB] at hp
  | succ m => unfold plainB at hp; simp [ht] at hp
 | some d =>
  cases d with
  | struct fs =>
   simp only [ht] at hv
   obtain ⟨cs, rfl, -, -⟩ := hv
   refine ⟨.agg xs, Rep.agg (vs := cs.toList) h1.1 (fun i x v hx hv => (h1.2 i x v hx hv).1) (fun v hv => ?_), xs, rfl, List.all_eq_true.2 fun x hx => ?_, h2⟩
   ·obtain ⟨i, hi⟩ := List.getElem?_of_mem hv
    have hlt := (List.getElem?_eq_some_iff.1 hi).1
    have hlt2 : i < xs.length := by rw [h1.1]; exact hlt
    exact (h1.2 i _ v (List.getElem?_eq_getElem hlt2) hi).2.2
   ·obtain ⟨i, hi⟩ := List.getElem?_of_mem hx
    have hlt := (List.getElem?_eq_some_iff.1 hi).1
    have hlt2 : i < cs.toList.length := by have := h1.1; simp only [Value.cells] at this; omega
    exact (h1.2 i x _ hi (List.getElem?_eq_getElem hlt2)).2.1
  | array n e =>
   exfalso
   cases m with
   | zero => simp [plainB] at hp
   | succ m => unfold plainB at hp; simp [ht] at hp
  | _ => exact one (by simp [ht]) (by simpa [ht] using hv)
theorem law_calls {P : Program} {f : FuncId} {args : List V} {argv : Array Value} {W : World} (h : Runs P f args [] (.sc (.bool true)) []) (hl : argv.size = args.length)
  (hr : ∀ (i : Nat) x v, args[i]? = some x → argv[i]? = some v → Rep W (fun b => b < W.heap.size) (fun _ => none) x v) :
  Calls P f argv W fun e W' => e = .returned (.bool true) ∧ Below W.heap.size W W' := by
 have hno : ∀ m, argHp [] m = none := fun m => by unfold argHp; split <;> simp
 have hM : ∀ b, ¬ Mset (argHp []) (fun _ => none) b := fun b hb => by
  obtain ⟨n, E, z, cap, h1, -⟩ := hb
  rw [hno] at h1; cases h1
 have hs : Sat W ⟨Mset (argHp []) (fun _ => none), fun _ => none⟩ (fun b => b < W.heap.size) (argSt args []) argv W (fun _ => none) (fun b => b < W.heap.size) := by
  refine ⟨rfl, rfl, rfl, Nat.le_refl _, fun b _ _ => rfl, fun b hb => (hM b hb).elim, fun n e he => (by cases he), fun b hb => .inl hb, fun b _ hb => hM b hb, fun b hb => hb, hl, fun t => ?_, fun n n' E E' z z' b cap cap' h1 => ?_, fun n E h1 => ?_, fun n _ => rfl⟩
  ·show Rep W _ _ (args.getD t .undef) _
   by_cases ht : t < args.length
   ·have h1 : args[t]? = some (args.getD t .undef) := by simp [ht]
    have h2 : argv[t]? = some (argv.getD t Go.undef) := by simp [show t < argv.size by omega]
    exact hr t _ _ h1 h2
   ·have : args.getD t .undef = .undef := by simp [List.getElem?_eq_none (show args.length ≤ t by omega)]
    rw [this]; exact .undef
  ·have := hno n; rw [show (argSt args []).hp n = argHp [] n from rfl, this] at h1; cases h1
  ·have := hno n; rw [show (argSt args []).hp n = argHp [] n from rfl, this] at h1; cases h1
 refine (h W argv (fun _ => none) (fun b => b < W.heap.size) hs).mono fun e W' hh => ?_
 obtain ⟨v, φ', F', rfl, hs', -⟩ := hh
 have hv := hs'.rep 0
 have : v = .bool true := by
  have h1 : Rep W' F' φ' (.sc (.bool true)) v := hv
  exact h1.sc_inv.1
 subst this
 exact ⟨rfl, hs'.os, hs'.tape, hs'.output, hs'.size, fun k hk => hs'.old k hk (hM k)⟩
end Go.Abs
