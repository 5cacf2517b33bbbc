/- The abstract layer, part A13. -/
import Derived.Test.YtbkmnbpgpklojaaGreatDoorAbsA12
namespace Go.Abs
open Go
def QT (w0 : World) (M0 : Base) (F0 : Nat → Prop) (Q : Exit → St → Prop) : Exit → Act → World → Prop
 | .panic _, _, _ => False
 | .outgrown, _, _ => False
 | e, a, w => ∃ st φ F, Q e st ∧ Sat w0 M0 F0 st a.tmps w φ F ∧ a.defers = []
def Tri (P : Program) (c : Code) (Q : Exit → St → Prop) (st : St) : Prop :=
 ∀ (w0 : World) (M0 : Base) (F0 : Nat → Prop) (a : Act) (w : World) (φ : Env) (F : Nat → Prop), Sat w0 M0 F0 st a.tmps w φ F → a.defers = [] → c.wp P (QT w0 M0 F0 Q) a w
def thenS (K : St → Prop) (Q : Exit → St → Prop) : Exit → St → Prop
 | .normal, st => K st
 | e, st => Q e st
def inBlockS (id : Nat) (Q : Exit → St → Prop) : Exit → St → Prop
 | .exit id', st => if id' = id then Q .normal st else Q (.exit id') st
 | e, st => Q e st
section
variable {P : Program} {st : St} {Q : Exit → St → Prop}
theorem Tri.ent {st st' : St} {c : Code} (he : Ent st st') (h : Tri P c Q st') : Tri P c Q st := fun w0 M0 F0 a w φ F hs hd => by
 obtain ⟨φ', F', hs'⟩ := he w0 M0 F0 a.tmps w φ F hs
 exact h w0 M0 F0 a w φ' F' hs' hd
theorem Tri.mono {Q' : Exit → St → Prop} {c : Code} (h : Tri P c Q st) (hq : ∀ e st, Q e st → Q' e st) : Tri P c Q' st := fun w0 M0 F0 a w φ F hs hd =>
 wp_mono (h w0 M0 F0 a w φ F hs hd) fun e a w hh => by
  cases e with
  | panic c => exact hh
  | outgrown => exact hh
  | _ => obtain ⟨st, φ, F, h1, h2⟩ := hh; exact ⟨st, φ, F, hq _ _ h1, h2⟩
theorem tri_skip (h : Q .normal st) : Tri P .skip Q st := fun _ _ _ _ _ φ F hs hd => wp_skip ⟨st, φ, F, h, hs, hd⟩
theorem tri_ret (h : Q .ret st) : Tri P .ret Q st := fun _ _ _ _ _ φ F hs hd => wp_ret ⟨st, φ, F, h, hs, hd⟩
theorem tri_exit {id : Nat} (h : Q (.exit id) st) : Tri P (.exit id) Q st := fun _ _ _ _ _ φ F hs hd => wp_exit ⟨st, φ, F, h, hs, hd⟩
theorem tri_seq {x y : Code} (h : Tri P x (thenS (Tri P y Q) Q) st) : Tri P (.seq x y) Q st := fun w0 M0 F0 a w φ F hs hd =>
  wp_seq (wp_mono (h w0 M0 F0 a w φ F hs hd) fun e a' w' hh => by
    cases e with
    | normal => obtain ⟨st', φ', F', h1, h2, h3⟩ := hh; exact h1 w0 M0 F0 a' w' φ' F' h2 h3
    | panic c => exact hh
    | outgrown => exact hh
    | exit id => exact hh
    | goto l => exact hh
    | ret => exact hh)
theorem tri_cond {c : Operand} {x y : Code} {b : Bool} (hc : st.ev c = .sc (.bool b)) (ht : b = true → Tri P x Q st) (hf : b = false → Tri P y Q st) : Tri P (.cond c x y) Q st := fun w0 M0 F0 a w φ F hs hd =>
 wp_cond_split (t := b) (hc ▸ hs.ev c).sc_inv.1 (fun e => ht e w0 M0 F0 a w φ F hs hd) (fun e => hf e w0 M0 F0 a w φ F hs hd)
theorem tri_block {id : Nat} {c : Code} (h : Tri P c (inBlockS id Q) st) : Tri P (.block id c) Q st := fun w0 M0 F0 a w φ F hs hd =>
  wp_block (wp_mono (h w0 M0 F0 a w φ F hs hd) fun e a' w' hh => by
    cases e with
    | exit id' =>
      obtain ⟨st', φ', F', h1, h2, h3⟩ := hh
      simp only [inBlockS] at h1
      simp only [Exit.inBlock]
      split at h1
      · rename_i he; rw [if_pos he]; exact ⟨st', φ', F', h1, h2, h3⟩
      · rename_i he; rw [if_neg he]; exact ⟨st', φ', F', h1, h2, h3⟩
    | normal => exact hh
    | panic c => exact hh
    | outgrown => exact hh
    | goto l => exact hh
    | ret => exact hh)
theorem tri_loop {ι : Type} {c : Code} (inv : ι → St) (μ : ι → Nat) (i0 : ι) (h0 : Ent st (inv i0))
  (round : ∀ i, Tri P c (thenS (fun st' => ∃ j, μ j < μ i ∧ Ent st' (inv j)) Q) (inv i)) : Tri P (.loop c) Q st := by
 intro w0 M0 F0 a w φ F hs hd b k cs
 have key : ∀ n i, μ i = n → ∀ (a : Act) (w : World) (φ : Env) (F : Nat → Prop), Sat w0 M0 F0 (inv i) a.tmps w φ F → a.defers = [] →
   ∃ e a' w', QT w0 M0 F0 Q e a' w' ∧ Arrives P (lone (b.at a (.code c :: .inLoop c :: k)) cs w) b k cs e a' w' := by
  intro n
  induction n using Nat.strongRecOn with
  | _ n ih =>
   intro i hi a w φ F hs hd
   obtain ⟨e, a1, w1, hq, harr⟩ := round i w0 M0 F0 a w φ F hs hd b (.inLoop c :: k) cs
   cases e with
   | normal =>
    obtain ⟨st', φ', F', ⟨j, hj, he⟩, h2, h3⟩ := hq
    obtain ⟨φ2, F2, hs2⟩ := he w0 M0 F0 a1.tmps w1 φ' F' h2
    obtain ⟨e2, a2, w2, hq2, harr2⟩ := ih (μ j) (hi ▸ hj) j rfl a1 w1 φ2 F2 hs2 h3
    exact ⟨e2, a2, w2, hq2, .of_steps (Steps.trans harr (.one step_inLoop)) harr2⟩
   | exit id => exact ⟨.exit id, a1, w1, hq, .pass (x := .inLoop c) rfl (fun _ _ => .inl (by simp)) harr⟩
   | goto l => exact ⟨.goto l, a1, w1, hq, .pass (x := .inLoop c) rfl (fun _ _ => .inl (by simp)) harr⟩
   | ret => exact ⟨.ret, a1, w1, hq, .pass (x := .inLoop c) rfl (fun _ _ => .inl (by simp)) harr⟩
   | panic ch => exact hq.elim
   | outgrown => exact hq.elim
 obtain ⟨φ1, F1, hs1⟩ := h0 w0 M0 F0 a.tmps w φ F hs
 obtain ⟨e, a', w', hq, harr⟩ := key _ i0 rfl a w φ1 F1 hs1 hd
 exact ⟨e, a', w', hq, .of_steps (.one step_loop) harr⟩
def wantA (ops : Array Oper) (st : St) (o : Oper) : Option Bool :=
 match o.guard with
 | none => some true
 | some (j, want) => match (ops[j]?).bind (·.dst) with
  | some g => (match st.tm g with | .sc (.bool b) => some (b == want) | .tup _ => some false | _ => none)
  | none => none
theorem rep_none {w : World} {F : Nat → Prop} {φ : Env} : Rep w F φ (.tup []) Go.undef := .tup (xs := []) (vs := []) rfl (fun i x v hx => by simp at hx)
theorem wantA_ok {w0 M0 F0} {a : Act} {w : World} {φ F} (h : Sat w0 M0 F0 st a.tmps w φ F) {ops : Array Oper} {o : Oper} {b : Bool} (hw : wantA ops st o = some b) : Region.wanted o (yielded ops a.tmps) = b := by
  unfold wantA at hw
  unfold Region.wanted
  cases hg : o.guard with
  | none => simp [hg] at hw; simp [hw]
  | some jw =>
    obtain ⟨j, want⟩ := jw
    simp only [hg] at hw
    simp only
    unfold yielded
    cases hd : (ops[j]?).bind (·.dst) with
    | none => simp [hd] at hw
    | some g =>
      simp only [hd] at hw
      split at hw
      · rename_i q hq
        have hr := hq ▸ h.rep g
        have hv := hr.sc_inv.1
        have hg' : a.tmps[g]? = some (.bool q) := by
          have hlt : g < a.tmps.size := by
            rcases Nat.lt_or_ge g a.tmps.size with h1 | h1
            · exact h1
            · simp [Array.getElem?_eq_none h1, undef] at hv
          simp [hlt] at hv
          simp [hlt, hv]
        simp only [Option.bind_some, hg']
        simp only [Option.some.injEq] at hw
        subst hw
        cases q <;> cases want <;> rfl
      · rename_i xs hq
        have hr := hq ▸ h.rep g
        obtain ⟨vs, hv, -, -⟩ := hr.tup_inv
        have hg' : ∀ b : Bool, a.tmps[g]? ≠ some (.bool b) := fun b hb => by
          have : a.tmps.getD g undef = .bool b := by simp [hb]
          rw [hv] at this; cases this
        simp only [Option.some.injEq] at hw
        subst hw
        simp only [Option.bind_some]
        first
          | rfl
          | (split
             · rename_i b hb; exact absurd hb (hg' b)
             · rfl)
      · cases hw
abbrev Lg := List (List Nm × List Nm)
abbrev kp (K : Lg → St → Prop) (rs ws : List Nm) : Lg → St → Prop := fun lg => K ((rs, ws) :: lg)
def RegT (P : Program) (ops : Array Oper) : (Lg → St → Prop) → List Oper → St → Prop
 | K, [], st => K [] st
 | K, o :: rest, st => (∃ v hp' rs ws, wantA ops st o = some true ∧ dstOk o.dst st.n = true ∧ StepE P st o v hp' rs ws ∧ RegT P ops (kp K rs ws) rest { st.put o.dst v with hp := hp' }) ∨
   (wantA ops st o = some false ∧ dstOk o.dst st.n = true ∧ RegT P ops (kp K [] []) rest (st.put o.dst (.tup [])))
def RegS (P : Program) (ops : Array Oper) (K : St → Prop) (Q : Exit → St → Prop) (l : List Oper) (st : St) : Prop :=
 ∀ (w0 : World) (M0 : Base) (F0 : Nat → Prop) (a : Act) (w : World) (φ : Env) (F : Nat → Prop), Sat w0 M0 F0 st a.tmps w φ F → a.defers = [] → wpList P ops (QT w0 M0 F0 (thenS K Q)) l a w
theorem regS_nil {ops : Array Oper} {K : St → Prop} (h : K st) : RegS P ops K Q [] st := fun _ _ _ _ _ φ F hs hd => wpList_nil ⟨st, φ, F, h, hs, hd⟩
theorem regS_step {ops : Array Oper} {K : St → Prop} {o : Oper} {rest : List Oper} (hg : wantA ops st o = some true)
    (h : ∀ (w0 : World) (M0 : Base) (F0 : Nat → Prop) (a : Act) (w : World) (φ : Env) (F : Nat → Prop) (next : Act → World → Prop) (Q' : Exit → Act → World → Prop), Sat w0 M0 F0 st a.tmps w φ F → a.defers = [] →
      (∀ (a' : Act) (w' : World) (st' : St) (φ' : Env) (F' : Nat → Prop), RegS P ops K Q rest st' → Sat w0 M0 F0 st' a'.tmps w' φ' F' → a'.defers = [] → next a' w') → o.wp P a w next Q') : RegS P ops K Q (o :: rest) st := fun w0 M0 F0 a w φ F hs hd => by
  unfold wpList
  rw [if_pos (wantA_ok hs hg)]
  exact .inl (h w0 M0 F0 a w φ F _ _ hs hd fun a' w' st' φ' F' hr hs' hd' => hr w0 M0 F0 a' w' φ' F' hs' hd')
theorem regS_of {ops : Array Oper} {K' : St → Prop} : ∀ {l : List Oper} {K : Lg → St → Prop} {st : St}, (∀ lg st, K lg st → K' st) → RegT P ops K l st → RegS P ops K' Q l st
 | [], K, st, hk, h => regS_nil (hk _ _ h)
 | o :: rest, K, st, hk, h => by
  rcases h with ⟨v, hp', rs, ws, hw, hdo, hs, hr⟩ | ⟨hw, hdo, hr⟩
  ·exact regS_step hw fun w0 M0 F0 a w φ F next Q' hsat hd hn => hs.ok hsat hdo fun a' w' φ' F' hs' hd' => hn a' w' _ φ' F' (regS_of (fun lg st => hk _ st) hr) hs' (hd'.trans hd)
  ·intro w0 M0 F0 a w φ F hsat hd
   unfold wpList
   rw [if_neg (by rw [wantA_ok hsat hw]; simp)]
   exact regS_of (fun lg st => hk _ st) hr w0 M0 F0 _ w φ F (hsat.put hdo rep_none) ((put_defers' _ _ _).trans hd)
theorem tri_regS {id : Nat} {l : List Oper} (h : RegS P l.toArray (Q .normal) Q l st) : Tri P (.region id l.toArray false) Q st := fun w0 M0 F0 a w φ F hs hd =>
 wp_region_lit (wp_mono' (h w0 M0 F0 a w φ F hs hd))
where
 wp_mono' {w0 : World} {M0 : Base} {F0 : Nat → Prop} {a : Act} {w : World} {ops : Array Oper} {l : List Oper} (h : wpList P ops (QT w0 M0 F0 (thenS (Q .normal) Q)) l a w) : wpList P ops (QT w0 M0 F0 Q) l a w := by
  have e : QT w0 M0 F0 (thenS (Q .normal) Q) = QT w0 M0 F0 Q := by
   funext e a w
   cases e <;> rfl
  rwa [e] at h
theorem tri_region {id : Nat} {l : List Oper} (h : RegT P l.toArray (fun _ => Q .normal) l st) : Tri P (.region id l.toArray false) Q st := tri_regS (regS_of (fun _ _ h => h) h)
def resOne : List V → V
 | [x] => x
 | xs => .tup xs
end
end Go.Abs
