/- The abstract layer, part A1. -/
import Derived.WalkKit
import Derived.Lib.ConvBytes
import Derived.Lib.AppendStr
import Derived.Orders
namespace Go.Abs
open Go
abbrev Nm := Nat × Nat
inductive V where
 | undef
 | nils
 | sc (x : Value)
 | agg (xs : List V)
 | tup (xs : List V)
 | lst (z : Nat) (rows : List (List V))
 | own (e : TypeId) (z : Nat) (rows : List (List V))
 | obox (e : TypeId) (row : List V)
 | ref (n : Nm) (off len : Nat)
 | ptr (n : Nm) (row col : Nat)
 | lptr (z : Nat) (rows : List (List V)) (row col : Nat)
 | fn (f : FuncId) (caps : List V)
 deriving Inhabited
structure Entry where
 e : TypeId
 z : Nat
 rows : List (List V)
 str : Bool := false
 mine : Bool := true
inductive Loc where
 | nil
 | at (b cap : Nat)
abbrev Env := Nm → Option (Nat × Loc)
abbrev Heap := Nm → Option (Option Entry)
def cellAt (rows : List (List V)) (i j : Nat) : Option V := (rows[i]?).bind (·[j]?)
def scalar : Value → Bool
 | .bool _ | .int _ _ | .float _ _ | .complex _ _ _ | .string _ | .nilFunc | .nilIface | .pointer none => true
 | _ => false
theorem scalar_one {x : Value} (h : scalar x = true) : x.oneCell' = true := by
 cases x <;> first | rfl | (simp [scalar] at h)
inductive Rep (w : World) (F : Nat → Prop) : Env → V → Value → Prop where
 | undef {φ : Env} {v : Value} : Rep w F φ .undef v
 | nils {φ : Env} : Rep w F φ .nils (.slice none 0 0)
 | sc {φ : Env} {x : Value} (h : scalar x = true) : Rep w F φ (.sc x) x
 | agg {φ : Env} {xs : List V} {vs : List Value} (hl : xs.length = vs.length) (h : ∀ (i : Nat) (x : V) (v : Value), xs[i]? = some x → vs[i]? = some v → Rep w F φ x v)
   (one : ∀ v, v ∈ vs → Value.oneCell' v = true) : Rep w F φ (.agg xs) (.agg vs.toArray)
 | tup {φ : Env} {xs : List V} {vs : List Value} (hl : xs.length = vs.length) (h : ∀ (i : Nat) (x : V) (v : Value), xs[i]? = some x → vs[i]? = some v → Rep w F φ x v) :
   Rep w F φ (.tup xs) (.tuple vs.toArray)
 | lst {φ : Env} {z : Nat} {rows : List (List V)} {a : Option Addr} {cap : Nat} (b o : Nat) (g : Nat → Nat → Value) (ha : rows ≠ [] → a = some ⟨b, o, none⟩) (hc : rows.length ≤ cap) (hm : cap ≤ maxLen)
   (hz : ∀ r, r ∈ rows → r.length = z) (hM : ∀ i j x, cellAt rows i j = some x → F b)
   (cell : ∀ i j x, cellAt rows i j = some x → World.cell? w ⟨b, o + i * z + j, none⟩ = some (g i j))
   (one : ∀ i j x, cellAt rows i j = some x → Value.oneCell' (g i j) = true)
   (sub : ∀ i j x, cellAt rows i j = some x → Rep w F (fun _ => none) x (g i j)) : Rep w F φ (.lst z rows) (.slice a rows.length cap)
 | refNil {φ : Env} {n : Nm} {z : Nat} (h : φ n = some (z, .nil)) : Rep w F φ (.ref n 0 0) (.slice none 0 0)
 | ref {φ : Env} {n : Nm} {z b cap off len o : Nat} (h : φ n = some (z, .at b cap)) (hl : off + len ≤ cap) (hm : cap ≤ maxLen) (ho : off < cap → o = off * z) :
   Rep w F φ (.ref n off len) (.slice (some ⟨b, o, none⟩) len (cap - off))
 | ptr {φ : Env} {n : Nm} {z b cap r c : Nat} (h : φ n = some (z, .at b cap)) : Rep w F φ (.ptr n r c) (.pointer (some ⟨b, r * z + c, none⟩))
 | lptr {φ : Env} {z : Nat} {rows : List (List V)} {r c : Nat} (b o : Nat) (g : Nat → Nat → Value) (hz : ∀ r, r ∈ rows → r.length = z) (hM : ∀ i j x, cellAt rows i j = some x → F b)
   (cell : ∀ i j x, cellAt rows i j = some x → World.cell? w ⟨b, o + i * z + j, none⟩ = some (g i j))
   (one : ∀ i j x, cellAt rows i j = some x → Value.oneCell' (g i j) = true)
   (sub : ∀ i j x, cellAt rows i j = some x → Rep w F (fun _ => none) x (g i j)) : Rep w F φ (.lptr z rows r c) (.pointer (some ⟨b, o + r * z + c, none⟩))
 | fn {φ : Env} {f : FuncId} {xs : List V} {vs : List Value} (hl : xs.length = vs.length) (h : ∀ (i : Nat) (x : V) (v : Value), xs[i]? = some x → vs[i]? = some v → Rep w F φ x v) :
   Rep w F φ (.fn f xs) (.func (.func f) #[] vs.toArray)
theorem Rep.mono {w w' : World} {F F' : Nat → Prop} {φ : Env} {x : V} {v : Value} (h : Rep w F φ x v) (hx : ∀ c, F c → w'.heap[c]? = w.heap[c]?) (hF : ∀ c, F c → F' c) :
  ∀ {φ' : Env}, (∀ n e, φ n = some e → φ' n = some e) → Rep w' F' φ' x v := by
 induction h with
 | undef => intro φ' _; exact .undef
 | nils => intro φ' _; exact .nils
 | sc h => intro φ' _; exact .sc h
 | agg hl h one ih => intro φ' hφ; exact .agg hl (fun i x v hx' hv => ih i x v hx' hv hφ) one
 | tup hl h ih => intro φ' hφ; exact .tup hl (fun i x v hx' hv => ih i x v hx' hv hφ)
 | lst b o g ha hc hm hz hM cell one sub ih =>
  intro φ' _
  refine .lst b o g ha hc hm hz (fun i j x hx' => hF _ (hM i j x hx')) (fun i j x hx' => ?_) one (fun i j x hx' => ih i j x hx' (fun _ _ h => by cases h))
  exact (World.cell?_of_block (w := w) (hx b (hM i j x hx'))).trans (cell i j x hx')
 | refNil h => intro φ' hφ; exact .refNil (hφ _ _ h)
 | ref h hl hm ho => intro φ' hφ; exact .ref (hφ _ _ h) hl hm ho
 | ptr h => intro φ' hφ; exact .ptr (hφ _ _ h)
 | lptr b o g hz hM cell one sub ih =>
  intro φ' _
  refine .lptr b o g hz (fun i j x hx' => hF _ (hM i j x hx')) (fun i j x hx' => ?_) one (fun i j x hx' => ih i j x hx' (fun _ _ h => by cases h))
  exact (World.cell?_of_block (w := w) (hx b (hM i j x hx'))).trans (cell i j x hx')
 | fn hl h ih => intro φ' hφ; exact .fn hl (fun i x v hx' hv => ih i x v hx' hv hφ)
def V.free : V → Bool
 | .undef | .nils | .sc _ | .lst _ _ | .lptr _ _ _ _ => true
 | _ => false
theorem Rep.unname {w : World} {F : Nat → Prop} {φ φ' : Env} {x : V} {v : Value} (h : Rep w F φ x v) (hf : x.free = true) : Rep w F φ' x v := by
 cases h with
 | undef => exact .undef
 | nils => exact .nils
 | sc h => exact .sc h
 | lst b o g ha hc hm hz hM cell one sub => exact .lst b o g ha hc hm hz hM cell one sub
 | lptr b o g hz hM cell one sub => exact .lptr b o g hz hM cell one sub
 | _ => simp [V.free] at hf
structure St where
 n : Nat
 tm : Nat → V
 hp : Heap
def Mset (hp : Heap) (φ : Env) (b : Nat) : Prop := ∃ n E z cap, hp n = some (some E) ∧ φ n = some (z, .at b cap)
def Holds (w : World) (F : Nat → Prop) (φ : Env) (E : Entry) : Loc → Prop
 | .nil => E.rows = []
 | .at b cap => ∃ arr fz, w.heap[b]? = some (.cells arr E.e fz) ∧ (E.str = false → fz = (0, 0)) ∧ (fz = (0, 0) ∨ arr.size ≤ fz.1) ∧ arr.size = cap * E.z ∧ E.rows.length ≤ cap ∧ cap ≤ maxLen ∧
   (∀ r ∈ E.rows, r.length = E.z) ∧ ∀ i j x, cellAt E.rows i j = some x → ∃ v, arr[i * E.z + j]? = some v ∧ v.oneCell' = true ∧ Rep w F φ x v
theorem Holds.mono {w w' : World} {F F' : Nat → Prop} {φ φ' : Env} {E : Entry} {loc : Loc} (h : Holds w F φ E loc) (hx : ∀ c, F c → w'.heap[c]? = w.heap[c]?) (hF : ∀ c, F c → F' c)
  (hφ : ∀ n e, φ n = some e → φ' n = some e) (hb : ∀ b cap, loc = .at b cap → w'.heap[b]? = w.heap[b]?) : Holds w' F' φ' E loc := by
 cases loc with
 | nil => exact h
 | «at» b cap =>
  obtain ⟨arr, fz, h1, hs, h2, h3, h4, h5, h6, h7⟩ := h
  refine ⟨arr, fz, (hb b cap rfl).trans h1, hs, h2, h3, h4, h5, h6, fun i j x hx' => ?_⟩
  obtain ⟨v, hv, h1', hr⟩ := h7 i j x hx'
  exact ⟨v, hv, h1', hr.mono hx hF hφ⟩
structure Base where
 M : Nat → Prop
 env : Env
def Fresh (w0 : World) (E : Entry) (loc : Loc) : Prop := E.mine = true → ∀ b cap, loc = .at b cap → w0.heap.size ≤ b
structure Sat (w0 : World) (M0 : Base) (F0 : Nat → Prop) (st : St) (tm : Array Value) (w : World) (φ : Env) (F : Nat → Prop) : Prop where
 os : w.os = w0.os
 tape : w.tape = w0.tape
 output : w.output = w0.output
 size : w0.heap.size ≤ w.heap.size
 old : ∀ b, b < w0.heap.size → ¬ M0.M b → w.heap[b]? = w0.heap[b]?
 mine : ∀ b, Mset st.hp φ b → M0.M b ∨ w0.heap.size ≤ b
 bas : ∀ n e, M0.env n = some e → n.1 = 1000 ∧ φ n = some e
 fr : ∀ b, F b → F0 b ∨ w0.heap.size ≤ b
 dis : ∀ b, F b → ¬ Mset st.hp φ b
 flt : ∀ b, F b → b < w.heap.size
 slots : tm.size = st.n
 rep : ∀ t, Rep w F φ (st.tm t) (tm.getD t undef)
 inj : ∀ n n' E E' z z' b cap cap', st.hp n = some (some E) → st.hp n' = some (some E') → φ n = some (z, .at b cap) → φ n' = some (z', .at b cap') → n = n'
 obj : ∀ n E, st.hp n = some (some E) → ∃ loc, φ n = some (E.z, loc) ∧ Holds w F φ E loc ∧ Fresh w0 E loc
 absent : ∀ n, st.hp n = none → φ n = none
theorem Sat.lt {w0 M0 F0 st tm w φ F} (h : Sat w0 M0 F0 st tm w φ F) {b : Nat} (hb : Mset st.hp φ b) : b < w.heap.size := by
 obtain ⟨n, E, z, cap, h1, h2⟩ := hb
 obtain ⟨loc, h3, h4, -⟩ := h.obj n E h1
 rw [h2] at h3
 obtain ⟨rfl, rfl⟩ : z = E.z ∧ Loc.at b cap = loc := by simpa using h3
 obtain ⟨arr, fz, h5, _⟩ := h4
 exact (Array.getElem?_eq_some_iff.1 h5).1
structure Turn (w0 : World) (M0 : Base) (hp : Heap) (w : World) (φ : Env) (hp' : Heap) (w' : World) (φ' : Env) (T : Nm → Prop) : Prop where
 os : w'.os = w.os
 tape : w'.tape = w.tape
 output : w'.output = w.output
 size : w.heap.size ≤ w'.heap.size
 frz : ∀ c, c < w.heap.size → ¬ Mset hp φ c → w'.heap[c]? = w.heap[c]?
 same : ∀ n, ¬ T n → hp' n = hp n ∧ φ' n = φ n
 env : ∀ n e, φ n = some e → φ' n = some e
 blk : ∀ n E z b cap, ¬ T n → hp n = some (some E) → φ n = some (z, .at b cap) → w'.heap[b]? = w.heap[b]?
 own : ∀ n E z b cap, T n → hp' n = some (some E) → φ' n = some (z, .at b cap) →
  w.heap.size ≤ b ∨ ∃ m E' z' cap', T m ∧ hp m = some (some E') ∧ φ m = some (z', .at b cap')
 tinj : ∀ n n' E E' z z' b cap cap', T n → T n' → hp' n = some (some E) → hp' n' = some (some E') → φ' n = some (z, .at b cap) → φ' n' = some (z', .at b cap') → n = n'
 abs : ∀ n, T n → hp' n = none → φ' n = none
theorem Turn.m {w0 M0 hp w φ hp' w' φ' T} (h : Turn w0 M0 hp w φ hp' w' φ' T) {b : Nat} (hb : Mset hp' φ' b) : Mset hp φ b ∨ w.heap.size ≤ b := by
 obtain ⟨n, E, z, cap, h1, h2⟩ := hb
 by_cases hT : T n
 ·rcases h.own n E z b cap hT h1 h2 with h3 | ⟨m, E', z', cap', _, h3, h4⟩
  ·exact .inr h3
  ·exact .inl ⟨m, E', z', cap', h3, h4⟩
 ·obtain ⟨h3, h4⟩ := h.same n hT
  exact .inl ⟨n, E, z, cap, h3 ▸ h1, h4 ▸ h2⟩
theorem Sat.ext {w0 M0 F0 st tm w φ F} (h : Sat w0 M0 F0 st tm w φ F) {hp' w' φ' T} (ht : Turn w0 M0 st.hp w φ hp' w' φ' T) : ∀ c, F c → w'.heap[c]? = w.heap[c]? :=
 fun c hc => ht.frz c (h.flt c hc) (h.dis c hc)
theorem Sat.keep {w0 M0 F0 st tm w φ F} (h : Sat w0 M0 F0 st tm w φ F) {hp' w' φ' T} (ht : Turn w0 M0 st.hp w φ hp' w' φ' T) {x : V} {v : Value} (hr : Rep w F φ x v) : Rep w' F φ' x v :=
 hr.mono (h.ext ht) (fun _ h => h) ht.env
theorem Sat.turn {w0 M0 F0 st tm w φ F} (h : Sat w0 M0 F0 st tm w φ F) {st' : St} {tm' : Array Value} {w' : World} {φ' : Env} {T : Nm → Prop}
  (ht : Turn w0 M0 st.hp w φ st'.hp w' φ' T) (slots : tm'.size = st'.n)
  (rep : ∀ t, Rep w' F φ' (st'.tm t) (tm'.getD t undef))
  (obj : ∀ n E, T n → st'.hp n = some (some E) → ∃ loc, φ' n = some (E.z, loc) ∧ Holds w' F φ' E loc ∧ Fresh w0 E loc) : Sat w0 M0 F0 st' tm' w' φ' F where
 os := ht.os.trans h.os
 tape := ht.tape.trans h.tape
 output := ht.output.trans h.output
 size := Nat.le_trans h.size ht.size
 old b hb hM := by
  have hlt : b < w.heap.size := Nat.lt_of_lt_of_le hb h.size
  rw [ht.frz b hlt (fun hm => (h.mine b hm).elim hM (fun h1 => by omega)), h.old b hb hM]
 mine b hb := by
  rcases ht.m hb with h1 | h1
  ·exact h.mine b h1
  ·exact .inr (Nat.le_trans h.size h1)
 bas n e he := ⟨(h.bas n e he).1, ht.env n e (h.bas n e he).2⟩
 fr := h.fr
 dis b hb hm := (ht.m hm).elim (h.dis b hb) (fun h1 => by have := h.flt b hb; omega)
 flt b hb := Nat.lt_of_lt_of_le (h.flt b hb) ht.size
 slots := slots
 rep := rep
 inj n n' E E' z z' b cap cap' h1 h2 h3 h4 := by
  by_cases hT : T n <;> by_cases hT' : T n'
  ·exact ht.tinj n n' E E' z z' b cap cap' hT hT' h1 h2 h3 h4
  ·exfalso
   obtain ⟨e1, e2⟩ := ht.same n' hT'
   rw [e1] at h2; rw [e2] at h4
   rcases ht.own n E z b cap hT h1 h3 with h5 | ⟨m, E'', z'', cap'', hm, h5, h6⟩
   ·have := h.lt ⟨n', E', z', cap', h2, h4⟩; omega
   ·have := h.inj m n' E'' E' z'' z' b cap'' cap' h5 h2 h6 h4; subst this; exact hT' hm
  ·exfalso
   obtain ⟨e1, e2⟩ := ht.same n hT
   rw [e1] at h1; rw [e2] at h3
   rcases ht.own n' E' z' b cap' hT' h2 h4 with h5 | ⟨m, E'', z'', cap'', hm, h5, h6⟩
   ·have := h.lt ⟨n, E, z, cap, h1, h3⟩; omega
   ·have := h.inj m n E'' E z'' z b cap'' cap h5 h1 h6 h3; subst this; exact hT hm
  ·obtain ⟨e1, e2⟩ := ht.same n hT
   obtain ⟨e3, e4⟩ := ht.same n' hT'
   rw [e1] at h1; rw [e2] at h3; rw [e3] at h2; rw [e4] at h4
   exact h.inj n n' E E' z z' b cap cap' h1 h2 h3 h4
 obj n E hE := by
  by_cases hT : T n
  ·exact obj n E hT hE
  ·obtain ⟨e1, e2⟩ := ht.same n hT
   rw [e1] at hE
   obtain ⟨loc, h3, h4, h5⟩ := h.obj n E hE
   refine ⟨loc, e2.trans h3, h4.mono (h.ext ht) (fun _ h => h) ht.env (fun b cap hb => ?_), h5⟩
   subst hb
   exact ht.blk n E _ b cap hT hE h3
 absent n hn := by
  by_cases hT : T n
  ·exact ht.abs n hT hn
  ·obtain ⟨e1, e2⟩ := ht.same n hT
   rw [e2]; exact h.absent n (e1 ▸ hn)
theorem Turn.still {w0 M0 hp w φ w'} (h1 : w'.heap = w.heap) (h2 : w'.os = w.os) (h3 : w'.tape = w.tape) (h4 : w'.output = w.output) : Turn w0 M0 hp w φ hp w' φ (fun _ => False) where
 os := h2
 tape := h3
 output := h4
 size := by rw [h1]; exact Nat.le_refl _
 frz c _ _ := by rw [h1]
 same _ _ := ⟨rfl, rfl⟩
 env _ _ h := h
 blk _ _ _ _ _ _ _ _ := by rw [h1]
 own _ _ _ _ _ h := h.elim
 tinj _ _ _ _ _ _ _ _ _ h := h.elim
 abs _ h := h.elim
def St.set (st : St) (d : Nat) (x : V) : St := { st with tm := fun t => if t = d then x else st.tm t }
def St.put (st : St) (d : Option Nat) (x : V) : St := match d with | some d => st.set d x | none => st
def upd (hp : Heap) (n : Nm) (e : Option Entry) : Heap := fun m => if m = n then some e else hp m
def St.up (st : St) (n : Nm) (e : Option Entry) : St := { st with hp := upd st.hp n e }
@[simp] theorem St.set_hp (st : St) (d : Nat) (x : V) : (st.set d x).hp = st.hp := rfl
@[simp] theorem St.set_n (st : St) (d : Nat) (x : V) : (st.set d x).n = st.n := rfl
@[simp] theorem St.put_hp (st : St) (d : Option Nat) (x : V) : (st.put d x).hp = st.hp := by cases d <;> rfl
@[simp] theorem St.put_n (st : St) (d : Option Nat) (x : V) : (st.put d x).n = st.n := by cases d <;> rfl
@[simp] theorem St.up_hp (st : St) (n : Nm) (e : Option Entry) : (st.up n e).hp = upd st.hp n e := rfl
@[simp] theorem St.up_n (st : St) (n : Nm) (e : Option Entry) : (st.up n e).n = st.n := rfl
@[simp] theorem St.up_tm (st : St) (n : Nm) (e : Option Entry) : (st.up n e).tm = st.tm := rfl
def dstOk (d : Option Nat) (n : Nat) : Bool := match d with | some d => d < n | none => true
theorem rep_put {w' : World} {F' : Nat → Prop} {φ' : Env} {st : St} {a : Act} {d : Option Nat} {x : V} {v : Value} (hd : dstOk d st.n = true) (hs : a.tmps.size = st.n)
  (rep : ∀ t, Rep w' F' φ' (st.tm t) (a.tmps.getD t undef)) (hx : Rep w' F' φ' x v) (t : Nat) :
  Rep w' F' φ' ((st.put d x).tm t) ((a.put d v).tmps.getD t undef) := by
 cases d with
 | none => exact rep t
 | some d =>
  simp only [dstOk, decide_eq_true_eq] at hd
  simp only [St.put, St.set, Act.put]
  by_cases ht : t = d
  ·subst ht; simpa [hs, hd] using hx
  ·have := rep t
   simpa [ht, Array.getElem?_setIfInBounds_ne (Ne.symm ht)] using this
theorem size_put (a : Act) (d : Option Nat) (v : Value) : (a.put d v).tmps.size = a.tmps.size := by cases d <;> simp [Act.put]
theorem Sat.put {w0 M0 F0 st} {a : Act} {w φ F} (h : Sat w0 M0 F0 st a.tmps w φ F) {d : Option Nat} {x : V} {v : Value} (hd : dstOk d st.n = true) (hx : Rep w F φ x v) :
  Sat w0 M0 F0 (st.put d x) (a.put d v).tmps w φ F :=
 h.turn (st' := st.put d x) (T := fun _ => False) (by simpa using Turn.still rfl rfl rfl rfl) (by simp [size_put, h.slots])
  (by simpa using rep_put hd h.slots h.rep hx) (fun _ _ h => h.elim)
theorem Sat.drew {w0 M0 F0 st tm w φ F} (h : Sat w0 M0 F0 st tm w φ F) : Sat w0 M0 F0 st tm w.drew φ F :=
 h.turn (st' := st) (T := fun _ => False) (Turn.still rfl rfl rfl rfl) h.slots
  (fun t => (h.rep t).mono (w' := w.drew) (fun _ _ => rfl) (fun _ h => h) (fun _ _ h => h)) (fun _ _ h => h.elim)
theorem Sat.drop {w0 M0 F0 st tm w φ F} (h : Sat w0 M0 F0 st tm w φ F) (n : Nm) {E : Entry} (hn : st.hp n = some (some E)) (hM : E.mine = true) :
    Sat w0 M0 F0 (st.up n none) tm w φ (fun b => F b ∨ ∃ z cap, φ n = some (z, .at b cap)) := by
  have ht : Turn w0 M0 st.hp w φ (st.up n none).hp w φ (fun m => m = n) :=
    { os := rfl, tape := rfl, output := rfl, size := Nat.le_refl _, frz := fun _ _ _ => rfl
      same := fun m hm => ⟨by simp [upd, hm], rfl⟩
      env := fun _ _ h => h
      blk := fun _ _ _ _ _ _ _ _ => rfl
      own := fun m E z b cap hm hE => by subst hm; simp [upd] at hE
      tinj := fun m m' E E' z z' b cap cap' hm _ hE => by subst hm; simp [upd] at hE
      abs := fun m hm hE => by subst hm; simp [upd] at hE }
  have h1 := h.turn ht h.slots (fun t => h.keep ht (h.rep t)) (fun m E hm hE => by subst hm; simp [upd] at hE)
  refine { h1 with fr := ?_, dis := ?_, flt := ?_, rep := ?_, obj := ?_ }
  · rintro b (hb | ⟨z, cap, hb⟩)
    · exact h.fr b hb
    · obtain ⟨loc, g1, -, g3⟩ := h.obj n E hn
      rw [hb] at g1
      obtain ⟨-, rfl⟩ : z = E.z ∧ Loc.at b cap = loc := by simpa using g1
      exact .inr (g3 hM b cap rfl)
  · rintro b (hb | ⟨z, cap, hb⟩) hm
    · exact h1.dis b hb hm
    · obtain ⟨m, E', z', cap', hE', hφ⟩ := hm
      have hne : m ≠ n := fun e => by subst e; simp [upd] at hE'
      simp only [St.up_hp, upd, hne, if_false] at hE'
      exact hne (h.inj m n E' E z' z b cap' cap hE' hn hφ hb)
  · rintro b (hb | ⟨z, cap, hb⟩)
    · exact h.flt b hb
    · exact h.lt ⟨n, E, z, cap, hn, hb⟩
  · exact fun t => (h1.rep t).mono (fun _ _ => rfl) (fun _ h => .inl h) (fun _ _ h => h)
  · intro m E' hE'
    obtain ⟨loc, g1, g2, g3⟩ := h1.obj m E' hE'
    exact ⟨loc, g1, g2.mono (fun _ _ => rfl) (fun _ h => .inl h) (fun _ _ h => h) (fun _ _ _ => rfl), g3⟩
theorem Turn.alloc {w0 M0 F0 st tm w φ F} (h : Sat w0 M0 F0 st tm w φ F) (n : Nm) (hn : st.hp n = none) (E : Entry) (cap : Nat) {w' : World}
  (h1 : w'.os = w.os) (h2 : w'.tape = w.tape) (h3 : w'.output = w.output) (h4 : w'.heap.size = w.heap.size + 1) (h5 : ∀ c, c < w.heap.size → w'.heap[c]? = w.heap[c]?) :
  Turn w0 M0 st.hp w φ (upd st.hp n (some E)) w' (fun m => if m = n then some (E.z, .at w.heap.size cap) else φ m) (fun m => m = n) where
 os := h1
 tape := h2
 output := h3
 size := by omega
 frz c hc _ := h5 c hc
 same m hm := ⟨by simp [upd, hm], by simp [hm]⟩
 env m e he := by
  by_cases hm : m = n
  ·subst hm; rw [h.absent _ hn] at he; cases he
  ·simp [hm, he]
 blk m E' z b cap' hm hE hφ := h5 b (h.lt ⟨m, E', z, cap', hE, hφ⟩)
 own m E' z b cap' hm hE hφ := by subst hm; simp at hφ; left; omega
 tinj m m' _ _ _ _ _ _ _ hm hm' _ _ _ _ := by subst hm; exact hm'.symm
 abs m hm hE := by subst hm; simp [upd] at hE
end Go.Abs
