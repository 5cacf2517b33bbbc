/- The abstract layer, part A2. -/
import Derived.Test.YtbkmnbpgpklojaaGreatDoorAbsA1
namespace Go.Abs
open Go
def aggD : TypeDesc → Bool
 | .struct _ | .array _ _ => true
 | _ => false
def tyK (P : Program) (t : TypeId) : Option (Bool × Nat) := match P.underlying t, P.info? t with | some d, some i => some (aggD d, i.size) | _, _ => none
def slTy (P : Program) (t : TypeId) : Option (TypeId × Nat × Nat) := match P.underlying t with | some (.slice e) => (P.info? e).map fun i => (e, i.size, i.bytes) | _ => none
def zeroC (P : Program) (t : TypeId) : Option (List Value) := (P.info? t).bind fun i => i.zero.map fun v => v.cells.toList
def fldTy (P : Program) (s : TypeId) (f : Nat) : Option (Nat × Nat × Bool) := match P.underlying s with | some (.struct fs) => (fs[f]?).bind fun fd => (tyK P fd.type).map fun k => (fd.offset, k.2, k.1) | _ => none
theorem tyK_spec {P : Program} {t : TypeId} {b : Bool} {n : Nat} (h : tyK P t = some (b, n)) : ∃ d i, P.underlying t = some d ∧ P.info? t = some i ∧ aggD d = b ∧ i.size = n := by
 unfold tyK at h
 split at h
 ·rename_i d i h1 h2
  simp at h
  exact ⟨d, i, h1, h2, h.1, h.2⟩
 ·cases h
theorem slTy_spec {P : Program} {t e : TypeId} {z n : Nat} (h : slTy P t = some (e, z, n)) : ∃ i, P.underlying t = some (.slice e) ∧ P.info? e = some i ∧ i.size = z ∧ i.bytes = n := by
 unfold slTy at h
 split at h
 ·rename_i e' h1
  cases hi : P.info? e' with
  | none => simp [hi] at h
  | some i =>
   simp [hi] at h
   obtain ⟨rfl, h2, h3⟩ := h
   exact ⟨i, h1, hi, h2, h3⟩
 ·cases h
theorem zeroC_spec {P : Program} {t : TypeId} {zs : List Value} (h : zeroC P t = some zs) : ∃ i v, P.info? t = some i ∧ i.zero = some v ∧ v.cells.toList = zs := by
 unfold zeroC at h
 cases hi : P.info? t with
 | none => simp [hi] at h
 | some i =>
  cases hz : i.zero with
  | none => simp [hi, hz] at h
  | some v => exact ⟨i, v, rfl, hz, by simpa [hi, hz] using h⟩
theorem fldTy_spec {P : Program} {s : TypeId} {f o n : Nat} {b : Bool} (h : fldTy P s f = some (o, n, b)) :
  ∃ fs fd d i, P.underlying s = some (.struct fs) ∧ fs[f]? = some fd ∧ fd.offset = o ∧ P.underlying fd.type = some d ∧ P.info? fd.type = some i ∧ aggD d = b ∧ i.size = n := by
 unfold fldTy at h
 split at h
 ·rename_i fs h1
  cases hf : fs[f]? with
  | none => simp [hf] at h
  | some fd =>
   cases hk : tyK P fd.type with
   | none => simp [hf, hk] at h
   | some k =>
    obtain ⟨b', n'⟩ := k
    obtain ⟨d, i, h2, h3, h4, h5⟩ := tyK_spec hk
    simp [hf, hk] at h
    obtain ⟨rfl, rfl, rfl⟩ := h
    exact ⟨fs, fd, d, i, h1, hf, rfl, h2, h3, h4, h5⟩
 ·cases h
def cv1 (x : Value) : V := match x with | .slice none 0 0 => .nils | x => if scalar x then .sc x else .undef
def cvV (x : Value) : V := match x with | .agg cs => if cs.all (·.oneCell') then .agg (cs.toList.map cv1) else .undef | x => cv1 x
def St.ev (st : St) : Operand → V
 | .tmp t => st.tm t
 | .const v => cvV v
 | .global _ => .undef
 | .func f => .fn f []
theorem rep_cv1 {w : World} {F : Nat → Prop} {φ : Env} (x : Value) : Rep w F φ (cv1 x) x := by
 unfold cv1
 split
 ·exact .nils
 ·split
  ·rename_i h; exact .sc h
  ·exact .undef
theorem rep_cvV {w : World} {F : Nat → Prop} {φ : Env} (x : Value) : Rep w F φ (cvV x) x := by
 unfold cvV
 split
 ·rename_i cs
  split
  ·rename_i h
   refine Rep.agg (vs := cs.toList) (by simp) (fun i x v hx hv => ?_) (fun v hv => Array.all_eq_true_iff_forall_mem.1 h v (by simpa using hv))
   simp only [List.getElem?_map, hv, Option.map_some, Option.some.injEq] at hx
   subst hx
   exact rep_cv1 v
  ·exact .undef
 ·exact rep_cv1 _
theorem Sat.ev {w0 M0 F0 st} {a : Act} {w φ F} (h : Sat w0 M0 F0 st a.tmps w φ F) (x : Operand) : Rep w F φ (st.ev x) (a.eval x) := by
 cases x with
 | tmp t => exact h.rep t
 | const v => exact rep_cvV v
 | global g => exact .undef
 | func f => exact .fn (vs := []) rfl (fun i x v hx => by simp at hx)
theorem Rep.sc_inv {w F φ x v} (h : Rep w F φ (.sc x) v) : v = x ∧ scalar x = true := by cases h with | sc h => exact ⟨rfl, h⟩
theorem Rep.agg_inv {w F φ xs v} (h : Rep w F φ (.agg xs) v) : ∃ vs : List Value, v = .agg vs.toArray ∧ xs.length = vs.length ∧ (∀ (i : Nat) x v, xs[i]? = some x → vs[i]? = some v → Rep w F φ x v) ∧ ∀ v, v ∈ vs → Value.oneCell' v = true := by
 cases h with | agg hl h one => exact ⟨_, rfl, hl, h, one⟩
theorem Rep.tup_inv {w F φ xs v} (h : Rep w F φ (.tup xs) v) : ∃ vs : List Value, v = .tuple vs.toArray ∧ xs.length = vs.length ∧ (∀ (i : Nat) x v, xs[i]? = some x → vs[i]? = some v → Rep w F φ x v) := by
 cases h with | tup hl h => exact ⟨_, rfl, hl, h⟩
theorem Rep.fn_inv {w F φ f xs v} (h : Rep w F φ (.fn f xs) v) : ∃ vs : List Value, v = .func (.func f) #[] vs.toArray ∧ xs.length = vs.length ∧ (∀ (i : Nat) x v, xs[i]? = some x → vs[i]? = some v → Rep w F φ x v) := by
 cases h with | fn hl h => exact ⟨_, rfl, hl, h⟩
def V.cells : V → Option (List V)
 | .agg xs => some xs
 | .nils => some [.nils]
 | .sc x => some [.sc x]
 | .lst z r => some [.lst z r]
 | .ref n o l => some [.ref n o l]
 | .ptr n r c => some [.ptr n r c]
 | .lptr z r i c => some [.lptr z r i c]
 | .fn f c => some [.fn f c]
 | _ => none
theorem rep_cells {w F φ x v cs} (h : Rep w F φ x v) (hc : x.cells = some cs) :
  v.cells.toList.length = cs.length ∧ (∀ (i : Nat) y u, cs[i]? = some y → v.cells.toList[i]? = some u → Rep w F φ y u) ∧ ∀ u, u ∈ v.cells.toList → Value.oneCell' u = true := by
 cases h with
 | undef => cases hc
 | tup => cases hc
 | agg hl h one => simp only [V.cells, Option.some.injEq] at hc; subst hc; exact ⟨by simp [Value.cells, hl], by simpa [Value.cells] using h, by simpa [Value.cells] using one⟩
 | sc h =>
  simp only [V.cells, Option.some.injEq] at hc; subst hc
  have h1 := scalar_one h
  have hv : ∀ x : Value, x.oneCell' = true → x.cells = #[x] := fun x hx => by cases x <;> first | rfl | (simp [Value.oneCell'] at hx)
  rw [hv _ h1]
  refine ⟨rfl, fun i y u hy hu => ?_, by simpa using h1⟩
  cases i with
  | zero => simp at hy hu; subst hy; subst hu; exact .sc h
  | succ i => simp at hy
 | _ =>
  simp only [V.cells, Option.some.injEq] at hc; subst hc
  refine ⟨rfl, fun i y u hy hu => ?_, by simp [Value.cells, Value.oneCell']⟩
  cases i with
  | zero => simp [Value.cells] at hy hu; subst hy; subst hu; first | exact .nils | (constructor <;> assumption) | skip
  | succ i => simp at hy
abbrev Next (w0 : World) (M0 : Base) (F0 : Nat → Prop) (st : St) (defers : List Deferred) (next : Act → World → Prop) : Prop :=
 ∀ (a : Act) (w : World) (φ : Env) (F : Nat → Prop), Sat w0 M0 F0 st a.tmps w φ F → a.defers = defers → next a w
theorem put_defers' (a : Act) (d : Option Nat) (v : Value) : (a.put d v).defers = a.defers := by cases d <;> rfl
section
variable {P : Program} {w0 : World} {M0 : Base} {F0 : Nat → Prop} {st : St} {a : Act} {w : World} {φ : Env} {F : Nat → Prop} {o : Oper} {next : Act → World → Prop} {Q : Exit → Act → World → Prop}
theorem ok_val (h : Sat w0 M0 F0 st a.tmps w φ F) (hd : dstOk o.dst st.n = true) {x : V} {v : Value} (hr : (execOp a.eval o).run P w = .ok (.value v) w)
  (hx : Rep w F φ x v) (hn : Next w0 M0 F0 (st.put o.dst x) a.defers next) : o.wp P a w next Q := by
 unfold Oper.wp
 rw [hr]
 exact hn _ _ _ _ (h.put hd hx) (put_defers' _ _ _)
theorem ok_turn (h : Sat w0 M0 F0 st a.tmps w φ F) (hd : dstOk o.dst st.n = true) {x : V} {v : Value} {w' : World} {φ' : Env} {hp' : Heap} {T : Nm → Prop}
  (hr : (execOp a.eval o).run P w = .ok (.value v) w') (ht : Turn w0 M0 st.hp w φ hp' w' φ' T) (hx : Rep w' F φ' x v)
  (obj : ∀ n E, T n → hp' n = some (some E) → ∃ loc, φ' n = some (E.z, loc) ∧ Holds w' F φ' E loc ∧ Fresh w0 E loc)
  (hn : Next w0 M0 F0 { st.put o.dst x with hp := hp' } a.defers next) : o.wp P a w next Q := by
 unfold Oper.wp
 rw [hr]
 refine hn _ _ φ' F (h.turn (st' := { st.put o.dst x with hp := hp' }) ht (by simp [size_put, h.slots]) (fun t => ?_) obj) (put_defers' _ _ _)
 exact rep_put hd h.slots (fun t => h.keep ht (h.rep t)) hx t
theorem ok_move (h : Sat w0 M0 F0 st a.tmps w φ F) (hd : dstOk o.dst st.n = true) {x : Operand} (ho : o.op = .move x ∨ o.op = .assign x)
  (hn : Next w0 M0 F0 (st.put o.dst (st.ev x)) a.defers next) : o.wp P a w next Q :=
 ok_val h hd (v := a.eval x) (by rcases ho with ho | ho <;> simp [execOp, ho]) (h.ev x) hn
theorem ok_pick (h : Sat w0 M0 F0 st a.tmps w φ F) (hd : dstOk o.dst st.n = true) {c x y : Operand} {b : Bool} (ho : o.op = .pick c x y) (hc : st.ev c = .sc (.bool b))
  (hn : Next w0 M0 F0 (st.put o.dst (if b then st.ev x else st.ev y)) a.defers next) : o.wp P a w next Q := by
 have h1 := (hc ▸ h.ev c).sc_inv.1
 refine ok_val h hd (v := if b then a.eval x else a.eval y) ?_ ?_ hn
 ·simp [execOp, ho, h1, asBool]
 ·cases b <;> simp [h.ev]
theorem ok_pure (h : Sat w0 M0 F0 st a.tmps w φ F) (hd : dstOk o.dst st.n = true) {u : Value} (hu : scalar u = true)
  (hrun : ∀ ρ : Operand → Value, (∀ f, ρ (.func f) = .func (.func f) #[] #[]) → (∀ x, x ∈ o.op.operands → ∀ u, st.ev x = .sc u → ρ x = u) → ∀ w, (execOp ρ o).run P w = .ok (.value u) w)
  (hn : Next w0 M0 F0 (st.put o.dst (.sc u)) a.defers next) : o.wp P a w next Q :=
 ok_val h hd (hrun a.eval (fun _ => rfl) (fun x _ _c hc => (hc ▸ h.ev x).sc_inv.1) w) (.sc hu) hn
theorem ok_extract (h : Sat w0 M0 F0 st a.tmps w φ F) (hd : dstOk o.dst st.n = true) {x : Operand} {i : Nat} {xs : List V} {y : V} (ho : o.op = .extract x i) (hx : st.ev x = .tup xs) (hy : xs[i]? = some y)
  (hn : Next w0 M0 F0 (st.put o.dst y) a.defers next) : o.wp P a w next Q := by
 obtain ⟨vs, h1, h2, h3⟩ := (hx ▸ h.ev x).tup_inv
 have hi : i < xs.length := (List.getElem?_eq_some_iff.1 hy).1
 have hv : vs[i]? = some vs[i] := List.getElem?_eq_getElem (h2 ▸ hi)
 refine ok_val h hd (v := vs[i]) ?_ (h3 i y _ hy hv) hn
 simp [execOp, ho, h1, Instr.extract, hv]
theorem ok_nilCheck (h : Sat w0 M0 F0 st a.tmps w φ F) (hd : dstOk o.dst st.n = true) {x : Operand} (ho : o.op = .nilCheck x) (hx : (∃ n r c, st.ev x = .ptr n r c) ∨ (∃ z rows r c, st.ev x = .lptr z rows r c) ∨ ∃ f c, st.ev x = .fn f c)
  (hn : Next w0 M0 F0 (st.put o.dst (st.ev x)) a.defers next) : o.wp P a w next Q := by
 refine ok_val h hd (v := a.eval x) ?_ (h.ev x) hn
 have hr := h.ev x
 generalize hv : a.eval x = v at hr
 rcases hx with ⟨_, _, _, hx⟩ | ⟨_, _, _, _, hx⟩ | ⟨_, _, hx⟩ <;> rw [hx] at hr <;> cases hr <;> simp [execOp, ho, hv]
theorem ok_makeFunc (h : Sat w0 M0 F0 st a.tmps w φ F) (hd : dstOk o.dst st.n = true) {f : FuncId} {cs : Array Operand} (ho : o.op = .makeFunc (.func f) #[] cs)
  (hn : Next w0 M0 F0 (st.put o.dst (.fn f (cs.toList.map st.ev))) a.defers next) : o.wp P a w next Q := by
 refine ok_val h hd (v := .func (.func f) #[] (cs.toList.map a.eval).toArray) ?_ ?_ hn
 ·simp only [execOp, ho, Instr.makeFunc, Sem.run_bind, Sem.run_pure, Result.andThen_ok, Array.map_empty]
  congr 3
  apply Array.ext'
  simp
 ·refine Rep.fn (by simp) (fun i x v hx hv => ?_)
  simp only [List.getElem?_map, Option.map_eq_some_iff] at hx hv
  obtain ⟨y, hy, rfl⟩ := hx
  obtain ⟨y', hy', rfl⟩ := hv
  rw [hy] at hy'
  cases hy'
  exact h.ev y
end
end Go.Abs
