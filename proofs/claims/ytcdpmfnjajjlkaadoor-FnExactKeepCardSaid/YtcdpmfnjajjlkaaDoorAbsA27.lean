/- The abstract layer, part 27: more steps by models. -/
import Derived.Test.YtcdpmfnjajjlkaaDoorAbsA26
namespace Go.Abs
open Go

section
variable {α β γ δ ε ζ : Type}
theorem some1 {a a' : α} (h : some a = some a') : a = a' := by cases h; rfl
theorem some2 {a a' : α} {b b' : β} (h : some (a, b) = some (a', b')) : a = a' ∧ b = b' := by cases h; exact ⟨rfl, rfl⟩
theorem some3 {a a' : α} {b b' : β} {c c' : γ} (h : some (a, b, c) = some (a', b', c')) : a = a' ∧ b = b' ∧ c = c' := by cases h; exact ⟨rfl, rfl, rfl⟩
theorem some4 {a a' : α} {b b' : β} {c c' : γ} {d d' : δ} (h : some (a, b, c, d) = some (a', b', c', d')) : a = a' ∧ b = b' ∧ c = c' ∧ d = d' := by cases h; exact ⟨rfl, rfl, rfl, rfl⟩
theorem some5 {a a' : α} {b b' : β} {c c' : γ} {d d' : δ} {e e' : ε} (h : some (a, b, c, d, e) = some (a', b', c', d', e')) : a = a' ∧ b = b' ∧ c = c' ∧ d = d' ∧ e = e' := by cases h; exact ⟨rfl, rfl, rfl, rfl, rfl⟩
theorem some6 {a a' : α} {b b' : β} {c c' : γ} {d d' : δ} {e e' : ε} {f f' : ζ} (h : some (a, b, c, d, e, f) = some (a', b', c', d', e', f')) : a = a' ∧ b = b' ∧ c = c' ∧ d = d' ∧ e = e' ∧ f = f' := by cases h; exact ⟨rfl, rfl, rfl, rfl, rfl, rfl⟩
theorem grd_elim {p : Prop} [Decidable p] {x : Option α} {v : α} {C : Prop} (h : grd p x = some v) (k : p → x = some v → C) : C := k (grd_some h).1 (grd_some h).2
theorem bnd1_elim {x : Option α} {f : α → Option ζ} {v : ζ} {C : Prop} (h : bnd1 x f = some v) (k : ∀ a, x = some a → f a = some v → C) : C := by
  obtain ⟨a, h1, h2⟩ := bnd1_some h; exact k a h1 h2
theorem bnd2_elim {x : Option (α × β)} {f : α → β → Option ζ} {v : ζ} {C : Prop} (h : bnd2 x f = some v) (k : ∀ a b, x = some (a, b) → f a b = some v → C) : C := by
  obtain ⟨a, b, h1, h2⟩ := bnd2_some h; exact k a b h1 h2
theorem bnd3_elim {x : Option (α × β × γ)} {f : α → β → γ → Option ζ} {v : ζ} {C : Prop} (h : bnd3 x f = some v) (k : ∀ a b c, x = some (a, b, c) → f a b c = some v → C) : C := by
  obtain ⟨a, b, c, h1, h2⟩ := bnd3_some h; exact k a b c h1 h2
theorem bnd4_elim {x : Option (α × β × γ × δ)} {f : α → β → γ → δ → Option ζ} {v : ζ} {C : Prop} (h : bnd4 x f = some v) (k : ∀ a b c d, x = some (a, b, c, d) → f a b c d = some v → C) : C := by
  obtain ⟨a, b, c, d, h1, h2⟩ := bnd4_some h; exact k a b c d h1 h2
theorem bnd5_elim {x : Option (α × β × γ × δ × ε)} {f : α → β → γ → δ → ε → Option ζ} {v : ζ} {C : Prop} (h : bnd5 x f = some v) (k : ∀ a b c d e, x = some (a, b, c, d, e) → f a b c d e = some v → C) : C := by
  obtain ⟨a, b, c, d, e, h1, h2⟩ := bnd5_some h; exact k a b c d e h1 h2
theorem bnd6_elim {η : Type} {x : Option (α × β × γ × δ × ε × ζ)} {f : α → β → γ → δ → ε → ζ → Option η} {v : η} {C : Prop} (h : bnd6 x f = some v) (k : ∀ a b c d e g, x = some (a, b, c, d, e, g) → f a b c d e g = some v → C) : C := by
  obtain ⟨a, b, c, d, e, g, h1, h2⟩ := bnd6_some h; exact k a b c d e g h1 h2
theorem drop_elim {l rest : List α} {i : Nat} {C : Prop} (hd : l.drop i = rest) (hc : decide ((i : Int) < (l.length : Int)) = true) (k : ∀ x t, rest = x :: t → l[i]? = some x → l.drop (i + 1) = t → C) : C := by
  obtain ⟨x, t, h1, h2, h3⟩ := drop_t hd hc; exact k x t h1 h2 h3
theorem slenL {f : α → List V} {l : List α} {z : Nat} : V.slen (.lst z (l.map f)) = some l.length := congrArg some (List.length_map ..)
end
theorem rvN {P : Program} {st : St} : ResVs P st [] [] := trivial
theorem rvC {P : Program} {st : St} {a : ResultVar} {x : V} {as : List ResultVar} {xs : List V} (h : ResV P st a x) (t : ResVs P st as xs) : ResVs P st (a :: as) (x :: xs) := ⟨h, t⟩
abbrev i64 (x : Int) : Prop := -9223372036854775808 ≤ x ∧ x < 9223372036854775808
theorem get_set {α : Type} {l : List α} {i : Nat} {x x' : α} (h : l[i]? = some x) : (l.set i x')[i]? = some x' := by
  rw [List.getElem?_set_self (get_lt h)]
theorem cvRefLen {hp : Heap} {src : Nm → Option Nm} {D : List Nm} {N : Nm → Option Nat} {n m : Nm} {off len len' : Nat} (h : src n = some m) (e : len = len') : Cv hp src D N (.ref m off len) (.ref n off len') := by
  subst e; exact .ref h
def iand (k : IntKind) (a b : Int) : Int := k.wrap (BitVec.ofInt k.bits a &&& BitVec.ofInt k.bits b).toNat
def ior (k : IntKind) (a b : Int) : Int := k.wrap (BitVec.ofInt k.bits a ||| BitVec.ofInt k.bits b).toNat
def ixor (k : IntKind) (a b : Int) : Int := k.wrap (BitVec.ofInt k.bits a ^^^ BitVec.ofInt k.bits b).toNat
def ishr (k : IntKind) (a : Int) (b : Nat) : Int := a.fdiv (2 ^ (min b k.bits))
def ishl (k : IntKind) (a : Int) (b : Nat) : Int := k.wrap (a * 2 ^ (min b k.bits))
section
variable {P : Program} {st : St} {o : Oper}
theorem st_andD {t u : TypeId} {x y : Operand} {k : IntKind} {a b : Int} (ho : o.op = .binOp .and t x y u) (hx : st.ev x = .sc (.int k a)) (hy : st.ev y = .sc (.int k b)) : StepE P st o (.sc (.int k (iand k a b))) st.hp [] [] := st_and ho hx hy
theorem st_orD {t u : TypeId} {x y : Operand} {k : IntKind} {a b : Int} (ho : o.op = .binOp .or t x y u) (hx : st.ev x = .sc (.int k a)) (hy : st.ev y = .sc (.int k b)) : StepE P st o (.sc (.int k (ior k a b))) st.hp [] [] := st_or ho hx hy
theorem st_xorD {t u : TypeId} {x y : Operand} {k : IntKind} {a b : Int} (ho : o.op = .binOp .xor t x y u) (hx : st.ev x = .sc (.int k a)) (hy : st.ev y = .sc (.int k b)) : StepE P st o (.sc (.int k (ixor k a b))) st.hp [] [] := st_xor ho hx hy
theorem st_shrD {t u : TypeId} {x y : Operand} {k k' : IntKind} {a : Int} {b : Nat} (ho : o.op = .binOp .shr t x y u) (hx : st.ev x = .sc (.int k a)) (hy : st.ev y = .sc (.int k' (b : Int))) : StepE P st o (.sc (.int k (ishr k a b))) st.hp [] [] := st_shr ho hx hy
theorem st_shlD {t u : TypeId} {x y : Operand} {k k' : IntKind} {a : Int} {b : Nat} (ho : o.op = .binOp .shl t x y u) (hx : st.ev x = .sc (.int k a)) (hy : st.ev y = .sc (.int k' (b : Int))) : StepE P st o (.sc (.int k (ishl k a b))) st.hp [] [] := st_shl ho hx hy
theorem st_shrZ {t u : TypeId} {x y : Operand} {k k' : IntKind} {a b : Int} (hb : 0 ≤ b) (ho : o.op = .binOp .shr t x y u) (hx : st.ev x = .sc (.int k a)) (hy : st.ev y = .sc (.int k' b)) : StepE P st o (.sc (.int k (ishr k a b.toNat))) st.hp [] [] := st_shr ho hx (by rw [hy, Int.toNat_of_nonneg hb])
theorem st_shlZ {t u : TypeId} {x y : Operand} {k k' : IntKind} {a b : Int} (hb : 0 ≤ b) (ho : o.op = .binOp .shl t x y u) (hx : st.ev x = .sc (.int k a)) (hy : st.ev y = .sc (.int k' b)) : StepE P st o (.sc (.int k (ishl k a b.toNat))) st.hp [] [] := st_shl ho hx (by rw [hy, Int.toNat_of_nonneg hb])
theorem st_maxI {t : TypeId} {x y : Operand} {k : IntKind} {a b : Int} (ho : o.op = .call { callee := .builtin .max, args := #[x, y], argTypes := #[t, t] }) (hx : st.ev x = .sc (.int k a)) (hy : st.ev y = .sc (.int k b)) : StepE P st o (.sc (.int k (if a < b then b else a))) st.hp [] [] :=
  ev_pure2 rfl (by simp [ho, Op.operands, Call.operands]) (by simp [ho, Op.operands, Call.operands]) hx hy fun ρ h1 h2 w => by simp [execOp, ho, h1, h2, resolve, invoke, builtin, Builtin.max_, Builtin.max2]
end
section
variable {P : Program} {n : Nat} {T : Tm} {H : Hp} {o : Oper} {ops : Array Oper} {K : Lg → St → Prop} {rest : List Oper} {d : Nat}
theorem s_neStruct {t u : TypeId} {x y : Operand} {ks : List Nat} {xs ys : List V} {r r' : Bool} (ho : o.op = .binOp .neq t x y u) (hx : (mkT n T H).ev x = .agg xs) (hy : (mkT n T H).ev y = .agg ys) (ht : flatK P t = some ks)
    (he : eqCs ks xs ys = some r) (hr : r = r') (hd : o.dst = some d) (hn : Nat.blt d n = true) (hg : wantA ops (mkT n T H) o = some true) (h : RegT P ops (kp K [] []) rest (mkT n ((d, .sc (.bool (!r'))) :: T) H)) : RegT P ops K (o :: rest) (mkT n T H) :=
  s_of (v := .sc (.bool (!r'))) (by have := StepE.eqStruct (P := P) ho (.inr rfl) hx hy ht he; rw [← hr]; simpa using this) rfl hd hn hg h
theorem s_mulI {t u : TypeId} {x y : Operand} {a b c : Int} (ho : o.op = .binOp .mul t x y u) (hx : (mkT n T H).ev x = .sc (.int .i64 a)) (hy : (mkT n T H).ev y = .sc (.int .i64 b)) (hc : a * b = c) (hlt : -9223372036854775808 ≤ c ∧ c < 9223372036854775808)
    (hd : o.dst = some d) (hn : Nat.blt d n = true) (hg : wantA ops (mkT n T H) o = some true) (h : RegT P ops (kp K [] []) rest (mkT n ((d, .sc (.int .i64 c)) :: T) H)) : RegT P ops K (o :: rest) (mkT n T H) :=
  s_of (v := .sc (.int .i64 c)) (by have := st_mul (P := P) ho hx hy; rw [hc, wrap_id hlt] at this; exact this) rfl hd hn hg h
end
section
variable {α : Type} {P : Program} {c : Code} {Q : Exit → St → Prop} {n : Nat} {T : Tm} {H : Hp} {f : α → List V} {l : List α}
theorem rep_lst_len {w : World} {F : Nat → Prop} {φ : Env} {z : Nat} {u : Value} (hr : Rep w F φ (.lst z (l.map f)) u) : l.length ≤ 9223372036854775807 := by
  cases hr with
  | lst b o g ha hc hm hz hM cell one sub => simp only [List.length_map, maxLen] at hc hm; omega
theorem tri_aggM (t j : Nat) {z : Nat} {xs : List V} (ht : lkT T t = .agg xs) (hj : xs[j]? = some (.lst z (l.map f))) (h : l.length ≤ 9223372036854775807 → Tri P c Q (mkT n T H)) : Tri P c Q (mkT n T H) := fun w0 M0 F0 a w φ F hs hd => by
  have hr := hs.rep t
  rw [show (mkT n T H).tm t = .agg xs from ht] at hr
  obtain ⟨vs, -, hl, hv, -⟩ := hr.agg_inv
  have hlt : j < vs.length := by rw [← hl]; exact (List.getElem?_eq_some_iff.1 hj).1
  exact h (rep_lst_len (hv j _ _ hj (List.getElem?_eq_getElem hlt))) w0 M0 F0 a w φ F hs hd
theorem tri_boxM (nm : Nm) (j : Nat) {e : TypeId} {z z' : Nat} {row : List V} {s mi : Bool} (hE : lkH H nm = some (some ⟨e, z', [row], s, mi⟩)) (hj : row[j]? = some (.lst z (l.map f))) (h : l.length ≤ 9223372036854775807 → Tri P c Q (mkT n T H)) : Tri P c Q (mkT n T H) := fun w0 M0 F0 a w φ F hs hd => by
  obtain ⟨loc, h1, h2, -⟩ := hs.obj nm _ hE
  refine h ?_ w0 M0 F0 a w φ F hs hd
  cases loc with
  | nil => cases h2
  | «at» b cap =>
    obtain ⟨arr, fz, q1, qs, q2, q3, q4, q5, q6, q7⟩ := h2
    obtain ⟨v, -, -, hv⟩ := q7 0 j _ (by simpa [cellAt] using hj)
    exact rep_lst_len hv
theorem tri_fboxM (t j : Nat) {z z' r k : Nat} {row : List V} (ht : lkT T t = .lptr z' [row] r k) (hj : row[j]? = some (.lst z (l.map f))) (h : l.length ≤ 9223372036854775807 → Tri P c Q (mkT n T H)) : Tri P c Q (mkT n T H) := fun w0 M0 F0 a w φ F hs hd => by
  have hr := hs.rep t
  rw [show (mkT n T H).tm t = .lptr z' [row] r k from ht] at hr
  refine h ?_ w0 M0 F0 a w φ F hs hd
  generalize a.tmps.getD t Go.undef = u at hr
  cases hr with
  | lptr b o g hz hM cell one sub => exact rep_lst_len (sub 0 j _ (by simpa [cellAt] using hj))
end
section
variable {P : Program} {n : Nat} {T : Tm} {H : Hp} {o : Oper} {ops : Array Oper} {K : Lg → St → Prop} {rest : List Oper} {d : Nat}
end
end Go.Abs
