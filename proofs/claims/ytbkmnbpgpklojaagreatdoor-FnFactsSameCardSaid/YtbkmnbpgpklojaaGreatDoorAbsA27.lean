/- The abstract layer, part A27. -/
import Derived.Test.YtbkmnbpgpklojaaGreatDoorAbsA26
namespace Go.Abs
open Go
section
variable {α β γ δ ε ζ : Type}
theorem some1 {a a' : α} (h : some a = some a') : a = a' := by cases h; rfl
theorem some2 {a a' : α} {b b' : β} (h : some (a, b) = some (a', b')) : a = a' ∧ b = b' := by cases h; exact ⟨rfl, rfl⟩
theorem some3 {a a' : α} {b b' : β} {c c' : γ} (h : some (a, b, c) = some (a', b', c')) : a = a' ∧ b = b' ∧ c = c' := by cases h; exact ⟨rfl, rfl, rfl⟩
theorem grd_elim {p : Prop} [Decidable p] {x : Option α} {v : α} {C : Prop} (h : grd p x = some v) (k : p → x = some v → C) : C := k (grd_some h).1 (grd_some h).2
theorem bnd1_elim {x : Option α} {f : α → Option ζ} {v : ζ} {C : Prop} (h : bnd1 x f = some v) (k : ∀ a, x = some a → f a = some v → C) : C := by
 obtain ⟨a, h1, h2⟩ := bnd1_some h; exact k a h1 h2
theorem bnd2_elim {x : Option (α × β)} {f : α → β → Option ζ} {v : ζ} {C : Prop} (h : bnd2 x f = some v) (k : ∀ a b, x = some (a, b) → f a b = some v → C) : C := by
 obtain ⟨a, b, h1, h2⟩ := bnd2_some h; exact k a b h1 h2
theorem bnd3_elim {x : Option (α × β × γ)} {f : α → β → γ → Option ζ} {v : ζ} {C : Prop} (h : bnd3 x f = some v) (k : ∀ a b c, x = some (a, b, c) → f a b c = some v → C) : C := by
 obtain ⟨a, b, c, h1, h2⟩ := bnd3_some h; exact k a b c h1 h2
theorem drop_elim {l rest : List α} {i : Nat} {C : Prop} (hd : l.drop i = rest) (hc : decide ((i : Int) < (l.length : Int)) = true) (k : ∀ x t, rest = x :: t → l[i]? = some x → l.drop (i + 1) = t → C) : C := by
 obtain ⟨x, t, h1, h2, h3⟩ := drop_t hd hc; exact k x t h1 h2 h3
theorem slenL {f : α → List V} {l : List α} {z : Nat} : V.slen (.lst z (l.map f)) = some l.length := congrArg some (List.length_map ..)
end
theorem rvN {P : Program} {st : St} : ResVs P st [] [] := trivial
theorem rvC {P : Program} {st : St} {a : ResultVar} {x : V} {as : List ResultVar} {xs : List V} (h : ResV P st a x) (t : ResVs P st as xs) : ResVs P st (a :: as) (x :: xs) := ⟨h, t⟩
abbrev i64 (x : Int) : Prop := -9223372036854775808 ≤ x ∧ x < 9223372036854775808
theorem cvRefLen {hp : Heap} {src : Nm → Option Nm} {D : List Nm} {N : Nm → Option Nat} {n m : Nm} {off len len' : Nat} (h : src n = some m) (e : len = len') : Cv hp src D N (.ref m off len) (.ref n off len') := by
 subst e; exact .ref h
def iand (k : IntKind) (a b : Int) : Int := k.wrap (BitVec.ofInt k.bits a &&& BitVec.ofInt k.bits b).toNat
def ixor (k : IntKind) (a b : Int) : Int := k.wrap (BitVec.ofInt k.bits a ^^^ BitVec.ofInt k.bits b).toNat
def ishr (k : IntKind) (a : Int) (b : Nat) : Int := a.fdiv (2 ^ (min b k.bits))
section
variable {P : Program} {st : St} {o : Oper}
theorem st_andD {t u : TypeId} {x y : Operand} {k : IntKind} {a b : Int} (ho : o.op = .binOp .and t x y u) (hx : st.ev x = .sc (.int k a)) (hy : st.ev y = .sc (.int k b)) : StepE P st o (.sc (.int k (iand k a b))) st.hp [] [] := st_and ho hx hy
theorem st_xorD {t u : TypeId} {x y : Operand} {k : IntKind} {a b : Int} (ho : o.op = .binOp .xor t x y u) (hx : st.ev x = .sc (.int k a)) (hy : st.ev y = .sc (.int k b)) : StepE P st o (.sc (.int k (ixor k a b))) st.hp [] [] := st_xor ho hx hy
theorem st_shrD {t u : TypeId} {x y : Operand} {k k' : IntKind} {a : Int} {b : Nat} (ho : o.op = .binOp .shr t x y u) (hx : st.ev x = .sc (.int k a)) (hy : st.ev y = .sc (.int k' (b : Int))) : StepE P st o (.sc (.int k (ishr k a b))) st.hp [] [] := st_shr ho hx hy
end
section
variable {P : Program} {n : Nat} {T : Tm} {H : Hp} {o : Oper} {ops : Array Oper} {K : Lg → St → Prop} {rest : List Oper} {d : Nat}
theorem s_neStruct {t u : TypeId} {x y : Operand} {ks : List Nat} {xs ys : List V} {r r' : Bool} (ho : o.op = .binOp .neq t x y u) (hx : (mkT n T H).ev x = .agg xs) (hy : (mkT n T H).ev y = .agg ys) (ht : flatK P t = some ks)
  (he : eqCs ks xs ys = some r) (hr : r = r') (hd : o.dst = some d) (hn : Nat.blt d n = true) (hg : wantA ops (mkT n T H) o = some true) (h : RegT P ops (kp K [] []) rest (mkT n ((d, .sc (.bool (!r'))) :: T) H)) : RegT P ops K (o :: rest) (mkT n T H) :=
 s_of (v := .sc (.bool (!r'))) (by have := StepE.eqStruct (P := P) ho (.inr rfl) hx hy ht he; rw [← hr]; simpa using this) rfl hd hn hg h
theorem s_mulI {t u : TypeId} {x y : Operand} {a b c : Int} (ho : o.op = .binOp .mul t x y u) (hx : (mkT n T H).ev x = .sc (.int .i64 a)) (hy : (mkT n T H).ev y = .sc (.int .i64 b)) (hc : a * b = c) (hlt : -9223372036854775808 ≤ c ∧ c < 9223372036854775808)
  (hd : o.dst = some d) (hn : Nat.blt d n = true) (hg : wantA ops (mkT n T H) o = some true) (h : RegT P ops (kp K [] []) rest (mkT n ((d, .sc (.int .i64 c)) :: T) H)) : RegT P ops K (o :: rest) (mkT n T H) :=
 s_of (v := .sc (.int .i64 c)) (by have := st_mul (P := P) ho hx hy; rw [hc, wrap_id hlt] at this; exact this) rfl hd hn hg h
end
section
variable {α : Type} {P : Program} {c : Code} {Q : Exit → St → Prop} {n : Nat} {T : Tm} {H : Hp} {f : α → List V} {l : List α}
theorem rep_lst_len {w : World} {F : Nat → Prop} {φ : Env} {z : Nat} {u : Value} (hr : Rep w F φ (.lst z (l.map f)) u) : l.length ≤ 9223372036854775807 := by
 cases hr with
 | lst b o g ha hc hm hz hM cell one sub => simp only [List.length_map, maxLen] at hc hm; omega
theorem tri_aggM (t j : Nat) {z : Nat} {xs : List V} (ht : lkT T t = .agg xs) (hj : xs[j]? = some (.lst z (l.map f))) (h : l.length ≤ 9223372036854775807 → Tri P c Q (mkT n T H)) : Tri P c Q (mkT n T H) := fun w0 M0 F0 a w φ F hs hd => by
 have hr := hs.rep t
 rw [show (mkT n T H).tm t = .agg xs from ht] at hr
 obtain ⟨vs, -, hl, hv, -⟩ := hr.agg_inv
 have hlt : j < vs.length := by rw [← hl]; exact (List.getElem?_eq_some_iff.1 hj).1
 exact h (rep_lst_len (hv j _ _ hj (List.getElem?_eq_getElem hlt))) w0 M0 F0 a w φ F hs hd
end
section
variable {P : Program} {n : Nat} {T : Tm} {H : Hp} {o : Oper} {ops : Array Oper} {K : Lg → St → Prop} {rest : List Oper} {d : Nat}
end
end Go.Abs
