/- The abstract layer, part A14. -/
import Derived.Test.YtbkmnbpgpklojaaGreatDoorAbsA13
namespace Go.Abs
open Go
section
variable {P : Program} {st : St} {o : Oper} {ops : Array Oper} {K : Lg → St → Prop} {rest : List Oper}
theorem rt_nil (h : K [] st) : RegT P ops K [] st := h
theorem rt_step {v : V} {hp' : Heap} {rs ws : List Nm} (hs : StepE P st o v hp' rs ws) (hg : wantA ops st o = some true) (hd : dstOk o.dst st.n = true) (h : RegT P ops (kp K rs ws) rest { st.put o.dst v with hp := hp' }) : RegT P ops K (o :: rest) st :=
 .inl ⟨v, hp', rs, ws, hg, hd, hs, h⟩
theorem rt_skip (hg : wantA ops st o = some false) (hd : dstOk o.dst st.n = true) (h : RegT P ops (kp K [] []) rest (st.put o.dst (.tup []))) : RegT P ops K (o :: rest) st := .inr ⟨hg, hd, h⟩
theorem ev_pure1 {x : Operand} {u : Value} {c : Value} (hu : scalar u = true) (ho : x ∈ o.op.operands) (hx : st.ev x = .sc c) (hrun : ∀ ρ : Operand → Value, ρ x = c → ∀ w, (execOp ρ o).run P w = .ok (.value u) w) : StepE P st o (.sc u) st.hp [] [] :=
 .pure hu fun ρ _ h w => hrun ρ (h x ho c hx) w
theorem ev_pure2 {x y : Operand} {u : Value} {c d : Value} (hu : scalar u = true) (ho : x ∈ o.op.operands) (ho' : y ∈ o.op.operands) (hx : st.ev x = .sc c) (hy : st.ev y = .sc d)
  (hrun : ∀ ρ : Operand → Value, ρ x = c → ρ y = d → ∀ w, (execOp ρ o).run P w = .ok (.value u) w) : StepE P st o (.sc u) st.hp [] [] :=
 .pure hu fun ρ _ h w => hrun ρ (h x ho c hx) (h y ho' d hy) w
theorem st_lss {t u : TypeId} {x y : Operand} {k : IntKind} {a b : Int} (ho : o.op = .binOp .lss t x y u) (hx : st.ev x = .sc (.int k a)) (hy : st.ev y = .sc (.int k b)) : StepE P st o (.sc (.bool (decide (a < b)))) st.hp [] [] :=
 ev_pure2 rfl (by simp [ho, Op.operands]) (by simp [ho, Op.operands]) hx hy fun ρ h1 h2 w => by simp [execOp, ho, h1, h2, eqGuard_at_int, binOp_lss]
theorem st_leq {t u : TypeId} {x y : Operand} {k : IntKind} {a b : Int} (ho : o.op = .binOp .leq t x y u) (hx : st.ev x = .sc (.int k a)) (hy : st.ev y = .sc (.int k b)) : StepE P st o (.sc (.bool (decide (a ≤ b)))) st.hp [] [] :=
 ev_pure2 rfl (by simp [ho, Op.operands]) (by simp [ho, Op.operands]) hx hy fun ρ h1 h2 w => by simp [execOp, ho, h1, h2, eqGuard_at_int, binOp_leq]
theorem st_gtr {t u : TypeId} {x y : Operand} {k : IntKind} {a b : Int} (ho : o.op = .binOp .gtr t x y u) (hx : st.ev x = .sc (.int k a)) (hy : st.ev y = .sc (.int k b)) : StepE P st o (.sc (.bool (decide (b < a)))) st.hp [] [] :=
 ev_pure2 rfl (by simp [ho, Op.operands]) (by simp [ho, Op.operands]) hx hy fun ρ h1 h2 w => by simp [execOp, ho, h1, h2, eqGuard_at_int, binOp_gtr]
theorem st_geq {t u : TypeId} {x y : Operand} {k : IntKind} {a b : Int} (ho : o.op = .binOp .geq t x y u) (hx : st.ev x = .sc (.int k a)) (hy : st.ev y = .sc (.int k b)) : StepE P st o (.sc (.bool (decide (b ≤ a)))) st.hp [] [] :=
 ev_pure2 rfl (by simp [ho, Op.operands]) (by simp [ho, Op.operands]) hx hy fun ρ h1 h2 w => by simp [execOp, ho, h1, h2, eqGuard_at_int, binOp_geq]
theorem st_eqI {t u : TypeId} {x y : Operand} {k : IntKind} {a b : Int} (ho : o.op = .binOp .eql t x y u) (hx : st.ev x = .sc (.int k a)) (hy : st.ev y = .sc (.int k b)) : StepE P st o (.sc (.bool (decide (a = b)))) st.hp [] [] :=
 ev_pure2 rfl (by simp [ho, Op.operands]) (by simp [ho, Op.operands]) hx hy fun ρ h1 h2 w => by simp [execOp, ho, h1, h2, eqGuard_at_int, binOp_eql]; rfl
theorem st_neI {t u : TypeId} {x y : Operand} {k : IntKind} {a b : Int} (ho : o.op = .binOp .neq t x y u) (hx : st.ev x = .sc (.int k a)) (hy : st.ev y = .sc (.int k b)) : StepE P st o (.sc (.bool (!decide (a = b)))) st.hp [] [] :=
 ev_pure2 rfl (by simp [ho, Op.operands]) (by simp [ho, Op.operands]) hx hy fun ρ h1 h2 w => by simp [execOp, ho, h1, h2, eqGuard_at_int, binOp_neq]; rfl
theorem binOp_eqS {t : TypeId} {a b : ByteArray} : binOp .eql t (.string a) (.string b) = pure (.bool (decide (a = b))) := by simp [binOp, Op.stringOp, beq_str]
theorem binOp_neS {t : TypeId} {a b : ByteArray} : binOp .neq t (.string a) (.string b) = pure (.bool (!decide (a = b))) := by simp [binOp, Op.stringOp, beq_str]
theorem st_eqS {t u : TypeId} {x y : Operand} {a b : ByteArray} (ho : o.op = .binOp .eql t x y u) (hx : st.ev x = .sc (.string a)) (hy : st.ev y = .sc (.string b)) : StepE P st o (.sc (.bool (decide (a = b)))) st.hp [] [] :=
 ev_pure2 rfl (by simp [ho, Op.operands]) (by simp [ho, Op.operands]) hx hy fun ρ h1 h2 w => by simp [execOp, ho, h1, h2, eqGuard_at_string, binOp_eqS]
theorem st_neS {t u : TypeId} {x y : Operand} {a b : ByteArray} (ho : o.op = .binOp .neq t x y u) (hx : st.ev x = .sc (.string a)) (hy : st.ev y = .sc (.string b)) : StepE P st o (.sc (.bool (!decide (a = b)))) st.hp [] [] :=
 ev_pure2 rfl (by simp [ho, Op.operands]) (by simp [ho, Op.operands]) hx hy fun ρ h1 h2 w => by simp [execOp, ho, h1, h2, eqGuard_at_string, binOp_neS]
theorem st_add {t u : TypeId} {x y : Operand} {k : IntKind} {a b : Int} (ho : o.op = .binOp .add t x y u) (hx : st.ev x = .sc (.int k a)) (hy : st.ev y = .sc (.int k b)) : StepE P st o (.sc (.int k (k.wrap (a + b)))) st.hp [] [] :=
 ev_pure2 rfl (by simp [ho, Op.operands]) (by simp [ho, Op.operands]) hx hy fun ρ h1 h2 w => by simp [execOp, ho, h1, h2, eqGuard_at_int, binOp_add, Op.intArith]
theorem st_sub {t u : TypeId} {x y : Operand} {k : IntKind} {a b : Int} (ho : o.op = .binOp .sub t x y u) (hx : st.ev x = .sc (.int k a)) (hy : st.ev y = .sc (.int k b)) : StepE P st o (.sc (.int k (k.wrap (a - b)))) st.hp [] [] :=
 ev_pure2 rfl (by simp [ho, Op.operands]) (by simp [ho, Op.operands]) hx hy fun ρ h1 h2 w => by simp [execOp, ho, h1, h2, eqGuard_at_int, binOp_sub, Op.intArith]
theorem st_mul {t u : TypeId} {x y : Operand} {k : IntKind} {a b : Int} (ho : o.op = .binOp .mul t x y u) (hx : st.ev x = .sc (.int k a)) (hy : st.ev y = .sc (.int k b)) : StepE P st o (.sc (.int k (k.wrap (a * b)))) st.hp [] [] :=
 ev_pure2 rfl (by simp [ho, Op.operands]) (by simp [ho, Op.operands]) hx hy fun ρ h1 h2 w => by simp [execOp, ho, h1, h2, eqGuard_at_int, binOp_mul, Op.intArith]
theorem st_not {t : TypeId} {x : Operand} {a : Bool} (ho : o.op = .unOp .not t x) (hx : st.ev x = .sc (.bool a)) : StepE P st o (.sc (.bool (!a))) st.hp [] [] :=
 ev_pure1 rfl (by simp [ho, Op.operands]) hx fun ρ h1 w => by simp [execOp, ho, h1, Op.unary]
theorem st_lenS {t : TypeId} {x : Operand} {s : ByteArray} (ho : o.op = .call { callee := .builtin .len, args := #[x], argTypes := #[t] }) (hx : st.ev x = .sc (.string s)) (ht : isStr P t = true) : StepE P st o (.sc (.int .i64 s.size)) st.hp [] [] :=
 ev_pure1 rfl (by simp [ho, Op.operands, Call.operands]) hx fun ρ h1 w => by simp [execOp, ho, h1, resolve, invoke, builtin, Builtin.len_, run_underlying (isStr_spec ht), goInt]
theorem st_idxS {t : TypeId} {x y : Operand} {s : ByteArray} {k : IntKind} {i : Nat} (ho : o.op = .index t x y) (hx : st.ev x = .sc (.string s)) (hy : st.ev y = .sc (.int k (i : Int))) (ht : isStr P t = true) (hi : i < s.size) : StepE P st o (.sc (.int .u8 (s[i]'hi).toNat)) st.hp [] [] :=
 ev_pure2 rfl (by simp [ho, Op.operands]) (by simp [ho, Op.operands]) hx hy fun ρ h1 h2 w => by
  simp [execOp, ho, h1, h2, Instr.index, asIntOf, run_underlying (isStr_spec ht), hi]
end
end Go.Abs
