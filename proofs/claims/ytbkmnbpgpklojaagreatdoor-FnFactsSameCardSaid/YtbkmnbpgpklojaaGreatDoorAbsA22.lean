/- The abstract layer, part A22. -/
import Derived.Test.YtbkmnbpgpklojaaGreatDoorAbsA21
namespace Go.Abs
open Go
def intK (P : Program) (t : TypeId) : Option IntKind := match P.underlying t with | some (.int k) => some k | _ => none
def isBool (P : Program) (t : TypeId) : Bool := match P.underlying t with | some .bool => true | _ => false
theorem intK_spec {P : Program} {t : TypeId} {k : IntKind} (h : intK P t = some k) : P.underlying t = some (.int k) := by
 unfold intK at h; split at h
 ·rename_i q; rw [q]; simpa using h
 ·cases h
theorem isBool_spec {P : Program} {t : TypeId} (h : isBool P t = true) : P.underlying t = some .bool := by
 unfold isBool at h; split at h
 ·assumption
 ·cases h
section
variable {P : Program} {st : St} {o : Oper}
theorem st_eqB {t u : TypeId} {x y : Operand} {a b : Bool} (ht : isBool P t = true) (ho : o.op = .binOp .eql t x y u) (hx : st.ev x = .sc (.bool a)) (hy : st.ev y = .sc (.bool b)) : StepE P st o (.sc (.bool (a == b))) st.hp [] [] :=
 ev_pure2 rfl (by simp [ho, Op.operands]) (by simp [ho, Op.operands]) hx hy fun ρ h1 h2 w => by simp [execOp, ho, h1, h2, eqGuard_at_bool, run_eql_bool w t a b (isBool_spec ht)]
theorem st_neB {t u : TypeId} {x y : Operand} {a b : Bool} (ht : isBool P t = true) (ho : o.op = .binOp .neq t x y u) (hx : st.ev x = .sc (.bool a)) (hy : st.ev y = .sc (.bool b)) : StepE P st o (.sc (.bool (!(a == b)))) st.hp [] [] :=
 ev_pure2 rfl (by simp [ho, Op.operands]) (by simp [ho, Op.operands]) hx hy fun ρ h1 h2 w => by simp [execOp, ho, h1, h2, eqGuard_at_bool, run_neq_bool w t a b (isBool_spec ht)]
theorem st_catS {t u : TypeId} {x y : Operand} {a b : ByteArray} (hl : a.size + b.size ≤ 9223372036854775807) (ho : o.op = .binOp .add t x y u) (hx : st.ev x = .sc (.string a)) (hy : st.ev y = .sc (.string b)) : StepE P st o (.sc (.string (a ++ b))) st.hp [] [] :=
 ev_pure2 rfl (by simp [ho, Op.operands]) (by simp [ho, Op.operands]) hx hy fun ρ h1 h2 w => by
  have : ¬ (((a.size + b.size : Nat) : Int) > IntKind.i64.max) := by simp [IntKind.max, IntKind.signed, IntKind.bits]; omega
  simp only [execOp, ho, h1, h2, eqGuard_at_string, binOp_string_add, Op.stringOp, if_neg this]
  simp
theorem st_ltS {t u : TypeId} {x y : Operand} {a b : ByteArray} (ho : o.op = .binOp .lss t x y u) (hx : st.ev x = .sc (.string a)) (hy : st.ev y = .sc (.string b)) : StepE P st o (.sc (.bool (Op.bytesLess a.toList b.toList))) st.hp [] [] :=
 ev_pure2 rfl (by simp [ho, Op.operands]) (by simp [ho, Op.operands]) hx hy fun ρ h1 h2 w => by simp [execOp, ho, h1, h2, eqGuard_at_string, binOp_string_lss]
theorem st_quo {t u : TypeId} {x y : Operand} {k : IntKind} {a b : Int} (ho : o.op = .binOp .quo t x y u) (hx : st.ev x = .sc (.int k a)) (hy : st.ev y = .sc (.int k b)) (hb : b ≠ 0) : StepE P st o (.sc (.int k (k.wrap (a.tdiv b)))) st.hp [] [] :=
 ev_pure2 rfl (by simp [ho, Op.operands]) (by simp [ho, Op.operands]) hx hy fun ρ h1 h2 w => by simp [execOp, ho, h1, h2, eqGuard_at_int, binOp_quo, Op.intDiv, hb]
theorem st_rem {t u : TypeId} {x y : Operand} {k : IntKind} {a b : Int} (ho : o.op = .binOp .rem t x y u) (hx : st.ev x = .sc (.int k a)) (hy : st.ev y = .sc (.int k b)) (hb : b ≠ 0) : StepE P st o (.sc (.int k (a.tmod b))) st.hp [] [] :=
 ev_pure2 rfl (by simp [ho, Op.operands]) (by simp [ho, Op.operands]) hx hy fun ρ h1 h2 w => by simp [execOp, ho, h1, h2, eqGuard_at_int, binOp_rem, Op.intDiv, hb]
theorem st_conv {src dst : TypeId} {x : Operand} {k k' : IntKind} {a : Int} (hs : intK P src = some k) (hd : intK P dst = some k') (ho : o.op = .convert src dst x) (hx : st.ev x = .sc (.int k a)) : StepE P st o (.sc (.int k' (k'.wrap a))) st.hp [] [] :=
 ev_pure1 rfl (by simp [ho, Op.operands]) hx fun ρ h1 w => by 
  have hk : P.intKind dst = k' := by simp [Program.intKind, intK_spec hd]
  have h2 := run_convert_int (P := P) w src dst k a (by rw [intK_spec hs]; rfl) (by rw [hk]; exact intK_spec hd)
  rw [hk] at h2
  simp [execOp, ho, h1, h2]
theorem st_and {t u : TypeId} {x y : Operand} {k : IntKind} {a b : Int} (ho : o.op = .binOp .and t x y u) (hx : st.ev x = .sc (.int k a)) (hy : st.ev y = .sc (.int k b)) : StepE P st o (.sc (.int k (k.wrap (BitVec.ofInt k.bits a &&& BitVec.ofInt k.bits b).toNat))) st.hp [] [] :=
 ev_pure2 rfl (by simp [ho, Op.operands]) (by simp [ho, Op.operands]) hx hy fun ρ h1 h2 w => by simp [execOp, ho, h1, h2, eqGuard_at_int, binOp_and, Op.intBits]
theorem st_xor {t u : TypeId} {x y : Operand} {k : IntKind} {a b : Int} (ho : o.op = .binOp .xor t x y u) (hx : st.ev x = .sc (.int k a)) (hy : st.ev y = .sc (.int k b)) : StepE P st o (.sc (.int k (k.wrap (BitVec.ofInt k.bits a ^^^ BitVec.ofInt k.bits b).toNat))) st.hp [] [] :=
 ev_pure2 rfl (by simp [ho, Op.operands]) (by simp [ho, Op.operands]) hx hy fun ρ h1 h2 w => by simp [execOp, ho, h1, h2, eqGuard_at_int, binOp_xor, Op.intBits]
theorem st_shr {t u : TypeId} {x y : Operand} {k k' : IntKind} {a : Int} {b : Nat} (ho : o.op = .binOp .shr t x y u) (hx : st.ev x = .sc (.int k a)) (hy : st.ev y = .sc (.int k' (b : Int))) : StepE P st o (.sc (.int k (a.fdiv (2 ^ (min b k.bits))))) st.hp [] [] :=
 ev_pure2 rfl (by simp [ho, Op.operands]) (by simp [ho, Op.operands]) hx hy fun ρ h1 h2 w => by
  have : ¬ ((b : Int) < 0) := by omega
  simp only [execOp, ho, h1, h2, eqGuard_at_int, binOp_shr, Op.shift, if_neg this]
  simp
end
section
variable {P : Program} {n : Nat} {T : Tm} {H : Hp} {o : Oper} {ops : Array Oper} {K : Lg → St → Prop} {rest : List Oper} {d : Nat}
theorem s_makeSlice {t e : TypeId} {m z by_ : Nat} {x y : Operand} {k k' : IntKind} {zs : List Value} {row : List V} {rows : List (List V)} (ho : o.op = .makeSlice t x y) (hd : o.dst = some d) (hnm : lkH H (d, 0) = none) (hx : (mkT n T H).ev x = .sc (.int k (m : Int))) (hy : (mkT n T H).ev y = .sc (.int k' (m : Int)))
  (ht : slTy P t = some (e, z, by_)) (hz : zeroC P e = some zs) (hzl : zs.length = z) (h1 : zs.all (·.oneCell') = true) (hz0 : Nat.blt 0 z = true) (hb : Nat.ble by_ 128 = true) (hnb : m ≤ 1099511627776) (hr : RowZ zs row) (hrs : List.replicate m row = rows)
  (hn : Nat.blt d n = true) (hg : wantA ops (mkT n T H) o = some true) (h : RegT P ops (kp K [] []) rest (mkT n ((d, .ref (d, 0) 0 m) :: T) (((d, 0), some ⟨e, z, rows, false, true⟩) :: H))) : RegT P ops K (o :: rest) (mkT n T H) :=
 s_ofH (by rw [← hrs]; exact .makeSlice hd hr ho hnm hx hy ht hz hzl h1 (by simpa [Nat.blt_eq] using hz0) (Nat.le_of_ble_eq_true hb) hnb) rfl hd hn hg h
theorem s_toString {src dst e : TypeId} {x : Operand} {ns : List Int} {s : ByteArray} (ho : o.op = .convert src dst x) (hx : Src (mkT n T H) ((mkT n T H).ev x) 1 (numRows ns)) (hs : isBytes P src = some e) (ht : isStr P dst = true) (hv : strOfNums ns = s)
  (hd : o.dst = some d) (hn : Nat.blt d n = true) (hg : wantA ops (mkT n T H) o = some true) (h : RegT P ops (kp K (srcN ((mkT n T H).ev x)) []) rest (mkT n ((d, .sc (.string s)) :: T) H)) : RegT P ops K (o :: rest) (mkT n T H) :=
 s_of (v := .sc (.string s)) (by rw [← hv]; exact .toString ho hx hs ht (fun m off l hm => by simp [srcN, hm])) rfl hd hn hg h
end
end Go.Abs
namespace Go.Abs
open Go
theorem wrap_id {x : Int} (h : -9223372036854775808 ≤ x ∧ x < 9223372036854775808) : IntKind.i64.wrap x = x := by
 simp [IntKind.wrap, IntKind.signed, IntKind.bits]; omega
section
variable {P : Program} {n : Nat} {T : Tm} {H : Hp} {o : Oper} {ops : Array Oper} {K : Lg → St → Prop} {rest : List Oper} {d : Nat}
theorem s_subI {t u : TypeId} {x y : Operand} {a b c : Int} (ho : o.op = .binOp .sub t x y u) (hx : (mkT n T H).ev x = .sc (.int .i64 a)) (hy : (mkT n T H).ev y = .sc (.int .i64 b)) (hc : a - b = c) (hlt : -9223372036854775808 ≤ c ∧ c < 9223372036854775808)
  (hd : o.dst = some d) (hn : Nat.blt d n = true) (hg : wantA ops (mkT n T H) o = some true) (h : RegT P ops (kp K [] []) rest (mkT n ((d, .sc (.int .i64 c)) :: T) H)) : RegT P ops K (o :: rest) (mkT n T H) :=
 s_of (v := .sc (.int .i64 c)) (by have := st_sub (P := P) ho hx hy; rw [hc, wrap_id hlt] at this; exact this) rfl hd hn hg h
theorem s_addI {t u : TypeId} {x y : Operand} {a b c : Int} (ho : o.op = .binOp .add t x y u) (hx : (mkT n T H).ev x = .sc (.int .i64 a)) (hy : (mkT n T H).ev y = .sc (.int .i64 b)) (hc : a + b = c) (hlt : -9223372036854775808 ≤ c ∧ c < 9223372036854775808)
  (hd : o.dst = some d) (hn : Nat.blt d n = true) (hg : wantA ops (mkT n T H) o = some true) (h : RegT P ops (kp K [] []) rest (mkT n ((d, .sc (.int .i64 c)) :: T) H)) : RegT P ops K (o :: rest) (mkT n T H) :=
 s_of (v := .sc (.int .i64 c)) (by have := st_add (P := P) ho hx hy; rw [hc, wrap_id hlt] at this; exact this) rfl hd hn hg h
end
theorem st_minI {P : Program} {st : St} {o : Oper} {t : TypeId} {x y : Operand} {k : IntKind} {a b : Int} (ho : o.op = .call { callee := .builtin .min, args := #[x, y], argTypes := #[t, t] }) (hx : st.ev x = .sc (.int k a)) (hy : st.ev y = .sc (.int k b)) : StepE P st o (.sc (.int k (if b < a then b else a))) st.hp [] [] :=
 ev_pure2 rfl (by simp [ho, Op.operands, Call.operands]) (by simp [ho, Op.operands, Call.operands]) hx hy fun ρ h1 h2 w => by simp [execOp, ho, h1, h2, resolve, invoke, builtin, Builtin.min_, Builtin.min2]
end Go.Abs
namespace Go.Abs
open Go
theorem tri_isNil {P : Program} {Q : Exit → St → Prop} {n : Nat} {T : Tm} {H : Hp} {id : Nat} {o0 o1 : Oper} {d0 d1 : Nat} {x : Operand} {t u : TypeId} {y : Operand} {v : V} {m : Nat} {e : TypeId × Nat × Nat} (h0 : o0.op = .move x) (hx : (mkT n T H).ev x = v) (hd0 : o0.dst = some d0) (hn0 : Nat.blt d0 n = true) (hg0 : o0.guard = none)
  (h1 : o1.op = .binOp .eql t (.tmp d0) y u) (hy : (mkT n ((d0, v) :: T) H).ev y = .nils) (hv : v.slen = some m) (ht : slTy P t = some e) (hd1 : o1.dst = some d1) (hn1 : Nat.blt d1 n = true) (hg1 : o1.guard = none)
  (h : ∀ b : Bool, (b = true → m = 0) → Q .normal (mkT n ((d1, .sc (.bool b)) :: (d0, v) :: T) H)) : Tri P (.region id #[o0, o1] false) Q (mkT n T H) := by
 refine tri_regS (l := [o0, o1]) ?_
 have dk : ∀ d, Nat.blt d n = true → dstOk (some d) n = true := fun d hd => decide_eq_true (by simpa [Nat.blt_eq] using hd)
 refine regS_step (by simp [wantA, hg0]) fun w0 M0 F0 a w φ F next Q' hsat hd hnext => ?_
 refine (StepE.mv (P := P) (.inl h0)).ok hsat (by rw [hd0]; exact dk d0 hn0) fun a' w' φ' F' hs' hd' => hnext a' w' (mkT n ((d0, v) :: T) H) φ' F' ?_ (by rw [hd0, hx, mkT_hp, mkT_put] at hs'; exact hs') (hd'.trans hd)
 refine regS_step (by simp [wantA, hg1]) fun w0 M0 F0 a w φ F next Q' hsat hd hnext => ?_
 refine ok_eqNil hsat (by rw [hd1]; exact dk d1 hn1) (n := m) h1 (by show (lkT ((d0, v) :: T) d0).slen = _; rw [lkT_cons, if_pos rfl]; exact hv) hy ht fun b hb a' w' φ' F' hs' hd' => hnext a' w' (mkT n ((d1, .sc (.bool b)) :: (d0, v) :: T) H) φ' F' (regS_nil (h b hb)) ?_ (hd'.trans hd)
 rw [hd1] at hs'
 have := mkT_put n ((d0, v) :: T) H H d1 (.sc (.bool b))
 rw [← this]; exact hs'
end Go.Abs
