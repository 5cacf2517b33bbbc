/- The abstract layer, part A28. -/
import Derived.Test.YtbkmnbpgpklojaaGreatDoorAbsA27
import Derived.Lib.Bytealg
namespace Go.Abs
open Go
section
variable {P : Program} {st : St} {o : Oper}
theorem st_runeS {src dst : TypeId} {x : Operand} {k : IntKind} {a : Int} (hs : intK P src = some k) (hd : isStr P dst = true) (ho : o.op = .convert src dst x) (hx : st.ev x = .sc (.int k a)) : StepE P st o (.sc (.string (Utf8.encode a))) st.hp [] [] :=
 ev_pure1 rfl (by simp [ho, Op.operands]) hx fun ρ h1 w => by
  have h2 := run_convert_int_string (P := P) w src dst k a (by rw [intK_spec hs]; rfl) (isStr_spec hd)
  simp [execOp, ho, h1, h2]
theorem st_neg {t : TypeId} {x : Operand} {k : IntKind} {a : Int} (ho : o.op = .unOp .neg t x) (hx : st.ev x = .sc (.int k a)) : StepE P st o (.sc (.int k (k.wrap (-a)))) st.hp [] [] :=
 ev_pure1 rfl (by simp [ho, Op.operands]) hx fun ρ h1 w => by simp [execOp, ho, h1, Op.unary, Op.intArith]
theorem st_ext2 {f : FuncId} {fn : Func} {e : Array Value → Sem Value} {tys : Array TypeId} {x y : Operand} {a b u : Value} (ho : o.op = .call { callee := .value (.func f), args := #[x, y], argTypes := tys }) (hx : st.ev x = .sc a) (hy : st.ev y = .sc b) (hu : scalar u = true)
  (hf : P.funcs[f]? = some fn) (hname : (fn.name == "runtime.NumGoroutine") = false) (hb : fn.body.isNone = true) (hn : Extern.findNext fn = none) (he : Extern.find fn = some e) (hrun : ∀ w, (e #[a, b]).run P w = .ok u w) : StepE P st o (.sc u) st.hp [] [] :=
 .pure hu fun ρ hfn h w => by
  have h1 := h x (by simp [ho, Op.operands, Call.operands]) a hx
  have h2 := h y (by simp [ho, Op.operands, Call.operands]) b hy
  simp [execOp, ho, resolve, hfn, Deferred.ofValue, invoke, h1, h2, run_callFunc_extern hf hname hb hn he, hrun]
theorem run_sliceBoundsS {w : World} {len l hi : Nat} {lo hiv : Option Value} (h1 : (lo = none ∧ l = 0) ∨ ∃ k, lo = some (.int k (l : Int))) (h2 : (hiv = none ∧ hi = len) ∨ ∃ k, hiv = some (.int k (hi : Int)))
  (hl : l ≤ hi) (hh : hi ≤ len) : (Instr.sliceBounds false len len lo hiv none).run P w = .ok (l, hi, len) w := by
 have a3 : l ≤ hi := hl
 rcases h1 with ⟨rfl, rfl⟩ | ⟨k, rfl⟩ <;> rcases h2 with ⟨rfl, rfl⟩ | ⟨k', rfl⟩ <;> simp [Instr.sliceBounds, Instr.sliceBound, asIntOf, a3, hh]
theorem bnd_rho {ρ : Operand → Value} {x : Option Operand} {d l : Nat} (hb : bnd st x d l) (h : ∀ y, x = some y → ∀ u, st.ev y = .sc u → ρ y = u) : (x.map ρ = none ∧ l = d) ∨ ∃ k, x.map ρ = some (.int k (l : Int)) := by
 cases x with
 | none => exact .inl ⟨rfl, hb⟩
 | some y => obtain ⟨k, hk⟩ := hb; exact .inr ⟨k, by simp [h y rfl _ hk]⟩
theorem st_sliceS {t : TypeId} {x : Operand} {lo hi : Option Operand} {s : ByteArray} {l hh : Nat} (ho : o.op = .slice t x lo hi none) (hx : st.ev x = .sc (.string s)) (ht : isStr P t = true) (h1 : bnd st lo 0 l) (h2 : bnd st hi s.size hh) (hl : l ≤ hh) (hhl : hh ≤ s.size) :
  StepE P st o (.sc (.string (s.extract l hh))) st.hp [] [] :=
 .pure rfl fun ρ _ h w => by
  have g1 := h x (by simp [ho, Op.operands]) _ hx
  have g2 := bnd_rho (ρ := ρ) h1 (fun y hy u hu => h y (by simp [ho, Op.operands, hy]) u hu)
  have g3 := bnd_rho (ρ := ρ) h2 (fun y hy u hu => h y (by simp [ho, Op.operands, hy]) u hu)
  simp [execOp, ho, g1, Instr.sliceAt, Instr.slice, run_underlying (isStr_spec ht), run_sliceBoundsS (P := P) (w := w) g2 g3 hl hhl]
end
section
variable {P : Program} {n : Nat} {T : Tm} {H : Hp} {o : Oper} {ops : Array Oper} {K : Lg → St → Prop} {rest : List Oper} {d : Nat}
theorem s_sliceS {t : TypeId} {x : Operand} {lo hi : Option Operand} {s : ByteArray} {a b : Int} (ho : o.op = .slice t x lo hi none) (hx : (mkT n T H).ev x = .sc (.string s)) (ht : isStr P t = true)
  (h1 : bndZ (mkT n T H) lo ((0 : Nat) : Int) a) (h2 : bndZ (mkT n T H) hi (s.size : Int) b) (hl : 0 ≤ a ∧ a ≤ b ∧ b ≤ (s.size : Int)) (hd : o.dst = some d) (hn : Nat.blt d n = true) (hg : wantA ops (mkT n T H) o = some true)
  (h : RegT P ops (kp K [] []) rest (mkT n ((d, .sc (.string (s.extract a.toNat b.toNat))) :: T) H)) : RegT P ops K (o :: rest) (mkT n T H) :=
 s_of (st_sliceS ho hx ht (bndZ_bnd h1 hl.1) (bndZ_bnd h2 (by omega)) (by omega) (by omega)) rfl hd hn hg h
theorem s_idxByteString {f : FuncId} {fn : Func} {tys : Array TypeId} {x y : Operand} {s : ByteArray} {c : Int} (ho : o.op = .call { callee := .value (.func f), args := #[x, y], argTypes := tys }) (hx : (mkT n T H).ev x = .sc (.string s)) (hy : (mkT n T H).ev y = .sc (.int .u8 c))
  (hf : P.funcs[f]? = some fn) (hname : (fn.name == "runtime.NumGoroutine") = false) (hb : fn.body.isNone = true) (hnx : Extern.findNext fn = none) (he : Extern.find fn = some Extern.BytealgIndexByte.indexByte)
  (hd : o.dst = some d) (hn : Nat.blt d n = true) (hg : wantA ops (mkT n T H) o = some true) (h : RegT P ops (kp K [] []) rest (mkT n ((d, .sc (.int .i64 (Lib.indexByte s.data.toList c.toNat.toUInt8))) :: T) H)) : RegT P ops K (o :: rest) (mkT n T H) :=
 s_of (st_ext2 ho hx hy rfl hf hname hb hnx he fun w => Lib.run_indexByteString s c w) rfl hd hn hg h
theorem s_countString {f : FuncId} {fn : Func} {tys : Array TypeId} {x y : Operand} {s : ByteArray} {c : Int} (ho : o.op = .call { callee := .value (.func f), args := #[x, y], argTypes := tys }) (hx : (mkT n T H).ev x = .sc (.string s)) (hy : (mkT n T H).ev y = .sc (.int .u8 c))
  (hf : P.funcs[f]? = some fn) (hname : (fn.name == "runtime.NumGoroutine") = false) (hb : fn.body.isNone = true) (hnx : Extern.findNext fn = none) (he : Extern.find fn = some Extern.BytealgCount.count)
  (hd : o.dst = some d) (hn : Nat.blt d n = true) (hg : wantA ops (mkT n T H) o = some true) (h : RegT P ops (kp K [] []) rest (mkT n ((d, .sc (.int .i64 (Lib.countByte s.data.toList c.toNat.toUInt8 : Nat))) :: T) H)) : RegT P ops K (o :: rest) (mkT n T H) :=
 s_of (st_ext2 ho hx hy rfl hf hname hb hnx he fun w => Lib.run_countString s c w) rfl hd hn hg h
theorem s_capNil {t : TypeId} {x : Operand} {e : TypeId × Nat × Nat} (ho : o.op = .call { callee := .builtin .cap, args := #[x], argTypes := #[t] }) (ht : slTy P t = some e) (hx : (mkT n T H).ev x = .nils) (hd : o.dst = some d) (hn : Nat.blt d n = true) (hg : wantA ops (mkT n T H) o = some true)
  (h : RegT P ops (kp K [] []) rest (mkT n ((d, .sc (.int .i64 0)) :: T) H)) : RegT P ops K (o :: rest) (mkT n T H) := s_of (v := .sc (.int .i64 0)) (.capNil ho hx ht) rfl hd hn hg h
theorem s_sliceNil {t e : TypeId} {x y : Operand} {z by_ : Nat} {k : IntKind} (ho : o.op = .slice t x none (some y) none) (hx : (mkT n T H).ev x = .nils) (ht : slTy P t = some (e, z, by_)) (hy : (mkT n T H).ev y = .sc (.int k 0)) (hd : o.dst = some d) (hn : Nat.blt d n = true) (hg : wantA ops (mkT n T H) o = some true)
  (h : RegT P ops (kp K [] []) rest (mkT n ((d, .nils) :: T) H)) : RegT P ops K (o :: rest) (mkT n T H) := s_of (v := .nils) (.sliceNil ho hx ht rfl ⟨k, hy⟩) rfl hd hn hg h
theorem s_appZ {α : Type} {f : α → List V} {t tn e : TypeId} {i : Int} {z by_ : Nat} {s x : Operand} {k kn : IntKind} {zs : List Value} {a : α} (ho : o.op = .call { callee := .builtin .append, args := #[s, x], argTypes := #[t, tn] }) (hd : o.dst = some d) (hnm : lkH H (d, 0) = none) (hs : (mkT n T H).ev s = .nils) (hx : (mkT n T H).ev x = .sc (.int k i)) (hi0 : 0 < i)
  (ht : slTy P t = some (e, z, by_)) (htn : intK P tn = some kn) (hz : zeroC P e = some zs) (hzl : zs.length = z) (h1 : zs.all (·.oneCell') = true) (hz0 : Nat.blt 0 z = true) (hb : Nat.ble by_ 128 = true) (hnb : i.toNat ≤ 1099511627776) (hr : RowZ zs (f a))
  (hn : Nat.blt d n = true) (hg : wantA ops (mkT n T H) o = some true) (h : RegT P ops (kp K [] []) rest (mkT n ((d, .ref (d, 0) 0 (List.replicate i.toNat a).length) :: T) (((d, 0), some ⟨e, z, (List.replicate i.toNat a).map f, false, true⟩) :: H))) : RegT P ops K (o :: rest) (mkT n T H) := by
 rw [List.length_replicate, List.map_replicate] at h
 exact s_ofH (.appendZ (n := i.toNat) hd hr ho hnm hs (by rw [hx, Int.toNat_of_nonneg (by omega)]) (by omega) ht (intK_spec htn) hz hzl h1 (by simpa [Nat.blt_eq] using hz0) (Nat.le_of_ble_eq_true hb) hnb) rfl hd hn hg h
end
end Go.Abs
