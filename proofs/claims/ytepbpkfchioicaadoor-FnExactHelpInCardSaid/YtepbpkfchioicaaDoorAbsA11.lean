/- The abstract layer, part 11: the operations in one relation. -/
import Derived.Test.YtepbpkfchioicaaDoorAbsA10
namespace Go.Abs
open Go

/-- What an operation does: the value of its slot, the heap behind it, the names that it reads, the names that it writes (beside those of its own slot). -/
inductive StepE (P : Program) (st : St) (o : Oper) : V → Heap → List Nm → List Nm → Prop where
  | mv {x : Operand} (ho : o.op = .move x ∨ o.op = .assign x) : StepE P st o (st.ev x) st.hp [] []
  | pick {c x y : Operand} {b : Bool} (ho : o.op = .pick c x y) (hc : st.ev c = .sc (.bool b)) : StepE P st o (if b then st.ev x else st.ev y) st.hp [] []
  | pure {u : Value} (hu : scalar u = true) (hrun : ∀ ρ : Operand → Value, (∀ f, ρ (.func f) = .func (.func f) #[] #[]) → (∀ x, x ∈ o.op.operands → ∀ u, st.ev x = .sc u → ρ x = u) → ∀ w, (execOp ρ o).run P w = .ok (.value u) w) : StepE P st o (.sc u) st.hp [] []
  | extract {x : Operand} {i : Nat} {xs : List V} {y : V} (ho : o.op = .extract x i) (hx : st.ev x = .tup xs) (hy : xs[i]? = some y) : StepE P st o y st.hp [] []
  | nilCheck {x : Operand} (ho : o.op = .nilCheck x) (hx : (∃ n r c, st.ev x = .ptr n r c) ∨ (∃ z rows r c, st.ev x = .lptr z rows r c) ∨ ∃ f c, st.ev x = .fn f c) : StepE P st o (st.ev x) st.hp [] []
  | makeFunc {f : FuncId} {cs : Array Operand} (ho : o.op = .makeFunc (.func f) #[] cs) : StepE P st o (.fn f (cs.toList.map st.ev)) st.hp [] []
  | load {t : TypeId} {x : Operand} {n : Nm} {r c k : Nat} {b : Bool} {E : Entry} {row : List V} (ho : o.op = .load t x) (hx : st.ev x = .ptr n r c) (hE : st.hp n = some (some E)) (hrow : E.rows[r]? = some row)
      (ht : tyK P t = some (b, k)) (hk : c + k ≤ row.length) (hb : b = false → k = 1) : StepE P st o (loadV b ((row.drop c).take k)) st.hp [n] []
  | loadF {t : TypeId} {x : Operand} {z r c k : Nat} {b : Bool} {rows : List (List V)} {row : List V} (ho : o.op = .load t x) (hx : st.ev x = .lptr z rows r c) (hrow : rows[r]? = some row)
      (ht : tyK P t = some (b, k)) (hk : c + k ≤ row.length) (hb : b = false → k = 1) : StepE P st o (loadV b ((row.drop c).take k)) st.hp [] []
  | fieldAddr {s : TypeId} {x : Operand} {f : Nat} {n : Nm} {r c off k : Nat} {b : Bool} (ho : o.op = .fieldAddr s x f) (hx : st.ev x = .ptr n r c) (ht : fldTy P s f = some (off, k, b)) (hk : k ≠ 0) : StepE P st o (.ptr n r (c + off)) st.hp [] []
  | fieldAddrF {s : TypeId} {x : Operand} {f : Nat} {z r c off k : Nat} {rows : List (List V)} {b : Bool} (ho : o.op = .fieldAddr s x f) (hx : st.ev x = .lptr z rows r c) (ht : fldTy P s f = some (off, k, b)) (hk : k ≠ 0) :
      StepE P st o (.lptr z rows r (c + off)) st.hp [] []
  | field {s : TypeId} {x : Operand} {f off k : Nat} {b : Bool} {xs : List V} (ho : o.op = .field s x f) (hx : st.ev x = .agg xs) (ht : fldTy P s f = some (off, k, b)) (hk : off + k ≤ xs.length) (hb : b = false → k = 1) :
      StepE P st o (loadV b ((xs.drop off).take k)) st.hp [] []
  | indexAddr {t e : TypeId} {x y : Operand} {n : Nm} {off len i z by_ : Nat} {k : IntKind} {E : Entry} (ho : o.op = .indexAddr t x y) (hx : st.ev x = .ref n off len) (hy : st.ev y = .sc (.int k (i : Int))) (hE : st.hp n = some (some E))
      (ht : slTy P t = some (e, z, by_)) (hz : E.z = z) (hi : i < len) : StepE P st o (.ptr n (off + i) 0) st.hp [n] []
  | indexAddrF {t e : TypeId} {x y : Operand} {i z by_ : Nat} {k : IntKind} {rows : List (List V)} (ho : o.op = .indexAddr t x y) (hx : st.ev x = .lst z rows) (hy : st.ev y = .sc (.int k (i : Int))) (ht : slTy P t = some (e, z, by_)) (hi : i < rows.length) :
      StepE P st o (.lptr z rows i 0) st.hp [] []
  | len {t : TypeId} {x : Operand} {n : Nat} {e : TypeId × Nat × Nat} (ho : o.op = .call { callee := .builtin .len, args := #[x], argTypes := #[t] }) (hx : (st.ev x).slen = some n) (ht : slTy P t = some e) : StepE P st o (.sc (.int .i64 n)) st.hp [] []
  | slice {t e : TypeId} {x : Operand} {lo hi : Option Operand} {n : Nm} {off len z by_ l hh : Nat} {E : Entry} (ho : o.op = .slice t x lo hi none) (hx : st.ev x = .ref n off len) (hE : st.hp n = some (some E)) (ht : slTy P t = some (e, z, by_)) (hz : E.z = z)
      (h1 : bnd st lo 0 l) (h2 : bnd st hi len hh) (hl : l ≤ hh) (hhl : hh ≤ len) : StepE P st o (.ref n (off + l) (hh - l)) st.hp [n] []
  | sliceF {t e : TypeId} {x : Operand} {lo hi : Option Operand} {z by_ l hh : Nat} {rows : List (List V)} (ho : o.op = .slice t x lo hi none) (hx : st.ev x = .lst z rows) (ht : slTy P t = some (e, z, by_))
      (h1 : bnd st lo 0 l) (h2 : bnd st hi rows.length hh) (hl : l ≤ hh) (hhl : hh ≤ rows.length) : StepE P st o (.lst z ((rows.drop l).take (hh - l))) st.hp [] []
  | alloc {d : Nat} (hdst : o.dst = some d) {t : TypeId} {zs : List Value} (ho : o.op = .alloc t) (hn : st.hp (d, 0) = none) (hz : zeroC P t = some zs) (h1 : zs.all (·.oneCell') = true) :
      StepE P st o (.ptr (d, 0) 0 0) (upd st.hp (d, 0) (some ⟨t, zs.length, [zs.map cv1], false, true⟩)) [] []
  | box {d : Nat} (hdst : o.dst = some d) {t : TypeId} {x : Operand} {cs : List V} (ho : o.op = .box t x) (hn : st.hp (d, 0) = none) (hx : (st.ev x).cells = some cs) :
      StepE P st o (.ptr (d, 0) 0 0) (upd st.hp (d, 0) (some ⟨t, cs.length, [cs], false, true⟩)) [] []
  | build {t : TypeId} {parts : Array (Nat × Operand)} {pl : List (Nat × Nat)} {zs : List Value} {ps : List (Nat × List V)} {cells : List V} (ho : o.op = .build t parts) (ht : strTy P t = some (pl, zs)) (h1 : zs.all (·.oneCell') = true)
      (hp : partsV st parts.toList = some ps) (hf : fillV (pl[·]?) (zs.map cv1) ps = some cells) : StepE P st o (.agg cells) st.hp [] []
  | buildSlice {d : Nat} (hdst : o.dst = some d) {t e : TypeId} {len z by_ : Nat} {parts : Array (Nat × Operand)} {ps : List (Nat × List V)} {rows : List (List V)} {zs : List Value} (ho : o.op = .buildSlice t len parts) (hnm : st.hp (d, 0) = none)
      (ht : slTy P t = some (e, z, by_)) (hz : zeroC P e = some zs) (hzl : zs.length = z) (hp : partsV st parts.toList = some ps) (hr : rowsLit z 0 ps = some rows) (hl : rows.length = len) (hsm : len * z ≤ 16777216) (hz0 : 0 < z) :
      StepE P st o (.ref (d, 0) 0 len) (upd st.hp (d, 0) (some ⟨e, z, rows, false, true⟩)) [] []
  | makeSlice {d : Nat} (hdst : o.dst = some d) {t e : TypeId} {n z by_ : Nat} {x y : Operand} {k k' : IntKind} {zs : List Value} (ho : o.op = .makeSlice t x y) (hnm : st.hp (d, 0) = none) (hx : st.ev x = .sc (.int k (n : Int))) (hy : st.ev y = .sc (.int k' (n : Int)))
      (ht : slTy P t = some (e, z, by_)) (hz : zeroC P e = some zs) (hzl : zs.length = z) (h1 : zs.all (·.oneCell') = true) (hz0 : 0 < z) (hb : by_ ≤ 128) (hnb : n ≤ 1099511627776) :
      StepE P st o (.ref (d, 0) 0 n) (upd st.hp (d, 0) (some ⟨e, z, List.replicate n (zs.map cv1), false, true⟩)) [] []
  | store {t : TypeId} {x y : Operand} {n : Nm} {r c k : Nat} {b : Bool} {E : Entry} {row cs : List V} (ho : o.op = .store t x y) (hx : st.ev x = .ptr n r c) (hE : st.hp n = some (some E)) (hrow : E.rows[r]? = some row) (ht : tyK P t = some (b, k))
      (hy : (st.ev y).cells = some cs) (hcs : cs.length = k) (hk : c + k ≤ row.length) : StepE P st o .undef (upd st.hp n (some { E with rows := E.rows.set r (splice row c cs) })) [n] [n]
  | append {d : Nat} (hdst : o.dst = some d) {t e : TypeId} {z by_ : Nat} {s x : Operand} {K : Option Nm} {rows rows2 : List (List V)} {zs : List Value} {rs : List Nm} (ho : o.op = .call { callee := .builtin .append, args := #[s, x], argTypes := #[t, t] })
      (hnm : st.hp (d, 0) = none) (ht : slTy P t = some (e, z, by_)) (hz : zeroC P e = some zs) (hzl : zs.length = z) (hz0 : 0 < z) (hb : by_ ≤ 128) (hs : Tgt st (st.ev s) e z rows K) (hx : Src st (st.ev x) z rows2)
      (hlen : rows.length + rows2.length ≤ 1099511627776) (hrs1 : ∀ n, K = some n → n ∈ rs) (hrs2 : ∀ n off len, st.ev x = .ref n off len → n ∈ rs) :
      StepE P st o (.ref (d, 0) 0 (rows.length + rows2.length)) (upd (killed st.hp K) (d, 0) (some ⟨e, z, rows ++ rows2, false, true⟩)) rs rs
  | toBytes {d : Nat} (hdst : o.dst = some d) {src dst e : TypeId} {x : Operand} {s : ByteArray} (ho : o.op = .convert src dst x) (hnm : st.hp (d, 0) = none) (hx : st.ev x = .sc (.string s)) (hs : isStr P src = true) (ht : isBytes P dst = some e)
      (hlen : s.size ≤ 1099511627776) : StepE P st o (.ref (d, 0) 0 s.size) (upd st.hp (d, 0) (some ⟨e, 1, byteRows s, true, true⟩)) [] []
  | toString {src dst e : TypeId} {x : Operand} {ns : List Int} {rs : List Nm} (ho : o.op = .convert src dst x) (hx : Src st (st.ev x) 1 (numRows ns)) (hs : isBytes P src = some e) (ht : isStr P dst = true) (hrs : ∀ n off len, st.ev x = .ref n off len → n ∈ rs) :
      StepE P st o (.sc (.string (strOfNums ns))) st.hp rs []
  | eqStruct {t u : TypeId} {x y : Operand} {op : BinOp} {ks : List Nat} {xs ys : List V} {r : Bool} (ho : o.op = .binOp op t x y u) (hop : op = .eql ∨ op = .neq) (hx : st.ev x = .agg xs) (hy : st.ev y = .agg ys) (ht : flatK P t = some ks)
      (he : eqCs ks xs ys = some r) : StepE P st o (.sc (.bool (if op = .eql then r else !r))) st.hp [] []
  | call {d : Nat} (hdst : o.dst = some d) {r : V} {ns ks kb : List Nm} {outs : List Entry} (hcb : CallBy P st o d r ns ks kb outs) : StepE P st o (r.mat d) (retHp st.hp ns ks outs d r) (ns ++ kb) (ns ++ ks)

section
variable {P : Program} {w0 : World} {M0 : Base} {F0 : Nat → Prop} {st : St} {a : Act} {w : World} {φ : Env} {F : Nat → Prop} {o : Oper} {next : Act → World → Prop} {Q : Exit → Act → World → Prop}

theorem St.eta (st : St) (d : Option Nat) (v : V) : ({ st.put d v with hp := st.hp } : St) = st.put d v := by cases d <;> rfl

theorem StepE.ok {v : V} {hp' : Heap} {rs ws : List Nm} (hs : StepE P st o v hp' rs ws) (h : Sat w0 M0 F0 st a.tmps w φ F) (hd : dstOk o.dst st.n = true)
    (hn : Next w0 M0 F0 { st.put o.dst v with hp := hp' } a.defers next) : o.wp P a w next Q := by
  cases hs with
  | mv ho => exact ok_move h hd ho (by simpa only [St.eta] using hn)
  | pick ho hc => exact ok_pick h hd ho hc (by simpa only [St.eta] using hn)
  | pure hu hrun => exact ok_pure h hd hu hrun (by simpa only [St.eta] using hn)
  | extract ho hx hy => exact ok_extract h hd ho hx hy (by simpa only [St.eta] using hn)
  | nilCheck ho hx => exact ok_nilCheck h hd ho hx (by simpa only [St.eta] using hn)
  | makeFunc ho => exact ok_makeFunc h hd ho (by simpa only [St.eta] using hn)
  | load ho hx hE hrow ht hk hb => exact ok_load h hd ho hx hE hrow ht hk hb (by simpa only [St.eta] using hn)
  | loadF ho hx hrow ht hk hb => exact ok_loadF h hd ho hx hrow ht hk hb (by simpa only [St.eta] using hn)
  | fieldAddr ho hx ht hk => exact ok_fieldAddr h hd ho hx ht hk (by simpa only [St.eta] using hn)
  | fieldAddrF ho hx ht hk => exact ok_fieldAddrF h hd ho hx ht hk (by simpa only [St.eta] using hn)
  | field ho hx ht hk hb => exact ok_field h hd ho hx ht hk hb (by simpa only [St.eta] using hn)
  | indexAddr ho hx hy hE ht hz hi => exact ok_indexAddr h hd ho hx hy hE ht hz hi (by simpa only [St.eta] using hn)
  | indexAddrF ho hx hy ht hi => exact ok_indexAddrF h hd ho hx hy ht hi (by simpa only [St.eta] using hn)
  | len ho hx ht => exact ok_len h hd ho hx ht (by simpa only [St.eta] using hn)
  | slice ho hx hE ht hz h1 h2 hl hhl => exact ok_slice h hd ho hx hE ht hz h1 h2 hl hhl (by simpa only [St.eta] using hn)
  | sliceF ho hx ht h1 h2 hl hhl => exact ok_sliceF h hd ho hx ht h1 h2 hl hhl (by simpa only [St.eta] using hn)
  | alloc hdst ho hnm hz h1 => exact ok_alloc h hdst hd ho hnm hz h1 (by simpa [St.up] using hn)
  | box hdst ho hnm hx => exact ok_box h hdst hd ho hnm hx (by simpa [St.up] using hn)
  | build ho ht h1 hp hf => exact ok_build h hd ho ht h1 hp hf (by simpa only [St.eta] using hn)
  | buildSlice hdst ho hnm ht hz hzl hp hr hl hsm hz0 => exact ok_buildSlice h hdst hd ho hnm ht hz hzl hp hr hl hsm hz0 (by simpa [St.up] using hn)
  | makeSlice hdst ho hnm hx hy ht hz hzl h1 hz0 hb hnb => exact ok_makeSlice h hdst hd ho hnm hx hy ht hz hzl h1 hz0 hb hnb (by simpa [St.up] using hn)
  | store ho hx hE hrow ht hy hcs hk => exact ok_store h hd ho hx hE hrow ht hy hcs hk (by simpa [St.up] using hn)
  | append hdst ho hnm ht hz hzl hz0 hb hs hx hlen _ _ => exact ok_append h hdst hd ho hnm ht hz hzl hz0 hb hs hx hlen hn
  | toBytes hdst ho hnm hx hs ht hlen => exact ok_toBytes h hdst hd ho hnm hx hs ht hlen (by simpa [St.up] using hn)
  | toString ho hx hs ht _ => exact ok_toString h hd ho hx hs ht (by simpa only [St.eta] using hn)
  | eqStruct ho hop hx hy ht he => exact ok_eqStruct h hd ho hop hx hy ht he (by simpa only [St.eta] using hn)
  | call hdst hcb => exact ok_call h hdst hd hcb hn
end
end Go.Abs
