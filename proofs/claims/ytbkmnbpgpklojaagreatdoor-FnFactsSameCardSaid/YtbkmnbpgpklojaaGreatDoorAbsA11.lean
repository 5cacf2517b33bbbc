/- The abstract layer, part A11. -/
import Derived.Test.YtbkmnbpgpklojaaGreatDoorAbsA10f
namespace Go.Abs
open Go
inductive StepE (P : Program) (st : St) (o : Oper) : V → Heap → List Nm → List Nm → Prop where
 | mv {x : Operand} (ho : o.op = .move x ∨ o.op = .assign x) : StepE P st o (st.ev x) st.hp [] []
 | pick {c x y : Operand} {b : Bool} (ho : o.op = .pick c x y) (hc : st.ev c = .sc (.bool b)) : StepE P st o (if b then st.ev x else st.ev y) st.hp [] []
 | pure {u : Value} (hu : scalar u = true) (hrun : ∀ ρ : Operand → Value, (∀ f, ρ (.func f) = .func (.func f) #[] #[]) → (∀ x, x ∈ o.op.operands → ∀ u, st.ev x = .sc u → ρ x = u) → ∀ w, (execOp ρ o).run P w = .ok (.value u) w) : StepE P st o (.sc u) st.hp [] []
 | extract {x : Operand} {i : Nat} {xs : List V} {y : V} (ho : o.op = .extract x i) (hx : st.ev x = .tup xs) (hy : xs[i]? = some y) : StepE P st o y st.hp [] []
 | nilCheck {x : Operand} (ho : o.op = .nilCheck x) (hx : (∃ n r c, st.ev x = .ptr n r c) ∨ (∃ z rows r c, st.ev x = .lptr z rows r c) ∨ ∃ f c, st.ev x = .fn f c) : StepE P st o (st.ev x) st.hp [] []
 | makeFunc {f : FuncId} {cs : Array Operand} (ho : o.op = .makeFunc (.func f) #[] cs) : StepE P st o (.fn f (cs.toList.map st.ev)) st.hp [] []
 | load {t : TypeId} {x : Operand} {n : Nm} {r c k : Nat} {b : Bool} {E : Entry} {row : List V} (ho : o.op = .load t x) (hx : st.ev x = .ptr n r c) (hE : st.hp n = some (some E)) (hrow : E.rows[r]? = some row)
   (ht : tyK P t = some (b, k)) (hk : c + k ≤ row.length) (hb : b = false → k = 1) : StepE P st o (loadV b ((row.drop c).take k)) st.hp [n] []
 | loadF {t : TypeId} {x : Operand} {z r c k : Nat} {b : Bool} {rows : List (List V)} {row : List V} (ho : o.op = .load t x) (hx : st.ev x = .lptr z rows r c) (hrow : rows[r]? = some row)
   (ht : tyK P t = some (b, k)) (hk : c + k ≤ row.length) (hb : b = false → k = 1) : StepE P st o (loadV b ((row.drop c).take k)) st.hp [] []
 | fieldAddr {s : TypeId} {x : Operand} {f : Nat} {n : Nm} {r c off k : Nat} {b : Bool} (ho : o.op = .fieldAddr s x f) (hx : st.ev x = .ptr n r c) (ht : fldTy P s f = some (off, k, b)) (hk : k ≠ 0) : StepE P st o (.ptr n r (c + off)) st.hp [] []
 | fieldAddrF {s : TypeId} {x : Operand} {f : Nat} {z r c off k : Nat} {rows : List (List V)} {b : Bool} (ho : o.op = .fieldAddr s x f) (hx : st.ev x = .lptr z rows r c) (ht : fldTy P s f = some (off, k, b)) (hk : k ≠ 0) :
   StepE P st o (.lptr z rows r (c + off)) st.hp [] []
 | field {s : TypeId} {x : Operand} {f off k : Nat} {b : Bool} {xs : List V} (ho : o.op = .field s x f) (hx : st.ev x = .agg xs) (ht : fldTy P s f = some (off, k, b)) (hk : off + k ≤ xs.length) (hb : b = false → k = 1) :
   StepE P st o (loadV b ((xs.drop off).take k)) st.hp [] []
 | indexAddr {t e : TypeId} {x y : Operand} {n : Nm} {off len i z by_ : Nat} {k : IntKind} {E : Entry} (ho : o.op = .indexAddr t x y) (hx : st.ev x = .ref n off len) (hy : st.ev y = .sc (.int k (i : Int))) (hE : st.hp n = some (some E))
   (ht : slTy P t = some (e, z, by_)) (hz : E.z = z) (hi : i < len) : StepE P st o (.ptr n (off + i) 0) st.hp [n] []
 | indexAddrF {t e : TypeId} {x y : Operand} {i z by_ : Nat} {k : IntKind} {rows : List (List V)} (ho : o.op = .indexAddr t x y) (hx : st.ev x = .lst z rows) (hy : st.ev y = .sc (.int k (i : Int))) (ht : slTy P t = some (e, z, by_)) (hi : i < rows.length) :
   StepE P st o (.lptr z rows i 0) st.hp [] []
 | len {t : TypeId} {x : Operand} {n : Nat} {e : TypeId × Nat × Nat} (ho : o.op = .call { callee := .builtin .len, args := #[x], argTypes := #[t] }) (hx : (st.ev x).slen = some n) (ht : slTy P t = some e) : StepE P st o (.sc (.int .i64 n)) st.hp [] []
 | slice {t e : TypeId} {x : Operand} {lo hi : Option Operand} {n : Nm} {off len z by_ l hh : Nat} {E : Entry} (ho : o.op = .slice t x lo hi none) (hx : st.ev x = .ref n off len) (hE : st.hp n = some (some E)) (ht : slTy P t = some (e, z, by_)) (hz : E.z = z)
   (h1 : bnd st lo 0 l) (h2 : bnd st hi len hh) (hl : l ≤ hh) (hhl : hh ≤ len) : StepE P st o (.ref n (off + l) (hh - l)) st.hp [n] []
 | sliceF {t e : TypeId} {x : Operand} {lo hi : Option Operand} {z by_ l hh : Nat} {rows : List (List V)} (ho : o.op = .slice t x lo hi none) (hx : st.ev x = .lst z rows) (ht : slTy P t = some (e, z, by_))
   (h1 : bnd st lo 0 l) (h2 : bnd st hi rows.length hh) (hl : l ≤ hh) (hhl : hh ≤ rows.length) : StepE P st o (.lst z ((rows.drop l).take (hh - l))) st.hp [] []
 | alloc {d : Nat} (hdst : o.dst = some d) {t : TypeId} {zs : List Value} (ho : o.op = .alloc t) (hn : st.hp (d, 0) = none) (hz : zeroC P t = some zs) (h1 : zs.all (·.oneCell') = true) :
   StepE P st o (.ptr (d, 0) 0 0) (upd st.hp (d, 0) (some ⟨t, zs.length, [zs.map cv1], false, true⟩)) [] []
 | box {d : Nat} (hdst : o.dst = some d) {t : TypeId} {x : Operand} {cs : List V} (ho : o.op = .box t x) (hn : st.hp (d, 0) = none) (hx : (st.ev x).cells = some cs) :
   StepE P st o (.ptr (d, 0) 0 0) (upd st.hp (d, 0) (some ⟨t, cs.length, [cs], false, true⟩)) [] []
 | build {t : TypeId} {parts : Array (Nat × Operand)} {pl : List (Nat × Nat)} {zs : List Value} {ps : List (Nat × List V)} {cells : List V} (ho : o.op = .build t parts) (ht : strTy P t = some (pl, zs)) (h1 : zs.all (·.oneCell') = true)
   (hp : partsV st parts.toList = some ps) (hf : fillV (pl[·]?) (zs.map cv1) ps = some cells) : StepE P st o (.agg cells) st.hp [] []
 | buildSlice {d : Nat} (hdst : o.dst = some d) {t e : TypeId} {len z by_ : Nat} {parts : Array (Nat × Operand)} {ps : List (Nat × List V)} {rows : List (List V)} {zs : List Value} (ho : o.op = .buildSlice t len parts) (hnm : st.hp (d, 0) = none)
   (ht : slTy P t = some (e, z, by_)) (hz : zeroC P e = some zs) (hzl : zs.length = z) (hp : partsV st parts.toList = some ps) (hr : rowsLit z 0 ps = some rows) (hl : rows.length = len) (hsm : len * z ≤ 16777216) (hz0 : 0 < z) :
   StepE P st o (.ref (d, 0) 0 len) (upd st.hp (d, 0) (some ⟨e, z, rows, false, true⟩)) [] []
 | makeSlice {d : Nat} (hdst : o.dst = some d) {t e : TypeId} {n z by_ : Nat} {x y : Operand} {k k' : IntKind} {zs : List Value} {row : List V} (hrow : RowZ zs row) (ho : o.op = .makeSlice t x y) (hnm : st.hp (d, 0) = none) (hx : st.ev x = .sc (.int k (n : Int))) (hy : st.ev y = .sc (.int k' (n : Int)))
   (ht : slTy P t = some (e, z, by_)) (hz : zeroC P e = some zs) (hzl : zs.length = z) (h1 : zs.all (·.oneCell') = true) (hz0 : 0 < z) (hb : by_ ≤ 128) (hnb : n ≤ 1099511627776) :
   StepE P st o (.ref (d, 0) 0 n) (upd st.hp (d, 0) (some ⟨e, z, List.replicate n row, false, true⟩)) [] []
 | store {t : TypeId} {x y : Operand} {n : Nm} {r c k : Nat} {b : Bool} {E : Entry} {row cs : List V} (ho : o.op = .store t x y) (hx : st.ev x = .ptr n r c) (hE : st.hp n = some (some E)) (hrow : E.rows[r]? = some row) (ht : tyK P t = some (b, k))
   (hy : (st.ev y).cells = some cs) (hcs : cs.length = k) (hk : c + k ≤ row.length) : StepE P st o .undef (upd st.hp n (some { E with rows := E.rows.set r (splice row c cs) })) [n] [n]
 | append {d : Nat} (hdst : o.dst = some d) {t e : TypeId} {z by_ : Nat} {s x : Operand} {K : Option Nm} {rows rows2 : List (List V)} {zs : List Value} {rs ws : List Nm} (ho : o.op = .call { callee := .builtin .append, args := #[s, x], argTypes := #[t, t] })
   (hnm : st.hp (d, 0) = none) (ht : slTy P t = some (e, z, by_)) (hz : zeroC P e = some zs) (hzl : zs.length = z) (hz0 : 0 < z) (hb : by_ ≤ 128) (hs : Tgt st (st.ev s) e z rows K) (hx : Src st (st.ev x) z rows2)
   (hlen : rows.length + rows2.length ≤ 1099511627776) (hrs1 : ∀ n, K = some n → n ∈ rs ∧ n ∈ ws) (hrs2 : ∀ n off len, st.ev x = .ref n off len → n ∈ rs) :
   StepE P st o (.ref (d, 0) 0 (rows.length + rows2.length)) (upd (killed st.hp K) (d, 0) (some ⟨e, z, rows ++ rows2, false, true⟩)) rs ws
 | appendS {d : Nat} (hdst : o.dst = some d) {t u e : TypeId} {z by_ : Nat} {s x : Operand} {K : Option Nm} {s0 : ByteArray} {rows rows2 : List (List V)} {zs : List Value} {rs ws : List Nm} (hz1 : z = 1) (hr2 : rows2 = byteRows s0) (hu0 : isStr P u = true)
   (ho : o.op = .call { callee := .builtin .append, args := #[s, x], argTypes := #[t, u] }) (hnm : st.hp (d, 0) = none) (ht : slTy P t = some (e, z, by_)) (hz : zeroC P e = some zs) (hzl : zs.length = z) (hz0 : 0 < z) (hb : by_ ≤ 128) (hs : Tgt st (st.ev s) e z rows K) (hx : st.ev x = .sc (.string s0))
   (hlen : rows.length + rows2.length ≤ 1099511627776) (hrs1 : ∀ n, K = some n → n ∈ rs ∧ n ∈ ws) :
   StepE P st o (.ref (d, 0) 0 (rows.length + rows2.length)) (upd (killed st.hp K) (d, 0) (some ⟨e, z, rows ++ rows2, false, true⟩)) rs ws
 | capNil {t : TypeId} {x : Operand} {e : TypeId × Nat × Nat} (ho : o.op = .call { callee := .builtin .cap, args := #[x], argTypes := #[t] }) (hx : st.ev x = .nils) (ht : slTy P t = some e) : StepE P st o (.sc (.int .i64 0)) st.hp [] []
 | sliceNil {t e : TypeId} {x : Operand} {lo hi : Option Operand} {z by_ : Nat} (ho : o.op = .slice t x lo hi none) (hx : st.ev x = .nils) (ht : slTy P t = some (e, z, by_)) (h1 : bnd st lo 0 0) (h2 : bnd st hi 0 0) : StepE P st o .nils st.hp [] []
 | appendZ {d : Nat} (hdst : o.dst = some d) {t tn e : TypeId} {n z by_ : Nat} {s x : Operand} {k kn : IntKind} {zs : List Value} {row : List V} (hrow : RowZ zs row) (ho : o.op = .call { callee := .builtin .append, args := #[s, x], argTypes := #[t, tn] }) (hnm : st.hp (d, 0) = none) (hs : st.ev s = .nils) (hx : st.ev x = .sc (.int k (n : Int)))
   (hn0 : 0 < n) (ht : slTy P t = some (e, z, by_)) (htn : P.underlying tn = some (.int kn)) (hz : zeroC P e = some zs) (hzl : zs.length = z) (h1 : zs.all (·.oneCell') = true) (hz0 : 0 < z) (hb : by_ ≤ 128) (hnb : n ≤ 1099511627776) :
   StepE P st o (.ref (d, 0) 0 n) (upd st.hp (d, 0) (some ⟨e, z, List.replicate n row, false, true⟩)) [] []
 | toBytes {d : Nat} (hdst : o.dst = some d) {src dst e : TypeId} {x : Operand} {s : ByteArray} (ho : o.op = .convert src dst x) (hnm : st.hp (d, 0) = none) (hx : st.ev x = .sc (.string s)) (hs : isStr P src = true) (ht : isBytes P dst = some e)
   (hlen : s.size ≤ 1099511627776) : StepE P st o (.ref (d, 0) 0 s.size) (upd st.hp (d, 0) (some ⟨e, 1, byteRows s, true, true⟩)) [] []
 | toString {src dst e : TypeId} {x : Operand} {ns : List Int} {rs : List Nm} (ho : o.op = .convert src dst x) (hx : Src st (st.ev x) 1 (numRows ns)) (hs : isBytes P src = some e) (ht : isStr P dst = true) (hrs : ∀ n off len, st.ev x = .ref n off len → n ∈ rs) :
   StepE P st o (.sc (.string (strOfNums ns))) st.hp rs []
 | eqStruct {t u : TypeId} {x y : Operand} {op : BinOp} {ks : List Nat} {xs ys : List V} {r : Bool} (ho : o.op = .binOp op t x y u) (hop : op = .eql ∨ op = .neq) (hx : st.ev x = .agg xs) (hy : st.ev y = .agg ys) (ht : flatK P t = some ks)
   (he : eqCs ks xs ys = some r) : StepE P st o (.sc (.bool (if op = .eql then r else !r))) st.hp [] []
 | call {d : Nat} (hdst : o.dst = some d) {r : V} {ns ks kb : List Nm} {outs : List Entry} (hcb : CallBy P st o d r ns ks kb outs) : StepE P st o (r.mat d) (retHp st.hp ns ks outs d r) (ns ++ kb) (ns ++ ks)
 | callG {d : Nat} (hdst : o.dst = some d) {y : V} {own' : List (Nat × Entry)} {ns ks kb : List Nm} {outs' : List Entry} (hcb : CallByG P st o d y own' ns ks kb outs') : StepE P st o y (retHpG st.hp ns ks outs' d own') (ns ++ kb) (ns ++ ks)
 | clear {t e : TypeId} {z by_ : Nat} {x : Operand} {n : Nm} {off len : Nat} {E : Entry} {zs : List Value} (ho : o.op = .call { callee := .builtin .clear, args := #[x], argTypes := #[t] }) (hx : st.ev x = .ref n off len) (hE : st.hp n = some (some E))
   (ht : slTy P t = some (e, z, by_)) (hz : zeroC P e = some zs) (hzl : zs.length = z) (hEz : E.z = z) (h1 : zs.all (·.oneCell') = true) (hl : off + len = E.rows.length) : StepE P st o (.tup []) (upd st.hp n (some { E with rows := E.rows.take off })) [n] [n]
 | appendIn {t e : TypeId} {z by_ k : Nat} {s x : Operand} {n : Nm} {E : Entry} {rows2 : List (List V)} {rs ws : List Nm} (ho : o.op = .call { callee := .builtin .append, args := #[s, x], argTypes := #[t, t] }) (ht : slTy P t = some (e, z, by_)) (hz0 : 0 < z) (hs : st.ev s = .ref n 0 k) (hE : st.hp n = some (some E)) (hEs : E.str = false) (hEz : E.z = z) (hEe : E.e = e)
   (hx : Src st (st.ev x) z rows2) (hk : k + rows2.length ≤ E.rows.length) (hrs1 : n ∈ rs ∧ n ∈ ws) (hrs2 : ∀ n off len, st.ev x = .ref n off len → n ∈ rs) :
   StepE P st o (.ref n 0 (k + rows2.length)) (upd st.hp n (some { E with rows := E.rows.take k ++ rows2 ++ E.rows.drop (k + rows2.length) })) rs ws
 | sliceCap {t e : TypeId} {x y y' : Operand} {n : Nm} {off len z by_ l hh : Nat} {k k' : IntKind} {E : Entry} (ho : o.op = .slice t x (some y) (some y') none) (hx : st.ev x = .ref n off len) (hE : st.hp n = some (some E)) (ht : slTy P t = some (e, z, by_)) (hz : E.z = z)
   (h1 : st.ev y = .sc (.int k (l : Int))) (h2 : st.ev y' = .sc (.int k' (hh : Int))) (hl : l ≤ hh) (hhl : off + hh ≤ E.rows.length) : StepE P st o (.ref n (off + l) (hh - l)) st.hp [n] []
 | slice3 {t e : TypeId} {x y y' y2 : Operand} {n : Nm} {off len z by_ l hh m : Nat} {k k' k2 : IntKind} {E : Entry} (ho : o.op = .slice t x (some y) (some y') (some y2)) (hx : st.ev x = .ref n off len) (hE : st.hp n = some (some E)) (ht : slTy P t = some (e, z, by_))
   (h1 : st.ev y = .sc (.int k (l : Int))) (h2 : st.ev y' = .sc (.int k' (hh : Int))) (h3 : st.ev y2 = .sc (.int k2 (m : Int))) (hl : l ≤ hh) (hhm : hh ≤ m) (hml : m ≤ len) : StepE P st o .undef st.hp [n] []
 /-- What an operation made is let go at once: it is only read from then on. -/
 | frz {d : Nat} (hdst : o.dst = some d) {v v' : V} {hp' : Heap} {rs ws : List Nm} {D : List Nm} (h : StepE P st o v hp' rs ws) (hD : ∀ n, n ∈ D → n.1 = d ∧ st.hp n = none ∧ ∃ E, hp' n = some (some E) ∧ E.mine = true) (hv : ArgRel hp' [] D v v') : StepE P st o v' (killAll D hp') rs ws
section
variable {P : Program} {w0 : World} {M0 : Base} {F0 : Nat → Prop} {st : St} {a : Act} {w : World} {φ : Env} {F : Nat → Prop} {o : Oper} {next : Act → World → Prop} {Q : Exit → Act → World → Prop}
theorem St.eta (st : St) (d : Option Nat) (v : V) : ({ st.put d v with hp := st.hp } : St) = st.put d v := by cases d <;> rfl
theorem killAll_at (D : List Nm) (hp : Heap) (m : Nm) : killAll D hp m = if m ∈ D then some none else hp m := rfl
theorem Sat.kill {tm : Array Value} {D : List Nm} {st1 st2 : St} (h : Sat w0 M0 F0 st1 tm w φ F) (hD : ∀ n, n ∈ D → ∃ E, st1.hp n = some (some E) ∧ E.mine = true) (hn : st2.n = st1.n) (hh : st2.hp = killAll D st1.hp)
  (hs : ∀ t, st2.tm t = st1.tm t ∨ ArgRel st1.hp [] D (st1.tm t) (st2.tm t)) : Sat w0 M0 F0 st2 tm w φ (calleeF st1.hp φ F D) := by
 have live : ∀ n E, st2.hp n = some (some E) → n ∉ D ∧ st1.hp n = some (some E) := fun n E hE => by
  rw [hh, killAll_at] at hE
  split at hE
  ·cases hE
  ·rename_i hk; exact ⟨hk, hE⟩
 have hms : ∀ b, Mset st2.hp φ b → Mset st1.hp φ b := fun b hb => by
  obtain ⟨n, E, z, cap, h1, h2⟩ := hb
  exact ⟨n, E, z, cap, (live n E h1).2, h2⟩
 have up : ∀ {x : V} {v : Value}, Rep w F φ x v → Rep w (calleeF st1.hp φ F D) φ x v := fun hr => hr.mono (w' := w) (fun _ _ => rfl) (fun _ h => .inl h) (fun _ _ h => h)
 refine ⟨h.os, h.tape, h.output, h.size, h.old, fun b hb => h.mine b (hms b hb), h.bas, fun b hb => ?_, fun b hb hm => ?_, fun b hb => ?_, h.slots.trans hn.symm, fun t => ?_, fun n n' E E' z z' b cap cap' h1 h2 h3 h4 => h.inj n n' E E' z z' b cap cap' (live _ _ h1).2 (live _ _ h2).2 h3 h4, fun n E hE => ?_, fun n hn' => ?_⟩
 ·rcases hb with hb | ⟨n, z, cap, E, hk, hE, hφ⟩
  ·exact h.fr b hb
  ·obtain ⟨E', hE', hm⟩ := hD n hk
   obtain ⟨loc, g1, -, g3⟩ := h.obj n E' hE'
   rw [hφ] at g1
   obtain ⟨-, rfl⟩ : z = E'.z ∧ Loc.at b cap = loc := by simpa using g1
   exact .inr (g3 hm b cap rfl)
 ·obtain ⟨n, E, z, cap, h1, h2⟩ := hm
  obtain ⟨h3, h4⟩ := live n E h1
  rcases hb with hb | ⟨n', z', cap', E', hk, hE', hφ⟩
  ·exact h.dis b hb ⟨n, E, z, cap, h4, h2⟩
  ·have := h.inj n n' E E' z z' b cap cap' h4 hE' h2 hφ
   subst this; exact h3 hk
 ·rcases hb with hb | ⟨n', z', cap', E', hk, hE', hφ⟩
  ·exact h.flt b hb
  ·exact h.lt ⟨n', E', z', cap', hE', hφ⟩
 ·rcases hs t with e | e
  ·rw [e]; exact up (h.rep t)
  ·exact (argRel_rep h (fun n hn => by cases hn) e _ (h.rep t)).mono (w' := w) (fun _ _ => rfl) (fun _ h => h) (fun n e he => by simp [calleeEnv] at he)
 ·obtain ⟨h1, h2⟩ := live n E hE
  obtain ⟨loc, g1, g2, g3⟩ := h.obj n E h2
  exact ⟨loc, g1, g2.mono (w' := w) (fun _ _ => rfl) (fun _ h => .inl h) (fun _ _ h => h) (fun _ _ _ => rfl), g3⟩
 ·rw [hh, killAll_at] at hn'
  split at hn'
  ·cases hn'
  ·exact h.absent n hn'
theorem StepE.ok {v : V} {hp' : Heap} {rs ws : List Nm} (hs : StepE P st o v hp' rs ws) (h : Sat w0 M0 F0 st a.tmps w φ F) (hd : dstOk o.dst st.n = true)
  (hn : Next w0 M0 F0 { st.put o.dst v with hp := hp' } a.defers next) : o.wp P a w next Q := by
 induction hs with
 | mv ho => exact ok_move h hd ho (by simpa only [St.eta] using hn)
 | pick ho hc => exact ok_pick h hd ho hc (by simpa only [St.eta] using hn)
 | pure hu hrun => exact ok_pure h hd hu hrun (by simpa only [St.eta] using hn)
 | extract ho hx hy => exact ok_extract h hd ho hx hy (by simpa only [St.eta] using hn)
 | nilCheck ho hx => exact ok_nilCheck h hd ho hx (by simpa only [St.eta] using hn)
 | makeFunc ho => exact ok_makeFunc h hd ho (by simpa only [St.eta] using hn)
 | load ho hx hE hrow ht hk hb => exact ok_load h hd ho hx hE hrow ht hk hb (by simpa only [St.eta] using hn)
 | loadF ho hx hrow ht hk hb => exact ok_loadF h hd ho hx hrow ht hk hb (by simpa only [St.eta] using hn)
 | fieldAddr ho hx ht hk => exact ok_fieldAddr h hd ho hx ht hk (by simpa only [St.eta] using hn)
 | fieldAddrF ho hx ht hk => exact ok_fieldAddrF h hd ho hx ht hk (by simpa only [St.eta] using hn)
 | field ho hx ht hk hb => exact ok_field h hd ho hx ht hk hb (by simpa only [St.eta] using hn)
 | indexAddr ho hx hy hE ht hz hi => exact ok_indexAddr h hd ho hx hy hE ht hz hi (by simpa only [St.eta] using hn)
 | indexAddrF ho hx hy ht hi => exact ok_indexAddrF h hd ho hx hy ht hi (by simpa only [St.eta] using hn)
 | len ho hx ht => exact ok_len h hd ho hx ht (by simpa only [St.eta] using hn)
 | slice ho hx hE ht hz h1 h2 hl hhl => exact ok_slice h hd ho hx hE ht hz h1 h2 hl hhl (by simpa only [St.eta] using hn)
 | sliceF ho hx ht h1 h2 hl hhl => exact ok_sliceF h hd ho hx ht h1 h2 hl hhl (by simpa only [St.eta] using hn)
 | alloc hdst ho hnm hz h1 => exact ok_alloc h hdst hd ho hnm hz h1 (by simpa [St.up] using hn)
 | box hdst ho hnm hx => exact ok_box h hdst hd ho hnm hx (by simpa [St.up] using hn)
 | build ho ht h1 hp hf => exact ok_build h hd ho ht h1 hp hf (by simpa only [St.eta] using hn)
 | buildSlice hdst ho hnm ht hz hzl hp hr hl hsm hz0 => exact ok_buildSlice h hdst hd ho hnm ht hz hzl hp hr hl hsm hz0 (by simpa [St.up] using hn)
 | capNil ho hx ht => exact ok_capNil h hd ho hx ht (by simpa only [St.eta] using hn)
 | sliceNil ho hx ht h1 h2 => exact ok_sliceNil h hd ho hx ht h1 h2 (by simpa only [St.eta] using hn)
 | appendZ hdst hrow ho hnm hs hx hn0 ht htn hz hzl h1 hz0 hb hnb => exact ok_appendZ h hdst hd hrow ho hnm hs hx hn0 ht htn hz hzl h1 hz0 hb hnb (by simpa [St.up] using hn)
 | makeSlice hdst hrow ho hnm hx hy ht hz hzl h1 hz0 hb hnb => exact ok_makeSlice h hdst hd hrow ho hnm hx hy ht hz hzl h1 hz0 hb hnb (by simpa [St.up] using hn)
 | store ho hx hE hrow ht hy hcs hk => exact ok_store h hd ho hx hE hrow ht hy hcs hk (by simpa [St.up] using hn)
 | append hdst ho hnm ht hz hzl hz0 hb hs hx hlen _ _ => exact ok_append h hdst hd ho hnm ht hz hzl hz0 hb hs hx hlen hn
 | appendS hdst hz1 hr2 hu0 ho hnm ht hz hzl hz0 hb hs hx hlen _ => exact ok_appendS h hdst hd hz1 hr2 hu0 ho hnm ht hz hzl hz0 hb hs hx hlen hn
 | toBytes hdst ho hnm hx hs ht hlen => exact ok_toBytes h hdst hd ho hnm hx hs ht hlen (by simpa [St.up] using hn)
 | toString ho hx hs ht _ => exact ok_toString h hd ho hx hs ht (by simpa only [St.eta] using hn)
 | eqStruct ho hop hx hy ht he => exact ok_eqStruct h hd ho hop hx hy ht he (by simpa only [St.eta] using hn)
 | call hdst hcb => exact ok_call h hdst hd hcb hn
 | callG hdst hcb => exact ok_callG h hdst hd hcb hn
 | clear ho hx hE ht hz hzl hEz h1 hl => exact ok_clear h hd ho hx hE ht hz hzl hEz h1 hl (by simpa [St.up] using hn)
 | appendIn ho ht hz0 hs hE hEs hEz hEe hx hk _ _ => exact ok_appendIn h hd ho ht hz0 hs hE hEs hEz hEe hx hk (by simpa [St.up] using hn)
 | sliceCap ho hx hE ht hz h1 h2 hl hhl => exact ok_sliceCap h hd ho hx hE ht hz h1 h2 hl hhl (by simpa only [St.eta] using hn)
 | slice3 ho hx hE ht h1 h2 h3 hl hhm hml => exact ok_slice3 h hd ho hx hE ht h1 h2 h3 hl hhm hml (by simpa only [St.eta] using hn)
 | @frz d hdst v v' hp' rs ws D h1 hD hv ih =>
  refine ih fun a' w' φ' F' hs' hd' => hn a' w' φ' (calleeF hp' φ' F' D) ?_ hd'
  refine hs'.kill (D := D) (st2 := { st.put o.dst v' with hp := killAll D hp' }) (fun n hn => (hD n hn).2.2) (by simp) rfl fun t => ?_
  rw [hdst]
  show (if t = d then v' else st.tm t) = (if t = d then v else st.tm t) ∨ _
  by_cases ht : t = d
  ·right
   show ArgRel hp' [] D (if t = d then v else st.tm t) (if t = d then v' else st.tm t)
   rw [if_pos ht, if_pos ht]; exact hv
  ·left; rw [if_neg ht, if_neg ht]
end
end Go.Abs
