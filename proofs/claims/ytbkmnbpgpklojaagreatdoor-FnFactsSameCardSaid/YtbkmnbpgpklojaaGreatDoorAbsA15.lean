/- The abstract layer, part A15. -/
import Derived.Test.YtbkmnbpgpklojaaGreatDoorAbsA14
namespace Go.Abs
open Go
abbrev Tm := List (Nat × V)
abbrev Hp := List (Nm × Option Entry)
def lkT : Tm → Nat → V
 | [], _ => .undef
 | (d, v) :: T, t => match Nat.beq t d with | true => v | false => lkT T t
def nmEq (a b : Nm) : Bool := match Nat.beq a.1 b.1 with | true => Nat.beq a.2 b.2 | false => false
def lkH : Hp → Heap
 | [], _ => none
 | (k, e) :: H, m => match nmEq m k with | true => some e | false => lkH H m
def mkT (n : Nat) (T : Tm) (H : Hp) : St := ⟨n, lkT T, lkH H⟩
theorem nmEq_iff {a b : Nm} : nmEq a b = true ↔ a = b := by
 obtain ⟨a1, a2⟩ := a; obtain ⟨b1, b2⟩ := b
 unfold nmEq
 cases h : Nat.beq a1 b1 with
 | true => simp [Nat.eq_of_beq_eq_true h]
 | false => simp [Nat.ne_of_beq_eq_false h]
theorem lkT_cons (d : Nat) (v : V) (T : Tm) (t : Nat) : lkT ((d, v) :: T) t = if t = d then v else lkT T t := by
 simp only [lkT]
 cases h : Nat.beq t d with
 | true => simp [Nat.eq_of_beq_eq_true h]
 | false => simp [Nat.ne_of_beq_eq_false h]
theorem lkH_cons (k : Nm) (e : Option Entry) (H : Hp) (m : Nm) : lkH ((k, e) :: H) m = if m = k then some e else lkH H m := by
 simp only [lkH]
 cases h : nmEq m k with
 | true => simp [nmEq_iff.1 h]
 | false => rw [if_neg (fun q => by rw [nmEq_iff.2 q] at h; cases h)]
@[simp] theorem mkT_hp (n : Nat) (T : Tm) (H : Hp) : (mkT n T H).hp = lkH H := rfl
theorem mkT_put (n : Nat) (T : Tm) (H H' : Hp) (d : Nat) (v : V) : ({ (mkT n T H).put (some d) v with hp := lkH H' } : St) = mkT n ((d, v) :: T) H' := by
 show (⟨n, fun t => if t = d then v else lkT T t, lkH H'⟩ : St) = ⟨n, lkT ((d, v) :: T), lkH H'⟩
 have : (fun t => if t = d then v else lkT T t) = lkT ((d, v) :: T) := by funext t; exact (lkT_cons d v T t).symm
 rw [this]
theorem upd_lkH (H : Hp) (k : Nm) (e : Option Entry) : upd (lkH H) k e = lkH ((k, e) :: H) := by
 funext m
 exact (lkH_cons k e H m).symm
def srcN : V → List Nm | .ref m _ _ => [m] | _ => []
section
variable {P : Program} {n : Nat} {T : Tm} {H : Hp} {o : Oper} {ops : Array Oper} {K : Lg → St → Prop} {rest : List Oper} {d : Nat}
theorem s_of {v : V} {hp' : Heap} {rs ws : List Nm} (hs : StepE P (mkT n T H) o v hp' rs ws) (hh : hp' = lkH H) (hd : o.dst = some d) (hn : Nat.blt d n = true) (hg : wantA ops (mkT n T H) o = some true)
  (h : RegT P ops (kp K rs ws) rest (mkT n ((d, v) :: T) H)) : RegT P ops K (o :: rest) (mkT n T H) := by
 subst hh
 refine rt_step hs hg (by rw [hd]; exact decide_eq_true (by simpa [mkT, Nat.blt_eq] using hn)) ?_
 rw [hd, mkT_put]; exact h
theorem s_ofH {v : V} {hp' : Heap} {k : Nm} {e : Option Entry} {rs ws : List Nm} (hs : StepE P (mkT n T H) o v hp' rs ws) (hh : hp' = upd (lkH H) k e) (hd : o.dst = some d) (hn : Nat.blt d n = true) (hg : wantA ops (mkT n T H) o = some true)
  (h : RegT P ops (kp K rs ws) rest (mkT n ((d, v) :: T) ((k, e) :: H))) : RegT P ops K (o :: rest) (mkT n T H) := by
 subst hh
 refine rt_step hs hg (by rw [hd]; exact decide_eq_true (by simpa [mkT, Nat.blt_eq] using hn)) ?_
 rw [hd, upd_lkH, mkT_put]; exact h
theorem s_ofN {hp' : Heap} {k : Nm} {e : Option Entry} {rs ws : List Nm} (hs : StepE P (mkT n T H) o .undef hp' rs ws) (hh : hp' = upd (lkH H) k e) (hd : o.dst = none) (hg : wantA ops (mkT n T H) o = some true)
  (h : RegT P ops (kp K rs ws) rest (mkT n T ((k, e) :: H))) : RegT P ops K (o :: rest) (mkT n T H) := by
 subst hh
 refine rt_step hs hg (by rw [hd]; rfl) ?_
 rw [hd, upd_lkH]; exact h
theorem s_skip (hd : o.dst = some d) (hn : Nat.blt d n = true) (hg : wantA ops (mkT n T H) o = some false) (h : RegT P ops (kp K [] []) rest (mkT n ((d, .tup []) :: T) H)) : RegT P ops K (o :: rest) (mkT n T H) := by
 refine rt_skip hg (by rw [hd]; exact decide_eq_true (by simpa [mkT, Nat.blt_eq] using hn)) ?_
 rw [hd]
 have := mkT_put n T H H d (.tup [])
 rw [← this] at h; exact h
theorem s_split {t : Nat} {b : Bool} (hb : lkT T t = .sc (.bool b)) (h1 : b = true → RegT P ops K rest (mkT n ((t, .sc (.bool true)) :: T) H)) (h0 : b = false → RegT P ops K rest (mkT n ((t, .sc (.bool false)) :: T) H)) : RegT P ops K rest (mkT n T H) := by
 have e : mkT n T H = mkT n ((t, .sc (.bool b)) :: T) H := by
  unfold mkT; congr 1; funext s; rw [lkT_cons]; split
  ·rename_i q; rw [q, hb]
  ·rfl
 rw [e]
 cases b
 ·exact h0 rfl
 ·exact h1 rfl
theorem s_mv {x : Operand} {v : V} (ho : o.op = .move x ∨ o.op = .assign x) (hx : (mkT n T H).ev x = v) (hd : o.dst = some d) (hn : Nat.blt d n = true) (hg : wantA ops (mkT n T H) o = some true)
  (h : RegT P ops (kp K [] []) rest (mkT n ((d, v) :: T) H)) : RegT P ops K (o :: rest) (mkT n T H) := s_of (v := v) (by rw [← hx]; exact StepE.mv ho) rfl hd hn hg h
theorem s_pickT {c x y : Operand} {v : V} (ho : o.op = .pick c x y) (hc : (mkT n T H).ev c = .sc (.bool true)) (hx : (mkT n T H).ev x = v) (hd : o.dst = some d) (hn : Nat.blt d n = true) (hg : wantA ops (mkT n T H) o = some true)
  (h : RegT P ops (kp K [] []) rest (mkT n ((d, v) :: T) H)) : RegT P ops K (o :: rest) (mkT n T H) := s_of (v := v) (by have := StepE.pick (P := P) ho hc; simpa [hx] using this) rfl hd hn hg h
theorem s_pickF {c x y : Operand} {v : V} (ho : o.op = .pick c x y) (hc : (mkT n T H).ev c = .sc (.bool false)) (hx : (mkT n T H).ev y = v) (hd : o.dst = some d) (hn : Nat.blt d n = true) (hg : wantA ops (mkT n T H) o = some true)
  (h : RegT P ops (kp K [] []) rest (mkT n ((d, v) :: T) H)) : RegT P ops K (o :: rest) (mkT n T H) := s_of (v := v) (by have := StepE.pick (P := P) ho hc; simpa [hx] using this) rfl hd hn hg h
theorem s_load {t : TypeId} {x : Operand} {nm : Nm} {r c k : Nat} {b : Bool} {E : Entry} {row : List V} {v : V} (ho : o.op = .load t x) (hx : (mkT n T H).ev x = .ptr nm r c) (hE : lkH H nm = some (some E)) (hrow : E.rows[r]? = some row)
  (ht : tyK P t = some (b, k)) (hk : Nat.ble (c + k) row.length = true) (hb : b = true ∨ k = 1) (hv : loadV b ((row.drop c).take k) = v) (hd : o.dst = some d) (hn : Nat.blt d n = true) (hg : wantA ops (mkT n T H) o = some true)
  (h : RegT P ops (kp K [nm] []) rest (mkT n ((d, v) :: T) H)) : RegT P ops K (o :: rest) (mkT n T H) :=
 s_of (v := v) (by rw [← hv]; exact .load ho hx hE hrow ht (Nat.le_of_ble_eq_true hk) (fun q => by rcases hb with h | h; (rw [q] at h; cases h); exact h)) rfl hd hn hg h
theorem s_loadF {t : TypeId} {x : Operand} {z r c k : Nat} {b : Bool} {rows : List (List V)} {row : List V} {v : V} (ho : o.op = .load t x) (hx : (mkT n T H).ev x = .lptr z rows r c) (hrow : rows[r]? = some row)
  (ht : tyK P t = some (b, k)) (hk : Nat.ble (c + k) row.length = true) (hb : b = true ∨ k = 1) (hv : loadV b ((row.drop c).take k) = v) (hd : o.dst = some d) (hn : Nat.blt d n = true) (hg : wantA ops (mkT n T H) o = some true)
  (h : RegT P ops (kp K [] []) rest (mkT n ((d, v) :: T) H)) : RegT P ops K (o :: rest) (mkT n T H) :=
 s_of (v := v) (by rw [← hv]; exact .loadF ho hx hrow ht (Nat.le_of_ble_eq_true hk) (fun q => by rcases hb with h | h; (rw [q] at h; cases h); exact h)) rfl hd hn hg h
theorem s_loadR {t : TypeId} {x : Operand} {nm : Nm} {r : Nat} {E : Entry} {row : List V} (ho : o.op = .load t x) (hx : (mkT n T H).ev x = .ptr nm r 0) (hE : lkH H nm = some (some E)) (hrow : E.rows[r]? = some row)
  (ht : tyK P t = some (true, row.length)) (hd : o.dst = some d) (hn : Nat.blt d n = true) (hg : wantA ops (mkT n T H) o = some true)
  (h : RegT P ops (kp K [nm] []) rest (mkT n ((d, .agg row) :: T) H)) : RegT P ops K (o :: rest) (mkT n T H) :=
 s_of (v := .agg row) (by have := StepE.load (P := P) ho hx hE hrow ht (by omega) (fun q => by cases q); simpa [loadV] using this) rfl hd hn hg h
theorem s_loadFR {t : TypeId} {x : Operand} {z r : Nat} {rows : List (List V)} {row : List V} (ho : o.op = .load t x) (hx : (mkT n T H).ev x = .lptr z rows r 0) (hrow : rows[r]? = some row)
  (ht : tyK P t = some (true, row.length)) (hd : o.dst = some d) (hn : Nat.blt d n = true) (hg : wantA ops (mkT n T H) o = some true)
  (h : RegT P ops (kp K [] []) rest (mkT n ((d, .agg row) :: T) H)) : RegT P ops K (o :: rest) (mkT n T H) :=
 s_of (v := .agg row) (by have := StepE.loadF (P := P) ho hx hrow ht (by omega) (fun q => by cases q); simpa [loadV] using this) rfl hd hn hg h
theorem s_fieldAddr {s : TypeId} {x : Operand} {f : Nat} {nm : Nm} {r c off k : Nat} {b : Bool} (ho : o.op = .fieldAddr s x f) (hx : (mkT n T H).ev x = .ptr nm r c) (ht : fldTy P s f = some (off, k + 1, b)) {c' : Nat} (hc : c + off = c')
  (hd : o.dst = some d) (hn : Nat.blt d n = true) (hg : wantA ops (mkT n T H) o = some true) (h : RegT P ops (kp K [] []) rest (mkT n ((d, .ptr nm r c') :: T) H)) : RegT P ops K (o :: rest) (mkT n T H) :=
 s_of (v := .ptr nm r c') (by rw [← hc]; exact .fieldAddr ho hx ht (Nat.succ_ne_zero k)) rfl hd hn hg h
theorem s_fieldAddrF {s : TypeId} {x : Operand} {f : Nat} {z r c off k : Nat} {rows : List (List V)} {b : Bool} (ho : o.op = .fieldAddr s x f) (hx : (mkT n T H).ev x = .lptr z rows r c) (ht : fldTy P s f = some (off, k + 1, b)) {c' : Nat} (hc : c + off = c')
  (hd : o.dst = some d) (hn : Nat.blt d n = true) (hg : wantA ops (mkT n T H) o = some true) (h : RegT P ops (kp K [] []) rest (mkT n ((d, .lptr z rows r c') :: T) H)) : RegT P ops K (o :: rest) (mkT n T H) :=
 s_of (v := .lptr z rows r c') (by rw [← hc]; exact .fieldAddrF ho hx ht (Nat.succ_ne_zero k)) rfl hd hn hg h
theorem s_index {t e : TypeId} {x y : Operand} {nm : Nm} {off len i z by_ : Nat} {k : IntKind} {E : Entry} (ho : o.op = .indexAddr t x y) (hx : (mkT n T H).ev x = .ref nm off len) (hy : (mkT n T H).ev y = .sc (.int k (i : Int))) (hE : lkH H nm = some (some E))
  (ht : slTy P t = some (e, z, by_)) (hz : E.z = z) (hi : i < len) (hd : o.dst = some d) (hn : Nat.blt d n = true) (hg : wantA ops (mkT n T H) o = some true) (h : RegT P ops (kp K [nm] []) rest (mkT n ((d, .ptr nm (off + i) 0) :: T) H)) : RegT P ops K (o :: rest) (mkT n T H) :=
 s_of (.indexAddr ho hx hy hE ht hz hi) rfl hd hn hg h
theorem s_indexF {t e : TypeId} {x y : Operand} {i z by_ : Nat} {k : IntKind} {rows : List (List V)} (ho : o.op = .indexAddr t x y) (hx : (mkT n T H).ev x = .lst z rows) (hy : (mkT n T H).ev y = .sc (.int k (i : Int))) (ht : slTy P t = some (e, z, by_)) (hi : i < rows.length)
  (hd : o.dst = some d) (hn : Nat.blt d n = true) (hg : wantA ops (mkT n T H) o = some true) (h : RegT P ops (kp K [] []) rest (mkT n ((d, .lptr z rows i 0) :: T) H)) : RegT P ops K (o :: rest) (mkT n T H) :=
 s_of (.indexAddrF ho hx hy ht hi) rfl hd hn hg h
theorem s_len {t : TypeId} {x : Operand} {m : Nat} {e : TypeId × Nat × Nat} (ho : o.op = .call { callee := .builtin .len, args := #[x], argTypes := #[t] }) (ht : slTy P t = some e) (hx : ((mkT n T H).ev x).slen = some m)
  (hd : o.dst = some d) (hn : Nat.blt d n = true) (hg : wantA ops (mkT n T H) o = some true) (h : RegT P ops (kp K [] []) rest (mkT n ((d, .sc (.int .i64 (m : Int))) :: T) H)) : RegT P ops K (o :: rest) (mkT n T H) :=
 s_of (.len ho hx ht) rfl hd hn hg h
theorem s_alloc {t : TypeId} {zs : List Value} {m : Nat} {row : List V} (ho : o.op = .alloc t) (hd : o.dst = some d) (hnm : lkH H (d, 0) = none) (hz : zeroC P t = some zs) (h1 : zs.all (·.oneCell') = true) (hm : zs.length = m) (hr : zs.map cv1 = row)
  (hn : Nat.blt d n = true) (hg : wantA ops (mkT n T H) o = some true) (h : RegT P ops (kp K [] []) rest (mkT n ((d, .ptr (d, 0) 0 0) :: T) (((d, 0), some ⟨t, m, [row], false, true⟩) :: H))) : RegT P ops K (o :: rest) (mkT n T H) :=
 s_ofH (by rw [← hm, ← hr]; exact .alloc hd ho hnm hz h1) rfl hd hn hg h
theorem s_box {t : TypeId} {x : Operand} {cs : List V} {m : Nat} (ho : o.op = .box t x) (hd : o.dst = some d) (hnm : lkH H (d, 0) = none) (hx : ((mkT n T H).ev x).cells = some cs) (hm : cs.length = m)
  (hn : Nat.blt d n = true) (hg : wantA ops (mkT n T H) o = some true) (h : RegT P ops (kp K [] []) rest (mkT n ((d, .ptr (d, 0) 0 0) :: T) (((d, 0), some ⟨t, m, [cs], false, true⟩) :: H))) : RegT P ops K (o :: rest) (mkT n T H) :=
 s_ofH (by rw [← hm]; exact .box hd ho hnm hx) rfl hd hn hg h
theorem s_store {t : TypeId} {x y : Operand} {nm : Nm} {r c k : Nat} {b : Bool} {E : Entry} {row cs : List V} {rows' : List (List V)} (ho : o.op = .store t x y) (hx : (mkT n T H).ev x = .ptr nm r c) (hE : lkH H nm = some (some E)) (hrow : E.rows[r]? = some row) (ht : tyK P t = some (b, k))
  (hy : ((mkT n T H).ev y).cells = some cs) (hcs : cs.length = k) (hk : Nat.ble (c + k) row.length = true) (hr : E.rows.set r (splice row c cs) = rows') (hd : o.dst = none) (hg : wantA ops (mkT n T H) o = some true)
  (h : RegT P ops (kp K [nm] [nm]) rest (mkT n T ((nm, some ⟨E.e, E.z, rows', E.str, E.mine⟩) :: H))) : RegT P ops K (o :: rest) (mkT n T H) :=
 s_ofN (by rw [← hr]; exact .store ho hx hE hrow ht hy hcs (Nat.le_of_ble_eq_true hk)) rfl hd hg h
theorem s_storeB {t e : TypeId} {x y : Operand} {nm : Nm} {z k : Nat} {b st mi : Bool} {row cs : List V} (ho : o.op = .store t x y) (hx : (mkT n T H).ev x = .ptr nm 0 0) (hE : lkH H nm = some (some ⟨e, z, [row], st, mi⟩)) (ht : tyK P t = some (b, k))
  (hy : ((mkT n T H).ev y).cells = some cs) (hcs : cs.length = k) (hk : row.length = k) (hd : o.dst = none) (hg : wantA ops (mkT n T H) o = some true)
  (h : RegT P ops (kp K [nm] [nm]) rest (mkT n T ((nm, some ⟨e, z, [cs], st, mi⟩) :: H))) : RegT P ops K (o :: rest) (mkT n T H) :=
 s_store ho hx hE rfl ht hy hcs (Nat.ble_eq_true_of_le (by omega)) (by simp [splice, hcs, ← hk]) hd hg h
theorem s_build {t : TypeId} {parts : Array (Nat × Operand)} {pl : List (Nat × Nat)} {zs : List Value} {ps : List (Nat × List V)} {cells : List V} (ho : o.op = .build t parts) (ht : strTy P t = some (pl, zs)) (h1 : zs.all (·.oneCell') = true)
  (hp : partsV (mkT n T H) parts.toList = some ps) (hf : fillV (pl[·]?) (zs.map cv1) ps = some cells) {cells' : List V} (hc : cells = cells') (hd : o.dst = some d) (hn : Nat.blt d n = true) (hg : wantA ops (mkT n T H) o = some true)
  (h : RegT P ops (kp K [] []) rest (mkT n ((d, .agg cells') :: T) H)) : RegT P ops K (o :: rest) (mkT n T H) := s_of (v := .agg cells') (by rw [← hc]; exact .build ho ht h1 hp hf) rfl hd hn hg h
theorem s_buildSlice {t e : TypeId} {len z by_ : Nat} {parts : Array (Nat × Operand)} {ps : List (Nat × List V)} {rows rows' : List (List V)} {zs : List Value} (ho : o.op = .buildSlice t len parts) (hd : o.dst = some d) (hnm : lkH H (d, 0) = none)
  (ht : slTy P t = some (e, z, by_)) (hz : zeroC P e = some zs) (hzl : zs.length = z) (hp : partsV (mkT n T H) parts.toList = some ps) (hr : rowsLit z 0 ps = some rows) (hr' : rows = rows') (hl : rows.length = len) (hsm : Nat.ble (len * z) 16777216 = true) (hz0 : Nat.blt 0 z = true)
  (hn : Nat.blt d n = true) (hg : wantA ops (mkT n T H) o = some true) (h : RegT P ops (kp K [] []) rest (mkT n ((d, .ref (d, 0) 0 len) :: T) (((d, 0), some ⟨e, z, rows', false, true⟩) :: H))) : RegT P ops K (o :: rest) (mkT n T H) :=
 s_ofH (.buildSlice hd ho hnm ht hz hzl hp (hr' ▸ hr) (hr' ▸ hl) (Nat.le_of_ble_eq_true hsm) (by simpa [Nat.blt_eq] using hz0)) rfl hd hn hg h
theorem s_append {t e : TypeId} {z by_ len len0 : Nat} {nm : Nm} {s x : Operand} {rows rows2 : List (List V)} {zs : List Value} (ho : o.op = .call { callee := .builtin .append, args := #[s, x], argTypes := #[t, t] })
  (hd : o.dst = some d) (hnm : lkH H (d, 0) = none) (ht : slTy P t = some (e, z, by_)) (hz : zeroC P e = some zs) (hzl : zs.length = z) (hz0 : Nat.blt 0 z = true) (hb : Nat.ble by_ 128 = true) (hs : (mkT n T H).ev s = .ref nm 0 len0)
  (hE : lkH H nm = some (some ⟨e, z, rows, false, true⟩)) (hl0 : len0 = rows.length) (hx : Src (mkT n T H) ((mkT n T H).ev x) z rows2) (hl : len0 + rows2.length = len) (hlen : len ≤ 1099511627776) (hn : Nat.blt d n = true) (hg : wantA ops (mkT n T H) o = some true)
  (h : RegT P ops (kp K (nm :: srcN ((mkT n T H).ev x)) [nm]) rest (mkT n ((d, .ref (d, 0) 0 len) :: T) (((d, 0), some ⟨e, z, rows ++ rows2, false, true⟩) :: (nm, none) :: H))) : RegT P ops K (o :: rest) (mkT n T H) := by
 subst hl0
 refine rt_step (v := .ref (d, 0) 0 len) (hp' := upd (upd (lkH H) nm none) (d, 0) (some ⟨e, z, rows ++ rows2, false, true⟩)) (rs := nm :: srcN ((mkT n T H).ev x)) (ws := [nm]) ?_ hg (by rw [hd]; exact decide_eq_true (by simpa [mkT, Nat.blt_eq] using hn)) ?_
 ·have := StepE.append (P := P) (st := mkT n T H) hd (K := some nm) (rows := rows) (rows2 := rows2) (rs := nm :: srcN ((mkT n T H).ev x)) (ws := [nm]) ho hnm ht hz hzl (by simpa [Nat.blt_eq] using hz0) (Nat.le_of_ble_eq_true hb) (.inr ⟨nm, _, hs, hE, rfl, rfl, rfl, rfl, rfl, rfl⟩) hx (by omega) (fun m hm => by simp_all) (fun m off l hm => by simp [srcN, hm])
  simpa [killed, hl] using this
 ·rw [hd, upd_lkH, upd_lkH, mkT_put]; exact h
theorem s_eqStruct {t u : TypeId} {x y : Operand} {ks : List Nat} {xs ys : List V} {r r' : Bool} (ho : o.op = .binOp .eql t x y u) (hx : (mkT n T H).ev x = .agg xs) (hy : (mkT n T H).ev y = .agg ys) (ht : flatK P t = some ks)
  (he : eqCs ks xs ys = some r) (hr : r = r') (hd : o.dst = some d) (hn : Nat.blt d n = true) (hg : wantA ops (mkT n T H) o = some true) (h : RegT P ops (kp K [] []) rest (mkT n ((d, .sc (.bool r')) :: T) H)) : RegT P ops K (o :: rest) (mkT n T H) :=
 s_of (v := .sc (.bool r')) (by have := StepE.eqStruct (P := P) ho (.inl rfl) hx hy ht he; rw [← hr]; simpa using this) rfl hd hn hg h
theorem s_inc {t u : TypeId} {x y : Operand} {a b c : Nat} (ho : o.op = .binOp .add t x y u) (hx : (mkT n T H).ev x = .sc (.int .i64 (a : Int))) (hy : (mkT n T H).ev y = .sc (.int .i64 (b : Int))) (hc : a + b = c) (hlt : c < 9223372036854775808)
  (hd : o.dst = some d) (hn : Nat.blt d n = true) (hg : wantA ops (mkT n T H) o = some true) (h : RegT P ops (kp K [] []) rest (mkT n ((d, .sc (.int .i64 (c : Int))) :: T) H)) : RegT P ops K (o :: rest) (mkT n T H) :=
 s_of (v := .sc (.int .i64 (c : Int))) (by have := st_add (P := P) ho hx hy; rwa [show IntKind.i64.wrap ((a : Int) + (b : Int)) = (c : Int) from by rw [← hc]; simp [IntKind.wrap, IntKind.signed, IntKind.bits]; omega] at this) rfl hd hn hg h
theorem src_lst {st : St} {z : Nat} {rows : List (List V)} : Src st (.lst z rows) z rows := .inr (.inl rfl)
theorem src_ref {st : St} {nm : Nm} {E : Entry} {z len : Nat} (h : st.hp nm = some (some E)) (hz : E.z = z) (hl : len = E.rows.length) : Src st (.ref nm 0 len) z E.rows := .inr (.inr ⟨nm, 0, len, E, rfl, h, hz, by omega, by simp [hl]⟩)
end
end Go.Abs
