/- The abstract layer, part A25. -/
import Derived.Test.YtbkmnbpgpklojaaGreatDoorAbsA24
namespace Go.Abs
open Go
def grd {α : Type} (p : Prop) [Decidable p] (x : Option α) : Option α := if p then x else none
def bnd1 {α γ : Type} (x : Option α) (f : α → Option γ) : Option γ := match x with | some a => f a | none => none
def bnd2 {α β γ : Type} (x : Option (α × β)) (f : α → β → Option γ) : Option γ := match x with | some (a, b) => f a b | none => none
def bnd3 {α β γ δ : Type} (x : Option (α × β × δ)) (f : α → β → δ → Option γ) : Option γ := match x with | some (a, b, c) => f a b c | none => none
def bnd4 {α β γ δ ε : Type} (x : Option (α × β × δ × ε)) (f : α → β → δ → ε → Option γ) : Option γ := match x with | some (a, b, c, d) => f a b c d | none => none
def bnd5 {α β γ δ ε ζ : Type} (x : Option (α × β × δ × ε × ζ)) (f : α → β → δ → ε → ζ → Option γ) : Option γ := match x with | some (a, b, c, d, e) => f a b c d e | none => none
def bnd6 {α β γ δ ε ζ η : Type} (x : Option (α × β × δ × ε × ζ × η)) (f : α → β → δ → ε → ζ → η → Option γ) : Option γ := match x with | some (a, b, c, d, e, g) => f a b c d e g | none => none
section
variable {α β γ δ ε ζ η : Type}
theorem grd_some {p : Prop} [Decidable p] {x : Option α} {v : α} (h : grd p x = some v) : p ∧ x = some v := by
 unfold grd at h; split at h
 ·rename_i q; exact ⟨q, h⟩
 ·cases h
theorem grd_pos {p : Prop} [Decidable p] {x : Option α} (h : p) : grd p x = x := if_pos h
theorem bnd1_some {x : Option α} {f : α → Option γ} {v : γ} (h : bnd1 x f = some v) : ∃ a, x = some a ∧ f a = some v := by
 cases x with
 | none => cases h
 | some a => exact ⟨a, rfl, h⟩
theorem bnd2_some {x : Option (α × β)} {f : α → β → Option γ} {v : γ} (h : bnd2 x f = some v) : ∃ a b, x = some (a, b) ∧ f a b = some v := by
 cases x with
 | none => cases h
 | some a => exact ⟨a.1, a.2, rfl, h⟩
theorem bnd3_some {x : Option (α × β × δ)} {f : α → β → δ → Option γ} {v : γ} (h : bnd3 x f = some v) : ∃ a b c, x = some (a, b, c) ∧ f a b c = some v := by
 cases x with
 | none => cases h
 | some a => exact ⟨a.1, a.2.1, a.2.2, rfl, h⟩
@[simp] theorem bnd1_mk {a : α} {f : α → Option γ} : bnd1 (some a) f = f a := rfl
@[simp] theorem bnd2_mk {a : α} {b : β} {f : α → β → Option γ} : bnd2 (some (a, b)) f = f a b := rfl
@[simp] theorem bnd3_mk {a : α} {b : β} {c : δ} {f : α → β → δ → Option γ} : bnd3 (some (a, b, c)) f = f a b c := rfl
@[simp] theorem bnd4_mk {a : α} {b : β} {c : δ} {d : ε} {f : α → β → δ → ε → Option γ} : bnd4 (some (a, b, c, d)) f = f a b c d := rfl
@[simp] theorem bnd5_mk {a : α} {b : β} {c : δ} {d : ε} {e : ζ} {f : α → β → δ → ε → ζ → Option γ} : bnd5 (some (a, b, c, d, e)) f = f a b c d e := rfl
@[simp] theorem bnd6_mk {a : α} {b : β} {c : δ} {d : ε} {e : ζ} {g : η} {f : α → β → δ → ε → ζ → η → Option γ} : bnd6 (some (a, b, c, d, e, g)) f = f a b c d e g := rfl
theorem cond_t {b : Bool} {A B : Option α} {v : α} (h : (bif b then A else B) = some v) (hc : b = true) : A = some v := by subst hc; exact h
theorem cond_f {b : Bool} {A B : Option α} {v : α} (h : (bif b then A else B) = some v) (hc : b = false) : B = some v := by subst hc; exact h
theorem cond_or {f : Bool → α} {a b : Bool} : (bif a then f true else f b) = f (a || b) := by cases a <;> rfl
def idx (l : List α) (i : Int) : Option α := if 0 ≤ i then l[i.toNat]? else none
theorem idx_some {l : List α} {i : Int} {x : α} (h : idx l i = some x) : 0 ≤ i ∧ l[i.toNat]? = some x := by
 unfold idx at h; split at h
 ·rename_i q; exact ⟨q, h⟩
 ·cases h
theorem get_lt {l : List α} {i : Nat} {x : α} (h : l[i]? = some x) : i < l.length := (List.getElem?_eq_some_iff.1 h).1
theorem get_ltM {f : α → List V} {l : List α} {i : Nat} {x : α} (h : l[i]? = some x) : i < (l.map f).length := by rw [List.length_map]; exact get_lt h
theorem rowG {f : α → List V} {l : List α} {i : Nat} {x : α} (h : l[i]? = some x) : (l.map f)[i]? = some (f x) := by simp [h]
theorem drop_t {l rest : List α} {i : Nat} (hd : l.drop i = rest) (hc : decide ((i : Int) < (l.length : Int)) = true) : ∃ x t, rest = x :: t ∧ l[i]? = some x ∧ l.drop (i + 1) = t := by
 have h : i < l.length := by simpa using hc
 exact ⟨l[i], l.drop (i + 1), by rw [← hd]; exact List.drop_eq_getElem_cons h, List.getElem?_eq_getElem h, rfl⟩
theorem drop_f {l rest : List α} {i : Nat} (hd : l.drop i = rest) (hc : decide ((i : Int) < (l.length : Int)) = false) : rest = [] := by
 have h : l.length ≤ i := by simpa using hc
 rw [← hd]; exact List.drop_eq_nil_of_le h
end
theorem tri_cutI {ι : Type} {P : Program} {x y : Code} {Q : Exit → St → Prop} {st : St} (inv : ι → St) (h : Tri P x (thenS (fun s => ∃ i, Ent s (inv i)) Q) st) (h2 : ∀ i, Tri P y Q (inv i)) : Tri P (.seq x y) Q st :=
  tri_seq (h.mono fun e s hs => by
    cases e with
    | normal => obtain ⟨i, hi⟩ := hs; exact Tri.ent hi (h2 i)
    | exit id => exact hs
    | goto l => exact hs
    | ret => exact hs
    | panic c => exact hs
    | outgrown => exact hs)
theorem tri_lst {P : Program} {c : Code} {Q : Exit → St → Prop} {n : Nat} {T : Tm} {H : Hp} (t : Nat) {z : Nat} {rows : List (List V)} (ht : lkT T t = .lst z rows) (h : rows.length ≤ 9223372036854775807 → Tri P c Q (mkT n T H)) : Tri P c Q (mkT n T H) := fun w0 M0 F0 a w φ F hs hd => by
 have hr := hs.rep t
 rw [show (mkT n T H).tm t = .lst z rows from ht] at hr
 refine h ?_ w0 M0 F0 a w φ F hs hd
 generalize a.tmps.getD t Go.undef = u at hr
 cases hr with
 | lst b o g ha hc hm hz hM cell one sub => simp only [maxLen] at hm; omega
theorem tri_lstM {α : Type} {P : Program} {c : Code} {Q : Exit → St → Prop} {n : Nat} {T : Tm} {H : Hp} (t : Nat) {z : Nat} {f : α → List V} {l : List α} (ht : lkT T t = .lst z (l.map f)) (h : l.length ≤ 9223372036854775807 → Tri P c Q (mkT n T H)) : Tri P c Q (mkT n T H) :=
 tri_lst t ht fun q => h (by simpa using q)
def RowsCv (hp : Heap) (src : Nm → Option Nm) (D : List Nm) (N : Nm → Option Nat) (rows rows' : List (List V)) : Prop :=
 rows'.length ≤ rows.length ∧ ∀ i j y, cellAt rows' i j = some y → ∃ x, cellAt rows i j = some x ∧ Cv hp src D N x y
section
variable {hp : Heap} {src : Nm → Option Nm} {D : List Nm} {N : Nm → Option Nat}
theorem rowsCv_eq {rows rows' : List (List V)} (h : rows = rows') (hf : AllFree rows') : RowsCv hp src D N rows rows' := by
 subst h; exact ⟨Nat.le_refl _, fun i j y hy => ⟨y, hy, .free (hf i j y hy)⟩⟩
theorem CvL.get {xs ys : List V} (h : CvL hp src D N xs ys) : ∀ (j : Nat) y, ys[j]? = some y → ∃ x, xs[j]? = some x ∧ Cv hp src D N x y := by
 induction h with
 | nil => intro j y hy; simp at hy
 | cons h _ ih =>
  intro j y hy
  cases j with
  | zero => simp at hy; subst hy; exact ⟨_, rfl, h⟩
  | succ j => exact ih j y (by simpa using hy)
theorem CvL.tup {xs ys : List V} (h : CvL hp src D N xs ys) : Cv hp src D N (.tup xs) (.tup ys) := by
 have hl : xs.length = ys.length := by
  induction h with
  | nil => rfl
  | cons _ _ ih => simp [ih]
 refine .tup hl fun i x y hx hy => ?_
 obtain ⟨x', h1, h2⟩ := h.get i y hy
 rw [hx] at h1; cases h1; exact h2
theorem CvL.fn {f : FuncId} {xs ys : List V} (h : CvL hp src D N xs ys) : Cv hp src D N (.fn f xs) (.fn f ys) := by
 have hl : xs.length = ys.length := by
  induction h with
  | nil => rfl
  | cons _ _ ih => simp [ih]
 refine .fn hl fun i x y hx hy => ?_
 obtain ⟨x', h1, h2⟩ := h.get i y hy
 rw [hx] at h1; cases h1; exact h2
theorem cvL_free : ∀ {xs : List V}, xs.all (·.free) = true → CvL hp src D N xs xs
 | [], _ => .nil
 | x :: xs, h => by
  simp only [List.all_cons, Bool.and_eq_true] at h
  exact .cons (.free h.1) (cvL_free h.2)
theorem rowsCv_one {xs ys : List V} (h : CvL hp src D N xs ys) : RowsCv hp src D N [xs] [ys] :=
  ⟨Nat.le_refl _, fun i j y hy => by
    unfold cellAt at hy ⊢
    cases i with
    | zero => simpa using h.get j y (by simpa using hy)
    | succ i => simp at hy⟩
theorem cvFreeze {H : Hp} {D : List Nm} {n : Nm} {e : TypeId} {z len : Nat} {rows : List (List V)} {s m : Bool} (hn : lkH H n = some (some ⟨e, z, rows, s, m⟩)) (hk : n ∈ D) (hl : len = rows.length) (hf : AllFree rows) (hz : ∀ r, r ∈ rows → r.length = z) : Cv (lkH H) src D N (.ref n 0 len) (.lst z rows) :=
 .refLst (E := ⟨e, z, rows, s, m⟩) hn hk (by simp only; omega) hl.symm hz (fun i j => (cellAt rows i j).getD .undef) (fun i j x hx => by simp [hx]) (fun i j x hx => by rw [hx]; exact .free (hf i j x hx)) hf
theorem cellAt_view {rows : List (List V)} {off len i j : Nat} {x : V} (h : cellAt ((rows.drop off).take len) i j = some x) : cellAt rows (off + i) j = some x := by
 simp only [cellAt, List.getElem?_take, List.getElem?_drop] at h ⊢
 split at h
 ·exact h
 ·simp at h
theorem cvFreezeV {H : Hp} {D : List Nm} {n : Nm} {e : TypeId} {z off len : Nat} {rows rows' : List (List V)} {s m : Bool} (hn : lkH H n = some (some ⟨e, z, rows, s, m⟩)) (hk : n ∈ D) (hl : off + len ≤ rows.length) (hr : (rows.drop off).take len = rows') (hf : AllFree rows) (hz : ∀ r, r ∈ rows → r.length = z) :
  Cv (lkH H) src D N (.ref n off len) (.lst z rows') := by
 subst hr
 refine .refLst (E := ⟨e, z, rows, s, m⟩) hn hk hl (by simp; omega) (fun r hr => hz r (List.mem_of_mem_drop (List.mem_of_mem_take hr))) (fun i j => (cellAt rows (off + i) j).getD .undef) (fun i j x hx => by rw [cellAt_view hx]; rfl) (fun i j x hx => by rw [cellAt_view hx]; exact .free (hf _ _ _ (cellAt_view hx))) fun i j x hx => hf _ _ _ (cellAt_view hx)
end
def ItemX (H : Hp) (src : Nm → Option Nm) (D : List Nm) (N : Nm → Option Nat) (p : Item) : Prop := match p.2.2 with
 | none => p.2.1.rows = []
 | some m => (D.any (nmEq m)) = false ∧ ∃ E, lkH H m = some (some E) ∧ p.2.1.e = E.e ∧ p.2.1.z = E.z ∧ p.2.1.str = E.str ∧ (p.2.1.mine = true → E.mine = true) ∧ RowsCv (lkH H) src D N E.rows p.2.1.rows ∧ ∀ r, r ∈ p.2.1.rows → r.length = p.2.1.z
def itemsX (H : Hp) (src : Nm → Option Nm) (D : List Nm) (N : Nm → Option Nat) : List Item → Prop
 | [] => True
 | p :: l => ItemX H src D N p ∧ itemsX H src D N l
theorem itemsX_mem {H : Hp} {src : Nm → Option Nm} {D : List Nm} {N : Nm → Option Nat} {l : List Item} (h : itemsX H src D N l) {p : Item} (hp : p ∈ l) : ItemX H src D N p := by
 induction l with
 | nil => cases hp
 | cons q l ih =>
  cases hp with
  | head => exact h.1
  | tail _ hp => exact ih h.2 hp
theorem re_itemsX {n : Nat} {T : Tm} {H : Hp} {l : List Item} {D : List Nm} (hl : itemsX H (itSrc l) D (itN l) l) (hD : dropsOk H D) (ha : itApart l = true) (hb : itBase H l = true) {hp' : Heap} (hh : hp' = lkH (itH l)) : Re (mkT n T H) hp' (itSrc l) D (itN l) := by
 subst hh
 refine ⟨fun k hk => dropsOk_mem hD hk, fun k m h => itBoth h, fun k E' h => ?_, fun k k' E E' m _ _ h1 h2 => itApart_inj ha h1 h2, fun k h => itH_none h, fun i h => ?_⟩
 ·rcases itH_some h with ⟨-, h2, h3⟩ | ⟨m, h1, h2⟩
  ·exact .inl ⟨h2, itemsX_mem hl h3⟩
  ·obtain ⟨hd, E, g1, g2, g3, g4, g5, ⟨g6, g7⟩, g8⟩ := itemsX_mem hl h2
   refine .inr ⟨m, E, h1, g1, fun hm => ?_, g2, g3, g4, g5, g6, g8, g7⟩
   have : D.any (nmEq m) = true := List.any_eq_true.2 ⟨m, hm, nmEq_iff.2 rfl⟩
   rw [this] at hd; cases hd
 ·obtain ⟨e, he⟩ := lkH_mem h
  have := List.all_eq_true.1 hb _ he
  simp only [bne_self_eq_false, Bool.false_or] at this
  cases hs : itSrc l (1000, i) with
  | none => rw [hs] at this; cases this
  | some m => rw [hs] at this; simp only at this; rw [nmEq_iff.1 this]
theorem entX {n : Nat} {T T' : Tm} {H : Hp} (l : List Item) (D : List Nm) (hl : itemsX H (itSrc l) D (itN l) l) (hD : dropsOk H D) (ha : itApart l = true) (hb : itBase H l = true) (hT : cvT H l D T T') : Ent (mkT n T H) (mkT n T' (itH l)) :=
 Ent.mk rfl (re_itemsX hl hD ha hb rfl) (cvT_all hT)
section
variable {P : Program} {n : Nat} {T : Tm} {H : Hp} {rs : List ResultVar} {r : V} {outs : List Entry}
theorem endX {xs : List V} (l : List Item) (D : List Nm) (hx : ResVs P (mkT n T H) rs xs) (hl : itemsX H (itSrc l) D (itN l) l) (hD : dropsOk H D) (ha : itApart l = true) (hb : itBase H l = true)
  (hh : r.owns.map (fun q => ((2000, q.1), some q.2)) ++ outsL 0 outs = itH l) (hv : Cv (lkH H) (itSrc l) D (itN l) (resOne xs) (r.mat 2000)) : EndR P rs r outs (mkT n T H) :=
 ⟨xs, hx, itSrc l, D, itN l, re_itemsX hl hD ha hb (by rw [resHp_eq, hh]), hv⟩
theorem resTmp {a : Nat} {v : V} (h : lkT T a = v) : ResV P (mkT n T H) (.tmp a) v := h
end
section
variable {P : Program} {n : Nat} {T : Tm} {H : Hp} {o : Oper} {ops : Array Oper} {K : Lg → St → Prop} {rest : List Oper} {d : Nat}
theorem s_index0 {t e : TypeId} {x y : Operand} {nm : Nm} {len i z by_ : Nat} {k : IntKind} {E : Entry} (ho : o.op = .indexAddr t x y) (hx : (mkT n T H).ev x = .ref nm 0 len) (hy : (mkT n T H).ev y = .sc (.int k (i : Int))) (hE : lkH H nm = some (some E))
  (ht : slTy P t = some (e, z, by_)) (hz : E.z = z) (hi : i < len) (hd : o.dst = some d) (hn : Nat.blt d n = true) (hg : wantA ops (mkT n T H) o = some true) (h : RegT P ops (kp K [nm] []) rest (mkT n ((d, .ptr nm i 0) :: T) H)) : RegT P ops K (o :: rest) (mkT n T H) :=
 s_index ho hx hy hE ht hz hi hd hn hg (by rw [Nat.zero_add]; exact h)
theorem s_indexZ {t e : TypeId} {x y : Operand} {nm : Nm} {len z by_ : Nat} {i : Int} {k : IntKind} {E : Entry} (ho : o.op = .indexAddr t x y) (hx : (mkT n T H).ev x = .ref nm 0 len) (hy : (mkT n T H).ev y = .sc (.int k i)) (hE : lkH H nm = some (some E))
  (ht : slTy P t = some (e, z, by_)) (hz : E.z = z) (hi0 : 0 ≤ i) (hi : i.toNat < len) (hd : o.dst = some d) (hn : Nat.blt d n = true) (hg : wantA ops (mkT n T H) o = some true) (h : RegT P ops (kp K [nm] []) rest (mkT n ((d, .ptr nm i.toNat 0) :: T) H)) : RegT P ops K (o :: rest) (mkT n T H) :=
 s_index0 (i := i.toNat) ho hx (by rw [hy, Int.toNat_of_nonneg hi0]) hE ht hz hi hd hn hg h
theorem s_indexFZ {t e : TypeId} {x y : Operand} {z by_ : Nat} {i : Int} {k : IntKind} {rows : List (List V)} (ho : o.op = .indexAddr t x y) (hx : (mkT n T H).ev x = .lst z rows) (hy : (mkT n T H).ev y = .sc (.int k i)) (ht : slTy P t = some (e, z, by_)) (hi0 : 0 ≤ i) (hi : i.toNat < rows.length)
  (hd : o.dst = some d) (hn : Nat.blt d n = true) (hg : wantA ops (mkT n T H) o = some true) (h : RegT P ops (kp K [] []) rest (mkT n ((d, .lptr z rows i.toNat 0) :: T) H)) : RegT P ops K (o :: rest) (mkT n T H) :=
 s_indexF (i := i.toNat) ho hx (by rw [hy, Int.toNat_of_nonneg hi0]) ht hi hd hn hg h
theorem s_storeL {α : Type} {f : α → List V} {l : List α} {x x' : α} {t : TypeId} {p y : Operand} {nm : Nm} {e : TypeId} {z r c k : Nat} {b st mi : Bool} {cs : List V} (ho : o.op = .store t p y) (hp : (mkT n T H).ev p = .ptr nm r c) (hE : lkH H nm = some (some ⟨e, z, l.map f, st, mi⟩)) (hr : l[r]? = some x) (ht : tyK P t = some (b, k))
  (hy : ((mkT n T H).ev y).cells = some cs) (hcs : cs.length = k) (hk : Nat.ble (c + k) (f x).length = true) (hs : splice (f x) c cs = f x') (hd : o.dst = none) (hg : wantA ops (mkT n T H) o = some true)
  (h : RegT P ops (kp K [nm] [nm]) rest (mkT n T ((nm, some ⟨e, z, (l.set r x').map f, st, mi⟩) :: H))) : RegT P ops K (o :: rest) (mkT n T H) :=
 s_store ho hp hE (rowG hr) ht hy hcs hk (by simp only; rw [hs, ← List.map_set]) hd hg h
def bndZ (st : St) (x : Option Operand) (d : Int) (l : Int) : Prop := match x with | none => d = l | some y => ∃ k, st.ev y = .sc (.int k l)
theorem bndZ_bnd {st : St} {x : Option Operand} {d : Nat} {l : Int} (h : bndZ st x d l) (h0 : 0 ≤ l) : bnd st x d l.toNat := by
 cases x with
 | none => have h : (d : Int) = l := h; show l.toNat = d; omega
 | some y => obtain ⟨k, h⟩ := h; exact ⟨k, by rw [h, Int.toNat_of_nonneg h0]⟩
theorem s_sliceFZ {α : Type} {f : α → List V} {l : List α} {t e : TypeId} {x : Operand} {lo hi : Option Operand} {z by_ : Nat} {a b : Int} (ho : o.op = .slice t x lo hi none) (hx : (mkT n T H).ev x = .lst z (l.map f)) (ht : slTy P t = some (e, z, by_))
    (h1 : bndZ (mkT n T H) lo ((0 : Nat) : Int) a) (h2 : bndZ (mkT n T H) hi (l.length : Int) b) (hl : 0 ≤ a ∧ a ≤ b ∧ b ≤ (l.length : Int)) (hd : o.dst = some d) (hn : Nat.blt d n = true) (hg : wantA ops (mkT n T H) o = some true)
    (h : RegT P ops (kp K [] []) rest (mkT n ((d, .lst z (((l.drop a.toNat).take (b.toNat - a.toNat)).map f)) :: T) H)) : RegT P ops K (o :: rest) (mkT n T H) :=
  s_of (v := .lst z (((l.drop a.toNat).take (b.toNat - a.toNat)).map f)) (by
    have := StepE.sliceF (P := P) (rows := l.map f) ho hx ht (bndZ_bnd h1 hl.1) (bndZ_bnd (d := (l.map f).length) (by rw [List.length_map]; exact h2) (by omega)) (by omega) (by rw [List.length_map]; omega)
    rwa [← List.map_drop, ← List.map_take] at this) rfl hd hn hg h
theorem s_sliceZ {t e : TypeId} {x : Operand} {lo hi : Option Operand} {nm : Nm} {off len z by_ : Nat} {E : Entry} {a b : Int} (ho : o.op = .slice t x lo hi none) (hx : (mkT n T H).ev x = .ref nm off len) (hE : lkH H nm = some (some E)) (ht : slTy P t = some (e, z, by_)) (hz : E.z = z)
  (h1 : bndZ (mkT n T H) lo ((0 : Nat) : Int) a) (h2 : bndZ (mkT n T H) hi (len : Int) b) (hl : 0 ≤ a ∧ a ≤ b ∧ b ≤ (len : Int)) (hd : o.dst = some d) (hn : Nat.blt d n = true) (hg : wantA ops (mkT n T H) o = some true)
  (h : RegT P ops (kp K [nm] []) rest (mkT n ((d, .ref nm (off + a.toNat) (b.toNat - a.toNat)) :: T) H)) : RegT P ops K (o :: rest) (mkT n T H) :=
 s_of (.slice ho hx hE ht hz (bndZ_bnd h1 hl.1) (bndZ_bnd h2 (by omega)) (by omega) (by omega)) rfl hd hn hg h
theorem s_nilCheck {x : Operand} {v : V} (ho : o.op = .nilCheck x) (hx : (mkT n T H).ev x = v) (hv : (∃ n r c, v = .ptr n r c) ∨ (∃ z rows r c, v = .lptr z rows r c) ∨ ∃ f c, v = .fn f c) (hd : o.dst = some d) (hn : Nat.blt d n = true) (hg : wantA ops (mkT n T H) o = some true)
  (h : RegT P ops (kp K [] []) rest (mkT n ((d, v) :: T) H)) : RegT P ops K (o :: rest) (mkT n T H) := s_of (v := v) (by rw [← hx]; exact .nilCheck ho (by rw [hx]; exact hv)) rfl hd hn hg h
theorem s_extract {x : Operand} {i : Nat} {xs : List V} {y : V} (ho : o.op = .extract x i) (hx : (mkT n T H).ev x = .tup xs) (hy : xs[i]? = some y) (hd : o.dst = some d) (hn : Nat.blt d n = true) (hg : wantA ops (mkT n T H) o = some true)
  (h : RegT P ops (kp K [] []) rest (mkT n ((d, y) :: T) H)) : RegT P ops K (o :: rest) (mkT n T H) := s_of (v := y) (.extract ho hx hy) rfl hd hn hg h
theorem s_callN {fop : Operand} {args : Array Operand} {tys : Array TypeId} {f : FuncId} {caps xs cargs : List V} {ins outs : List Entry} {r v : V} {H' : Hp} {ns kb : List Nm}
    (ho : o.op = .call { callee := .value fop, args := args, argTypes := tys }) (hf : (mkT n T H).ev fop = .fn f caps) (hc : callable P f = true) (hrun : Runs P f cargs ins r outs)
    (hx : args.toList.map (mkT n T H).ev ++ caps = xs) (hrel : ArgsR H ns kb xs cargs) (hins : insOf H ns ins) (hfr : ∀ E, E ∈ ins → AllFree E.rows) (hnd : ns.Nodup) (hkn : ∀ n, n ∈ kb → n ∉ ns)
    (hr : okScR r = true) (hrs : ownsSc r.owns) (ho' : ∀ E, E ∈ outs → AllSc E.rows) (hab : (r.owns.all fun q => (lkH H (d, q.1)).isNone) = true)
    (hv : r.mat d = v) (hH : r.owns.map (fun q => ((d, q.1), some q.2)) ++ outsH ns outs H = H')
    (hd : o.dst = some d) (hn : Nat.blt d n = true) (hg : wantA ops (mkT n T H) o = some true) (h : RegT P ops (kp K (ns ++ kb) ns) rest (mkT n ((d, v) :: T) H')) : RegT P ops K (o :: rest) (mkT n T H) :=
  s_call (ns := ns) (ks := []) (kb := kb) ho hf hc hrun hx hrel hins hfr hnd hkn (fun q E hq => by
    have := List.all_eq_true.1 hab _ hq
    cases hl : lkH H (d, q) with
    | none => rfl
    | some e => simp only [hl] at this; cases this) (.inr ⟨rfl, okScR_p hr, ownsSc_mem hrs, ho'⟩) hv hH hd hn hg (by rw [List.append_nil]; exact h)
def okFrC : V → Bool
 | .own _ _ _ | .obox _ _ => true
 | x => x.free
def okFr1 : V → Bool
 | .agg xs => xs.all okFrC
 | x => okFrC x
def okFrR : V → Bool
 | .tup xs => xs.all okFr1
 | x => okFr1 x
theorem okFrC_p {x : V} (h : okFrC x = true) : okCellP (fun x => x.free = true) x := by
 cases x <;> first | trivial | exact h
theorem okFr1_p {x : V} (h : okFr1 x = true) : ok1P (fun x => x.free = true) x := by
 cases x <;> first | trivial | exact h | (exact fun y hy => okFrC_p (List.all_eq_true.1 h y hy))
theorem okFrR_p {x : V} (h : okFrR x = true) : okResP (fun x => x.free = true) x := by
 cases x <;> first | trivial | exact h | (exact fun y hy => okFr1_p (List.all_eq_true.1 h y hy)) | exact okFr1_p (x := .agg _) h
def ownsFr : List (Nat × Entry) → Prop
 | [] => True
 | q :: l => AllFree q.2.rows ∧ ownsFr l
theorem ownsFr_mem {l : List (Nat × Entry)} (h : ownsFr l) : ∀ q E, (q, E) ∈ l → AllFree E.rows := fun q E hq => by
 induction l with
 | nil => cases hq
 | cons p l ih =>
  cases hq with
  | head => exact h.1
  | tail _ hq => exact ih h.2 hq
theorem s_callZ {fop : Operand} {args : Array Operand} {tys : Array TypeId} {f : FuncId} {caps xs cargs : List V} {ins outs : List Entry} {r v : V} {H' : Hp} {ns kb : List Nm}
    (ho : o.op = .call { callee := .value fop, args := args, argTypes := tys }) (hf : (mkT n T H).ev fop = .fn f caps) (hc : callable P f = true) (hrun : Runs P f cargs ins r outs)
    (hx : args.toList.map (mkT n T H).ev ++ caps = xs) (hrel : ArgsR H ns kb xs cargs) (hins : insOf H ns ins) (hfr : ∀ E, E ∈ ins → AllFree E.rows) (hnd : ns.Nodup) (hkn : ∀ n, n ∈ kb → n ∉ ns) (hmine : dropsOk H kb)
    (hr : okFrR r = true) (hrs : ownsFr r.owns) (ho' : ∀ E, E ∈ outs → AllFree E.rows) (hab : (r.owns.all fun q => (lkH H (d, q.1)).isNone) = true)
    (hv : r.mat d = v) (hH : r.owns.map (fun q => ((d, q.1), some q.2)) ++ outsH ns outs (kb.map (fun k => (k, none)) ++ H) = H')
    (hd : o.dst = some d) (hn : Nat.blt d n = true) (hg : wantA ops (mkT n T H) o = some true) (h : RegT P ops (kp K (ns ++ kb) (ns ++ kb)) rest (mkT n ((d, v) :: T) H')) : RegT P ops K (o :: rest) (mkT n T H) :=
  s_call (ns := ns) (ks := kb) (kb := kb) ho hf hc hrun hx hrel hins hfr hnd hkn (fun q E hq => by
    have := List.all_eq_true.1 hab _ hq
    cases hl : lkH H (d, q) with
    | none => rfl
    | some e => simp only [hl] at this; cases this) (.inl ⟨rfl, fun n hn => dropsOk_mem hmine hn, okFrR_p hr, ownsFr_mem hrs, ho'⟩) hv hH hd hn hg h
theorem relV {H : Hp} {ns kb : List Nm} {m : Nm} {e : TypeId} {z off len : Nat} {rows rows' : List (List V)} {s mi : Bool} (hn : lkH H m = some (some ⟨e, z, rows, s, mi⟩)) (hk : m ∈ kb) (hl : off + len ≤ rows.length) (hr : (rows.drop off).take len = rows') (hf : AllFree rows) (hz : ∀ r, r ∈ rows → r.length = z) :
  ArgRel (lkH H) ns kb (.ref m off len) (.lst z rows') := by
 subst hr
 exact .refLst (E := ⟨e, z, rows, s, mi⟩) hn hk hl (by simp; omega) (fun r hr => hz r (List.mem_of_mem_drop (List.mem_of_mem_take hr))) (fun i j => (cellAt rows (off + i) j).getD .undef) (fun i j x hx => by rw [cellAt_view hx]; rfl) (fun i j x hx => by rw [cellAt_view hx]; exact .free (hf _ _ _ (cellAt_view hx))) fun i j x hx => hf _ _ _ (cellAt_view hx)
theorem relBoxL {H : Hp} {ns kb : List Nm} {m : Nm} {e : TypeId} {z : Nat} {xs ys : List V} {s mi : Bool} {r c : Nat} (hn : lkH H m = some (some ⟨e, z, [xs], s, mi⟩)) (hk : m ∈ kb) (h : ArgsR H ns kb xs ys) (hy : ys.all (·.free) = true) (hz : ys.length = z) : ArgRel (lkH H) ns kb (.ptr m r c) (.lptr z [ys] r c) := by
 have one : ∀ i j v, cellAt [ys] i j = some v → i = 0 ∧ ys[j]? = some v := fun i j v hv => by
  unfold cellAt at hv
  cases i with
  | zero => exact ⟨rfl, by simpa using hv⟩
  | succ i => simp at hv
 have hx : ∀ j v, ys[j]? = some v → ∃ u, xs[j]? = some u ∧ ArgRel (lkH H) ns kb u v := fun j v hv => by
  have hlt : j < xs.length := by rw [h.len]; exact (List.getElem?_eq_some_iff.1 hv).1
  exact ⟨_, List.getElem?_eq_getElem hlt, h.get j _ v (List.getElem?_eq_getElem hlt) hv⟩
 refine .ptrLst (E := ⟨e, z, [xs], s, mi⟩) hn hk (fun r hr => by simp at hr; subst hr; exact hz) (fun _ j => (xs[j]?).getD .undef) (fun i j v hv => ?_) (fun i j v hv => ?_) (fun i j v hv => ?_)
 ·obtain ⟨rfl, hv⟩ := one i j v hv
  obtain ⟨u, hu, -⟩ := hx j v hv
  simp [cellAt, hu]
 ·obtain ⟨rfl, hv⟩ := one i j v hv
  obtain ⟨u, hu, hr⟩ := hx j v hv
  rw [hu]; exact hr
 ·obtain ⟨rfl, hv⟩ := one i j v hv
  exact List.all_eq_true.1 hy v (List.mem_of_getElem? hv)
theorem relFnL {hp : Heap} {ns kb : List Nm} {f : FuncId} {H : Hp} (hh : hp = lkH H) {xs ys : List V} (h : ArgsR H ns kb xs ys) : ArgRel hp ns kb (.fn f xs) (.fn f ys) := by
 subst hh; exact .fn h.len h.get
end
end Go.Abs
