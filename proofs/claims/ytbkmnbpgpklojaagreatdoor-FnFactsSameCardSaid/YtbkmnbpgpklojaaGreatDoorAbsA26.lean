/- The abstract layer, part A26. -/
import Derived.Test.YtbkmnbpgpklojaaGreatDoorAbsA25
namespace Go.Abs
open Go
def intV (n : Int) : List V := [.sc (.int .i64 n)]
def byteV (n : Int) : List V := [.sc (.int .u8 n)]
def strV (s : ByteArray) : List V := [.sc (.string s)]
theorem intV_free (s : Int) : (intV s).all (·.free) = true := rfl
theorem intV_len (s : Int) : (intV s).length = 1 := rfl
theorem strV_free (s : ByteArray) : (strV s).all (·.free) = true := rfl
theorem strV_sc (s : ByteArray) : (strV s).all isScN = true := rfl
theorem strV_len (s : ByteArray) : (strV s).length = 1 := rfl
def fuel0 : Nat := 4611686018427387904
def sidx (s : ByteArray) (i : Int) : Option Int := if h : 0 ≤ i ∧ i.toNat < s.size then some ((s[i.toNat]'h.2).toNat : Int) else none
theorem rowsZ_one {row : List V} {z : Nat} (h : row.length = z) : ∀ r, r ∈ [row] → r.length = z := fun r hr => by
 rw [List.mem_singleton] at hr; subst hr; exact h
theorem memNil {α : Type} {p : α → Prop} : ∀ y, y ∈ ([] : List α) → p y := fun y hy => by cases hy
theorem memCons {α : Type} {p : α → Prop} {x : α} {l : List α} (h : p x) (t : ∀ y, y ∈ l → p y) : ∀ y, y ∈ x :: l → p y := fun y hy => by
 cases hy with
 | head => exact h
 | tail _ hy => exact t y hy
section
variable {P : Program} {n : Nat} {T : Tm} {H : Hp} {o : Oper} {ops : Array Oper} {K : Lg → St → Prop} {rest : List Oper} {d : Nat} {α : Type} {f : α → List V} {l m : List α}
theorem s_lenL {t : TypeId} {x : Operand} {z : Nat} {e : TypeId × Nat × Nat} (ho : o.op = .call { callee := .builtin .len, args := #[x], argTypes := #[t] }) (ht : slTy P t = some e) (hx : (mkT n T H).ev x = .lst z (l.map f))
  (hd : o.dst = some d) (hn : Nat.blt d n = true) (hg : wantA ops (mkT n T H) o = some true) (h : RegT P ops (kp K [] []) rest (mkT n ((d, .sc (.int .i64 (l.length : Int))) :: T) H)) : RegT P ops K (o :: rest) (mkT n T H) :=
 s_len ho ht (by rw [hx]; exact congrArg some (List.length_map ..)) hd hn hg h
theorem s_appL {t e : TypeId} {z by_ len : Nat} {nm : Nm} {s x : Operand} {zs : List Value} (ho : o.op = .call { callee := .builtin .append, args := #[s, x], argTypes := #[t, t] })
  (hd : o.dst = some d) (hnm : lkH H (d, 0) = none) (ht : slTy P t = some (e, z, by_)) (hz : zeroC P e = some zs) (hzl : zs.length = z) (hz0 : Nat.blt 0 z = true) (hb : Nat.ble by_ 128 = true) (hs : (mkT n T H).ev s = .ref nm 0 len)
  (hE : lkH H nm = some (some ⟨e, z, l.map f, false, true⟩)) (hle : len = l.length) (hx : Src (mkT n T H) ((mkT n T H).ev x) z (m.map f)) (hlen : (l ++ m).length ≤ 1099511627776) (hn : Nat.blt d n = true) (hg : wantA ops (mkT n T H) o = some true)
  (h : RegT P ops (kp K (nm :: srcN ((mkT n T H).ev x)) [nm]) rest (mkT n ((d, .ref (d, 0) 0 (l ++ m).length) :: T) (((d, 0), some ⟨e, z, (l ++ m).map f, false, true⟩) :: (nm, none) :: H))) : RegT P ops K (o :: rest) (mkT n T H) :=
 s_append (len := (l ++ m).length) ho hd hnm ht hz hzl hz0 hb hs hE (by rw [List.length_map, hle]) hx (by simp [hle]) hlen hn hg (by rw [← List.map_append]; exact h)
theorem src_refL {st : St} {nm : Nm} {e : TypeId} {z len : Nat} {s mi : Bool} (h : st.hp nm = some (some ⟨e, z, l.map f, s, mi⟩)) (hle : len = l.length) : Src st (.ref nm 0 len) z (l.map f) := src_ref h rfl (by simp [hle])
theorem src_refV {st : St} {nm : Nm} {e : TypeId} {z o k : Nat} {s mi : Bool} (h : st.hp nm = some (some ⟨e, z, l.map f, s, mi⟩)) (hk : o + k ≤ l.length) : Src st (.ref nm o k) z (((l.drop o).take k).map f) :=
 .inr (.inr ⟨nm, o, k, _, rfl, h, rfl, by simpa using hk, by simp [List.map_drop, List.map_take]⟩)
theorem s_makeL {t e : TypeId} {i : Int} {z by_ : Nat} {x y : Operand} {k k' : IntKind} {zs : List Value} {a : α} (ho : o.op = .makeSlice t x y) (hd : o.dst = some d) (hnm : lkH H (d, 0) = none) (hx : (mkT n T H).ev x = .sc (.int k i)) (hy : (mkT n T H).ev y = .sc (.int k' i))
  (ht : slTy P t = some (e, z, by_)) (hz : zeroC P e = some zs) (hzl : zs.length = z) (h1 : zs.all (·.oneCell') = true) (hz0 : Nat.blt 0 z = true) (hb : Nat.ble by_ 128 = true) (hi0 : 0 ≤ i) (hnb : i.toNat ≤ 1099511627776) (hr : RowZ zs (f a))
  (hn : Nat.blt d n = true) (hg : wantA ops (mkT n T H) o = some true) (h : RegT P ops (kp K [] []) rest (mkT n ((d, .ref (d, 0) 0 (List.replicate i.toNat a).length) :: T) (((d, 0), some ⟨e, z, (List.replicate i.toNat a).map f, false, true⟩) :: H))) : RegT P ops K (o :: rest) (mkT n T H) := by
 refine s_makeSlice (m := i.toNat) ho hd hnm (by rw [hx, Int.toNat_of_nonneg hi0]) (by rw [hy, Int.toNat_of_nonneg hi0]) ht hz hzl h1 hz0 hb hnb hr (rows := (List.replicate i.toNat a).map f) (by rw [List.map_replicate]) hn hg ?_
 rw [List.length_replicate] at h; exact h
theorem lendL {ns kb : List Nm} {nm : Nm} {e : TypeId} {z len : Nat} {s mi : Bool} (hn : lkH H nm = some (some ⟨e, z, l.map f, s, mi⟩)) (hk : nm ∈ kb) (hle : len = l.length) (hf : ∀ x, (f x).all (·.free) = true) (hz : ∀ x, (f x).length = z) : ArgRel (lkH H) ns kb (.ref nm 0 len) (.lst z (l.map f)) :=
 lend hn hk (by rw [List.length_map, hle]) (allFree_map hf) (rowsZ_map hz)
theorem lendV {ns kb : List Nm} {nm : Nm} {e : TypeId} {z o k : Nat} {s mi : Bool} (hn : lkH H nm = some (some ⟨e, z, l.map f, s, mi⟩)) (hk : nm ∈ kb) (hl : o + k ≤ l.length) (hf : ∀ x, (f x).all (·.free) = true) (hz : ∀ x, (f x).length = z) : ArgRel (lkH H) ns kb (.ref nm o k) (.lst z (((l.drop o).take k).map f)) :=
 relV hn hk (by simpa using hl) (by rw [List.map_take, List.map_drop]) (allFree_map hf) (rowsZ_map hz)
theorem cvFrL {src : Nm → Option Nm} {D : List Nm} {N : Nm → Option Nat} {nm : Nm} {e : TypeId} {z len : Nat} {s mi : Bool} (hn : lkH H nm = some (some ⟨e, z, l.map f, s, mi⟩)) (hk : nm ∈ D) (hle : len = l.length) (hf : ∀ x, (f x).all (·.free) = true) (hz : ∀ x, (f x).length = z) : Cv (lkH H) src D N (.ref nm 0 len) (.lst z (l.map f)) :=
 cvFreeze hn hk (by rw [List.length_map, hle]) (allFree_map hf) (rowsZ_map hz)
theorem cvFrV {src : Nm → Option Nm} {D : List Nm} {N : Nm → Option Nat} {nm : Nm} {e : TypeId} {z o k : Nat} {s mi : Bool} (hn : lkH H nm = some (some ⟨e, z, l.map f, s, mi⟩)) (hk : nm ∈ D) (hl : o + k ≤ l.length) (hf : ∀ x, (f x).all (·.free) = true) (hz : ∀ x, (f x).length = z) : Cv (lkH H) src D N (.ref nm o k) (.lst z (((l.drop o).take k).map f)) :=
 cvFreezeV hn hk (by simpa using hl) (by rw [List.map_take, List.map_drop]) (allFree_map hf) (rowsZ_map hz)
theorem s_idxS {t : TypeId} {x y : Operand} {s : ByteArray} {k : IntKind} {i v : Int} (ho : o.op = .index t x y) (hx : (mkT n T H).ev x = .sc (.string s)) (hy : (mkT n T H).ev y = .sc (.int k i)) (ht : isStr P t = true) (hi : sidx s i = some v)
  (hd : o.dst = some d) (hn : Nat.blt d n = true) (hg : wantA ops (mkT n T H) o = some true) (h : RegT P ops (kp K [] []) rest (mkT n ((d, .sc (.int .u8 v)) :: T) H)) : RegT P ops K (o :: rest) (mkT n T H) := by
 unfold sidx at hi
 split at hi
 ·rename_i q
  cases hi
  exact s_of (st_idxS (i := i.toNat) ho hx (by rw [hy, Int.toNat_of_nonneg q.1]) ht q.2) rfl hd hn hg h
 ·cases hi
end
section
variable {P : Program} {n : Nat} {T : Tm} {H : Hp} {rs : List ResultVar} {r v' : V} {outs : List Entry}
theorem endY {xs : List V} (l : List Item) (D : List Nm) (hx : ResVs P (mkT n T H) rs xs) (hl : itemsX H (itSrc l) D (itN l) l) (hD : dropsOk H D) (ha : itApart l = true) (hb : itBase H l = true)
  (hh : r.owns.map (fun q => ((2000, q.1), some q.2)) ++ outsL 0 outs = itH l) (hm : r.mat 2000 = v') (hv : Cv (lkH H) (itSrc l) D (itN l) (resOne xs) v') : EndR P rs r outs (mkT n T H) :=
 endX l D hx hl hD ha hb hh (by rw [hm]; exact hv)
end
theorem tri_ownM {α : Type} {P : Program} {c : Code} {Q : Exit → St → Prop} {n : Nat} {T : Tm} {H : Hp} (nm : Nm) {e : TypeId} {z : Nat} {f : α → List V} {l : List α} {s mi : Bool} (hE : lkH H nm = some (some ⟨e, z, l.map f, s, mi⟩)) (h : l.length ≤ 9223372036854775807 → Tri P c Q (mkT n T H)) : Tri P c Q (mkT n T H) := fun w0 M0 F0 a w φ F hs hd => by
 obtain ⟨loc, h1, h2, -⟩ := hs.obj nm _ hE
 refine h ?_ w0 M0 F0 a w φ F hs hd
 cases loc with
 | nil => have : l.map f = [] := h2; have := congrArg List.length this; simp at this; subst this; simp
 | «at» b cap =>
  obtain ⟨arr, fz, q1, qs, q2, q3, q4, q5, q6, q7⟩ := h2
  simp only [List.length_map, maxLen] at q4 q5; omega
end Go.Abs
