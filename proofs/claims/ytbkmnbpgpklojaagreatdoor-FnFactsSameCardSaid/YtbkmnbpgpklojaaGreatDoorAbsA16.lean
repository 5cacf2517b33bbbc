/- The abstract layer, part A16. -/
import Derived.Test.YtbkmnbpgpklojaaGreatDoorAbsA15
namespace Go.Abs
open Go
abbrev Item := Nm × Entry × Option Nm
def itH (l : List Item) : Hp := l.map fun p => (p.1, some p.2.1)
def itSrc : List Item → Nm → Option Nm
 | [], _ => none
 | (k, _, s) :: l, m => match nmEq m k with | true => s | false => itSrc l m
def itN : List Item → Nm → Option Nat
 | [], _ => none
 | (k, E, s) :: l, m => match nmEq m k with | true => (match s with | none => some E.z | some _ => none) | false => itN l m
def dropsOk (H : Hp) : List Nm → Prop
 | [] => True
 | k :: D => (∃ E, lkH H k = some (some E) ∧ E.mine = true) ∧ dropsOk H D
def itApart : List Item → Bool
 | [] => true
 | (k, _, s) :: l => l.all (fun q => !nmEq q.1 k && (match s, q.2.2 with | some a, some b => !nmEq a b | _, _ => true)) && itApart l
def itBase (H : Hp) (l : List Item) : Bool := H.all fun p => p.1.1 != 1000 || (match itSrc l p.1 with | some m => nmEq m p.1 | none => false)
theorem itSrc_of {l : List Item} {k m : Nm} (h : itSrc l k = some m) : ∃ E, (k, E, some m) ∈ l := by
 induction l with
 | nil => cases h
 | cons p l ih =>
  obtain ⟨k', E, s⟩ := p
  simp only [itSrc] at h
  cases hb : nmEq k k' with
  | true => rw [hb] at h; simp only at h; subst h; rw [nmEq_iff.1 hb]; exact ⟨E, .head _⟩
  | false => rw [hb] at h; obtain ⟨E', h'⟩ := ih h; exact ⟨E', .tail _ h'⟩
theorem itBoth {l : List Item} {k m : Nm} (h : itSrc l k = some m) : itN l k = none := by
 induction l with
 | nil => rfl
 | cons p l ih =>
  obtain ⟨k', E, s⟩ := p
  simp only [itSrc] at h
  simp only [itN]
  cases hb : nmEq k k' with
  | true => rw [hb] at h; simp only at h; subst h; rfl
  | false => rw [hb] at h; exact ih h
theorem itH_some {l : List Item} {k : Nm} {E : Entry} (h : lkH (itH l) k = some (some E)) : (itSrc l k = none ∧ itN l k = some E.z ∧ (k, E, none) ∈ l) ∨ ∃ m, itSrc l k = some m ∧ (k, E, some m) ∈ l := by
 induction l with
 | nil => cases h
 | cons p l ih =>
  obtain ⟨k', E', s⟩ := p
  simp only [itH, List.map_cons, lkH] at h
  simp only [itSrc, itN]
  cases hb : nmEq k k' with
  | true =>
   rw [hb] at h
   simp only [Option.some.injEq] at h
   subst h
   rw [nmEq_iff.1 hb]
   cases s with
   | none => exact .inl ⟨rfl, rfl, .head _⟩
   | some m => exact .inr ⟨m, rfl, .head _⟩
  | false =>
   rw [hb] at h
   rcases ih h with ⟨h1, h2, h3⟩ | ⟨m, h1, h2⟩
   ·exact .inl ⟨h1, h2, .tail _ h3⟩
   ·exact .inr ⟨m, h1, .tail _ h2⟩
theorem itH_none {l : List Item} {k : Nm} (h : lkH (itH l) k = none) : itSrc l k = none ∧ itN l k = none := by
 induction l with
 | nil => exact ⟨rfl, rfl⟩
 | cons p l ih =>
  obtain ⟨k', E', s⟩ := p
  simp only [itH, List.map_cons, lkH] at h
  simp only [itSrc, itN]
  cases hb : nmEq k k' with
  | true => rw [hb] at h; cases h
  | false => rw [hb] at h; exact ih h
theorem dropsOk_mem {H : Hp} {D : List Nm} (h : dropsOk H D) {k : Nm} (hk : k ∈ D) : ∃ E, lkH H k = some (some E) ∧ E.mine = true := by
 induction D with
 | nil => cases hk
 | cons q D ih =>
  cases hk with
  | head => exact h.1
  | tail _ hk => exact ih h.2 hk
theorem itApart_inj {l : List Item} (h : itApart l = true) {k k' m : Nm} (h1 : itSrc l k = some m) (h2 : itSrc l k' = some m) : k = k' := by
 induction l with
 | nil => cases h1
 | cons p l ih =>
  obtain ⟨k0, E0, s0⟩ := p
  simp only [itApart, Bool.and_eq_true, List.all_eq_true] at h
  simp only [itSrc] at h1 h2
  have key : ∀ {q : Nm}, s0 = some m → itSrc l q = some m → False := fun {q} hs hq => by
   obtain ⟨E, hmem⟩ := itSrc_of hq
   have := (h.1 _ hmem).2
   rw [hs] at this
   simp only [Bool.not_eq_true'] at this
   have h3 : nmEq m m = true := nmEq_iff.2 rfl
   rw [h3] at this; cases this
  cases hb : nmEq k k0 with
  | true =>
   rw [hb] at h1
   cases hb' : nmEq k' k0 with
   | true => rw [nmEq_iff.1 hb, nmEq_iff.1 hb']
   | false => rw [hb'] at h2; exact (key h1 h2).elim
  | false =>
   rw [hb] at h1
   cases hb' : nmEq k' k0 with
   | true => rw [hb'] at h2; exact (key h2 h1).elim
   | false => rw [hb'] at h2; exact ih h.2 h1 h2
theorem lkH_mem {H : Hp} {k : Nm} (h : lkH H k ≠ none) : ∃ e, (k, e) ∈ H := by
 induction H with
 | nil => exact absurd rfl h
 | cons p H ih =>
  obtain ⟨k', e⟩ := p
  simp only [lkH] at h
  cases hb : nmEq k k' with
  | true => rw [nmEq_iff.1 hb]; exact ⟨e, .head _⟩
  | false => rw [hb] at h; obtain ⟨e', h'⟩ := ih h; exact ⟨e', .tail _ h'⟩
def cvT (H : Hp) (l : List Item) (D : List Nm) (T : Tm) : Tm → Prop
 | [] => True
 | (t, v) :: T' => Cv (lkH H) (itSrc l) D (itN l) (lkT T t) v ∧ cvT H l D T T'
theorem cvT_all {H : Hp} {l : List Item} {D : List Nm} {T T' : Tm} (h : cvT H l D T T') (t : Nat) : Cv (lkH H) (itSrc l) D (itN l) (lkT T t) (lkT T' t) := by
 induction T' with
 | nil => exact .undef
 | cons p T' ih =>
  obtain ⟨t', v⟩ := p
  rw [lkT_cons]
  split
  ·rename_i q; subst q; exact h.1
  ·exact ih h.2
def outsL : Nat → List Entry → Hp
 | _, [] => []
 | i, E :: l => ((1000, i), some E) :: outsL (i + 1) l
theorem outsL_lk (outs : List Entry) : ∀ (i : Nat) (m : Nm), lkH (outsL i outs) m = if m.1 = 1000 ∧ i ≤ m.2 then (outs[m.2 - i]?).map some else none := by
 induction outs with
 | nil => intro i m; simp [outsL, lkH]
 | cons E outs ih =>
  intro i m
  obtain ⟨m1, m2⟩ := m
  rw [outsL, lkH_cons, ih]
  simp only [Prod.mk.injEq]
  by_cases h1 : m1 = 1000
  ·subst h1
   by_cases h2 : m2 = i
   ·subst h2; simp
   ·by_cases h3 : i ≤ m2
    ·have e : m2 - i = (m2 - (i + 1)) + 1 := by omega
     simp [h2, h3, show i + 1 ≤ m2 by omega, e]
    ·simp [h2, h3, show ¬ i + 1 ≤ m2 by omega]
  ·simp [h1]
theorem resHp_eq (outs : List Entry) (r : V) : resHp outs r = lkH (r.owns.map (fun q => ((2000, q.1), some q.2)) ++ outsL 0 outs) := by
 unfold resHp
 generalize r.owns = l
 induction l with
 | nil =>
  funext m
  simp only [addOwns, List.foldr_nil, List.map_nil, List.nil_append, outsL_lk, argHp]
  by_cases h : m.1 = 1000 <;> simp [h]
 | cons q l ih =>
  simp only [addOwns, List.foldr_cons, List.map_cons, List.cons_append] at ih ⊢
  rw [ih, upd_lkH]
def argT : Nat → List V → Tm
 | _, [] => []
 | i, x :: l => (i, x) :: argT (i + 1) l
theorem argT_lk (args : List V) : ∀ (i t : Nat), lkT (argT i args) t = if i ≤ t then args.getD (t - i) .undef else .undef := by
 induction args with
 | nil => intro i t; simp [argT, lkT]
 | cons x args ih =>
  intro i t
  rw [argT, lkT_cons, ih]
  by_cases h2 : t = i
  ·subst h2; simp
  ·by_cases h3 : i ≤ t
   ·have e : t - i = (t - (i + 1)) + 1 := by omega
    simp [h2, h3, show i + 1 ≤ t by omega, e]
   ·simp [h2, h3, show ¬ i + 1 ≤ t by omega]
theorem start_eq (n : Nat) (args : List V) (ins : List Entry) : (⟨n, fun t => args.getD t .undef, argHp ins⟩ : St) = mkT n (argT 0 args) (outsL 0 ins) := by
 unfold mkT
 have h1 : (fun t => args.getD t .undef) = lkT (argT 0 args) := by funext t; rw [argT_lk]; simp
 have h2 : argHp ins = lkH (outsL 0 ins) := by funext m; rw [outsL_lk]; unfold argHp; by_cases h : m.1 = 1000 <;> simp [h]
 rw [h1, h2]
theorem allFree_map {α : Type} {f : α → List V} {l : List α} (h : ∀ x, (f x).all (·.free) = true) : AllFree (l.map f) := fun i j x hx => by
 unfold cellAt at hx
 rw [List.getElem?_map] at hx
 cases hl : l[i]? with
 | none => simp [hl] at hx
 | some a =>
  simp only [hl, Option.map_some, Option.bind_some] at hx
  exact List.all_eq_true.1 (h a) x (List.mem_of_getElem? hx)
theorem rowsZ_map {α : Type} {f : α → List V} {l : List α} {z : Nat} (h : ∀ x, (f x).length = z) : ∀ r, r ∈ l.map f → r.length = z := fun r hr => by
 obtain ⟨a, -, rfl⟩ := List.mem_map.1 hr; exact h a
theorem allFree_one {row : List V} (h : row.all (·.free) = true) : AllFree [row] := fun i j x hx => by
 unfold cellAt at hx
 cases i with
 | zero => exact List.all_eq_true.1 h x (List.mem_of_getElem? (by simpa using hx))
 | succ i => simp at hx
end Go.Abs
