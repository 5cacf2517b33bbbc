/- The pure law of FnSets: its pure function answers true. -/
import Derived.Test.YtaggdjciembpdaaFnsFnSets
namespace Go.Abs.M
open Go Go.Abs
theorem idx_nat {α : Type} {l : List α} {n : Nat} : idx l (n : Int) = l[n]? := by simp [idx]

theorem idx_zero {α : Type} {l : List α} : idx l 0 = l[0]? := by simp [idx]

def zrec : Rec := ⟨⟨#[]⟩, 0, 0, 0, ⟨#[]⟩, ⟨#[]⟩⟩

def first (p : Rec → Bool) (l : List Rec) : Rec := (l.find? p).getD zrec

def setOf (l : List Rec) (nm : ByteArray) (k : Int) : List Rec := l.filter fun r => decide (r.name = nm) && decide (r.ty = k)

theorem setOf_len (l : List Rec) (nm : ByteArray) (k : Int) : (setOf l nm k).length ≤ l.length := List.length_filter_le ..

theorem i_SetOf_l0_eq (nm : ByteArray) (k : Int) : ∀ (l out : List Rec) (i : Nat), out.length + l.length ≤ 1099511627776 → i_SetOf_l0 nm k l out i = some (out ++ setOf l nm k)
  | [], out, i, _ => by simp [i_SetOf_l0, setOf]
  | r :: l, out, i, h => by
    simp only [List.length_cons] at h
    have h1 := i_SetOf_l0_eq nm k l (out ++ [r]) (i + 1) (by simp; omega)
    have h2 := i_SetOf_l0_eq nm k l out (i + 1) (by omega)
    rw [i_SetOf_l0]
    by_cases c : r.name = nm <;> by_cases c' : r.ty = k <;> simp [i_SetOf_j1, c, c', h2, setOf] <;> first
      | (rw [grd_pos (by omega), h1]; simp [setOf, c, c'])

theorem s_SetOf_l0_eq (nm : ByteArray) (k : Int) : ∀ (l out : List Rec) (i : Nat), out.length + l.length ≤ 1099511627776 → s_SetOf_l0 nm k l out i = some (out ++ setOf l nm k)
  | [], out, i, _ => by simp [s_SetOf_l0, setOf]
  | r :: l, out, i, h => by
    simp only [List.length_cons] at h
    have h1 := s_SetOf_l0_eq nm k l (out ++ [r]) (i + 1) (by simp; omega)
    have h2 := s_SetOf_l0_eq nm k l out (i + 1) (by omega)
    rw [s_SetOf_l0]
    by_cases c : r.name = nm <;> by_cases c' : r.ty = k <;> simp [s_SetOf_j1, c, c', h2, setOf] <;> first
      | (rw [grd_pos (by omega), h1]; simp [setOf, c, c'])

def Rec.sm (r : Rec) : Prop := r.name.size ≤ 1048576 ∧ r.host.size ≤ 1048576 ∧ r.text.size ≤ 1048576

def smL (l : List Rec) : Prop := l.length ≤ 1048576 ∧ ∀ r, r ∈ l → r.sm

def Quest.sm (q : Quest) : Prop := q.name.size ≤ 1048576

theorem i_SetOf_eq {l : List Rec} {nm : ByteArray} {k : Int} (h : smL l) : i_SetOf l nm k = some (setOf l nm k) := by
  unfold i_SetOf; rw [i_SetOf_l0_eq _ _ _ _ _ (by have := h.1; simp; omega)]; rfl

theorem s_SetOf_eq {l : List Rec} {nm : ByteArray} {k : Int} (h : smL l) : s_SetOf l nm k = some (setOf l nm k) := by
  unfold s_SetOf; rw [s_SetOf_l0_eq _ _ _ _ _ (by have := h.1; simp; omega)]; rfl

theorem set_app {α : Type} (pre t : List α) (x y : α) : (pre ++ x :: t).set pre.length y = pre ++ y :: t := by simp

theorem get_app {α : Type} (pre t : List α) (x : α) : (pre ++ x :: t)[pre.length]? = some x := by simp

theorem rec_ext {a b : Rec} : (decide (a.name = b.name) && (decide (a.ty = b.ty) && (decide (a.ttl = b.ttl) && (decide (a.n = b.n) && (decide (a.host = b.host) && (decide (a.text = b.text) && true)))))) = decide (a = b) := by
  cases a; cases b
  simp [Bool.and_assoc]

theorem slices_Clone_Record_eq {l : List Rec} (h : l.length ≤ 1099511627776) : slices_Clone_Record l = some l := by
  unfold slices_Clone_Record
  rw [List.nil_append, grd_pos h]

def setTtl (k : Int) (r : Rec) : Rec := ⟨r.name, r.ty, k, r.n, r.host, r.text⟩

theorem i_WithTtl_l0_eq (k : Int) : ∀ (t pre : List Rec), i_WithTtl_l0 k t (pre ++ t) pre.length = some (pre ++ t.map (setTtl k))
  | [], pre => by simp [i_WithTtl_l0]
  | r :: t, pre => by
    rw [i_WithTtl_l0, idx_nat, get_app, bnd1_mk, Int.toNat_natCast, set_app]
    have h := i_WithTtl_l0_eq k t (pre ++ [setTtl k r])
    simp only [List.append_assoc, List.singleton_append, List.length_append, List.length_singleton] at h
    unfold setTtl at h ⊢
    rw [h]
    simp

theorem i_WithTtl_eq {l : List Rec} {k : Int} (h : l.length ≤ 1099511627776) : i_WithTtl l k = some (l.map (setTtl k)) := by
  unfold i_WithTtl
  rw [slices_Clone_Record_eq h, bnd1_mk]
  exact i_WithTtl_l0_eq k l []

theorem s_l7Copy_eq {l : List Rec} (h : l.length ≤ 1099511627776) : s_l7Copy l = some l := by
  unfold s_l7Copy; rw [List.nil_append, grd_pos h]

theorem fuel_lt {k : Nat} (h : k ≤ 1048576) : k < fuel0 := by unfold fuel0; omega

def Cur.inv (c : Cur) : Prop := 0 ≤ c.i ∧ c.b.length ≤ 1048576

theorem iand_255 (x : Int) : 0 ≤ iand .i64 x 255 ∧ iand .i64 x 255 ≤ 255 := by
  unfold iand
  have h : (BitVec.ofInt (IntKind.i64).bits x &&& BitVec.ofInt (IntKind.i64).bits 255).toNat ≤ 255 := by
    rw [BitVec.toNat_and]; exact Nat.le_trans Nat.and_le_right (by decide)
  generalize (BitVec.ofInt (IntKind.i64).bits x &&& BitVec.ofInt (IntKind.i64).bits 255).toNat = n at h
  rw [wrap_id (by omega)]; omega

theorem idx_ok {α : Type} {l : List α} {i : Int} (h0 : 0 ≤ i) (h1 : i < l.length) : ∃ x, idx l i = some x ∧ x ∈ l := by
  have h2 : i.toNat < l.length := by omega
  exact ⟨l[i.toNat], by unfold idx; rw [if_pos h0, List.getElem?_eq_getElem h2], List.getElem_mem h2⟩

theorem s_l1Byte_p {c : Cur} (h : c.inv) : ∃ x d, s_l1Byte c = some (x, d) ∧ d.inv ∧ 0 ≤ x ∧ x ≤ 255 := by
  obtain ⟨h1, h2⟩ := h
  unfold s_l1Byte
  by_cases p : c.i < (c.b.length : Int)
  · obtain ⟨y, hy, -⟩ := idx_ok h1 p
    rw [decide_eq_true p, cond_true, hy, bnd1_mk]
    exact ⟨_, _, rfl, ⟨by show 0 ≤ IntKind.i64.wrap (c.i + 1); rw [wrap_id (by omega)]; omega, h2⟩, (iand_255 _).1, (iand_255 _).2⟩
  · rw [decide_eq_false p, cond_false]
    exact ⟨_, _, rfl, ⟨h1, h2⟩, (iand_255 _).1, (iand_255 _).2⟩

theorem s_l1Below_p {c : Cur} {n : Int} (h : c.inv) (h1 : 0 < n) (h2 : n ≤ 256) : ∃ x d, s_l1Below c n = some (x, d) ∧ d.inv ∧ 0 ≤ x ∧ x < n := by
  obtain ⟨x, d, e, hd, hx, hy⟩ := s_l1Byte_p h
  have c1 : ¬ (n ≤ 0) := by omega
  unfold s_l1Below
  rw [decide_eq_false c1, cond_false, decide_eq_true h2, cond_true, e, bnd2_mk, grd_pos (by omega)]
  exact ⟨_, _, rfl, hd, Int.tmod_nonneg n hx, Int.tmod_lt_of_pos x h1⟩

theorem s_l1Once_p {c : Cur} {n : Int} (h : c.inv) (h1 : 0 < n) (h2 : n ≤ 256) : ∃ x d, s_l1Once c n = some (x, d) ∧ d.inv := by
  obtain ⟨x, d, e, hd, -, -⟩ := s_l1Below_p h h1 h2
  unfold s_l1Once
  rw [e, bnd2_mk]
  exact ⟨_, _, rfl, hd⟩

theorem s_l1Str_p {c : Cur} {l : List ByteArray} (h : c.inv) (h1 : 0 < l.length) (h2 : l.length ≤ 256) : ∃ x d, s_l1Str c l = some (x, d) ∧ d.inv ∧ x ∈ l := by
  obtain ⟨x, d, e, hd, hx, hy⟩ := s_l1Below_p (n := (l.length : Int)) h (by omega) (by omega)
  obtain ⟨y, e2, hm⟩ := idx_ok hx hy
  unfold s_l1Str
  rw [e, bnd2_mk, e2, bnd1_mk]
  exact ⟨_, _, rfl, hd, hm⟩

theorem s_l1Int_p {c : Cur} {l : List Int} (h : c.inv) (h1 : 0 < l.length) (h2 : l.length ≤ 256) : ∃ x d, s_l1Int c l = some (x, d) ∧ d.inv ∧ x ∈ l := by
  obtain ⟨x, d, e, hd, hx, hy⟩ := s_l1Below_p (n := (l.length : Int)) h (by omega) (by omega)
  obtain ⟨y, e2, hm⟩ := idx_ok hx hy
  unfold s_l1Int
  rw [e, bnd2_mk, e2, bnd1_mk]
  exact ⟨_, _, rfl, hd, hm⟩

theorem small_of {l : List ByteArray} {x : ByteArray} (h : (l.all fun y => Nat.ble y.size 1048576) = true) (hx : x ∈ l) : x.size ≤ 1048576 := Nat.le_of_ble_eq_true (List.all_eq_true.1 h x hx)

theorem s_l3Name_p {c : Cur} (h : c.inv) : ∃ x d, s_l3Name c = some (x, d) ∧ d.inv ∧ x.size ≤ 1048576 := by
  unfold s_l3Name
  refine (fun {l : List ByteArray} (h1 : 0 < l.length) (h2 : l.length ≤ 256) (h3 : (l.all fun y => Nat.ble y.size 1048576) = true) => ?_ : ∀ {l : List ByteArray}, 0 < l.length → l.length ≤ 256 → (l.all fun y => Nat.ble y.size 1048576) = true → ∃ x d, bnd2 (s_l1Str c l) (fun x1 x2 => some (x1, x2)) = some (x, d) ∧ d.inv ∧ x.size ≤ 1048576) (by decide) (by decide) rfl
  obtain ⟨x, d, e, hd, hm⟩ := s_l1Str_p h h1 h2
  rw [e, bnd2_mk]
  exact ⟨_, _, rfl, hd, small_of h3 hm⟩

theorem s_l5Type_p {c : Cur} (h : c.inv) : ∃ x d, s_l5Type c = some (x, d) ∧ d.inv ∧ x ∈ [1, 1, 1, 2, 2, 5, 6, 16] := by
  obtain ⟨x, d, e, hd, hm⟩ := s_l1Int_p (l := [1, 1, 1, 2, 2, 5, 6, 16]) h (by decide) (by decide)
  unfold s_l5Type
  rw [e, bnd2_mk]
  exact ⟨_, _, rfl, hd, hm⟩

theorem size_nil : (⟨#[]⟩ : ByteArray).size ≤ 1048576 := by decide

theorem s_l5Draw_j0_p {x : ByteArray} {k t : Int} {c : Cur} {b : Bool} (h : c.inv) (hx : x.size ≤ 1048576) : ∃ r d, s_l5Draw_j0 x k t c b = some (r, d) ∧ d.inv ∧ r.sm := by
  unfold s_l5Draw_j0
  obtain ⟨y, d, e, hd, hy⟩ := s_l3Name_p h
  obtain ⟨z, d2, e2, hd2, -⟩ := s_l1Int_p (l := [0, 5, 60]) hd (by decide) (by decide)
  obtain ⟨w, d3, e3, hd3, hw⟩ := s_l1Str_p (l := [(⟨#[]⟩ : ByteArray), (⟨#[104, 105]⟩ : ByteArray), (⟨#[116, 119, 101, 108, 118, 101, 98, 121, 116, 101, 115, 33]⟩ : ByteArray)]) h (by decide) (by decide)
  have hw2 := small_of rfl hw
  cases b with
  | true => rw [cond_true, e, bnd2_mk]; exact ⟨_, _, rfl, hd, hx, hy, size_nil⟩
  | false =>
    rw [cond_false]
    cases decide (k = 6) with
    | true => rw [cond_true, e, bnd2_mk, e2, bnd2_mk]; exact ⟨_, _, rfl, hd2, hx, hy, size_nil⟩
    | false =>
      rw [cond_false]
      cases decide (k = 16) with
      | true => rw [cond_true, e3, bnd2_mk]; exact ⟨_, _, rfl, hd3, hx, size_nil, hw2⟩
      | false => exact ⟨_, _, rfl, h, hx, size_nil, size_nil⟩

theorem s_l5Draw_p {c : Cur} (h : c.inv) : ∃ r d, s_l5Draw c = some (r, d) ∧ d.inv ∧ r.sm := by
  unfold s_l5Draw
  obtain ⟨x, d1, e1, h1, hx⟩ := s_l3Name_p h
  obtain ⟨k, d2, e2, h2, -⟩ := s_l5Type_p h1
  obtain ⟨t, d3, e3, h3, -⟩ := s_l1Int_p (l := [0, 1, 5, 60, 300, 100000]) h2 (by decide) (by decide)
  obtain ⟨n, d4, e4, h4, hn, hn2⟩ := s_l1Below_p (n := 9) h3 (by omega) (by omega)
  rw [e1, bnd2_mk, e2, bnd2_mk, e3, bnd2_mk]
  cases decide (k = 1) with
  | true => rw [cond_true, e4, bnd2_mk, grd_pos (by simp only [i64]; omega)]; exact ⟨_, _, rfl, h4, hx, size_nil, size_nil⟩
  | false =>
    rw [cond_false]
    cases decide (k = 2) with
    | true => rw [cond_true]; exact s_l5Draw_j0_p h3 hx
    | false => rw [cond_false]; exact s_l5Draw_j0_p h3 hx

theorem s_l9Near_l0_p : ∀ (k fl : Nat) (c : Cur) (l : List Rec), c.inv → k < fl → (∀ r, r ∈ l → r.sm) → l.length + k ≤ 1000 → ∃ m d, s_l9Near_l0 fl c.b c.i c.h l (k : Int) = some (m, d) ∧ d.inv ∧ m.length ≤ l.length + k ∧ ∀ r, r ∈ m → r.sm
  | 0, fl, c, l, h, hf, hr, hl => by
    obtain ⟨fl, rfl⟩ : ∃ q, fl = q + 1 := ⟨fl - 1, by omega⟩
    rw [s_l9Near_l0]
    exact ⟨l, c, rfl, h, Nat.le_refl _, hr⟩
  | k + 1, fl, c, l, h, hf, hr, hl => by
    obtain ⟨fl, rfl⟩ : ∃ q, fl = q + 1 := ⟨fl - 1, by omega⟩
    have c1 : (0 : Int) < ((k + 1 : Nat) : Int) := by omega
    obtain ⟨r, d1, e1, h1, hr1⟩ := s_l5Draw_p h
    obtain ⟨y, d2, e2, h2, hy⟩ := s_l1Str_p (l := [(⟨#[101, 120, 46, 99, 111, 109]⟩ : ByteArray), (⟨#[110, 115, 46, 101, 120, 46, 99, 111, 109]⟩ : ByteArray)]) h1 (by decide) (by decide)
    have hy2 := small_of rfl hy
    obtain ⟨o, d3, e3, h3⟩ := s_l1Once_p (n := 2) h2 (by omega) (by omega)
    obtain ⟨n, d4, e4, h4, -, -⟩ := s_l1Below_p (n := 3) h3 (by omega) (by omega)
    have hj : ∀ (q : Cur) (a b : Int) (s t : ByteArray), q.inv → s.size ≤ 1048576 → t.size ≤ 1048576 → ∃ m d, s_l9Near_j1 l ((k + 1 : Nat) : Int) r y (s_l9Near_l0 fl) q.b q.i q.h a b s t = some (m, d) ∧ d.inv ∧ m.length ≤ l.length + (k + 1) ∧ ∀ r, r ∈ m → r.sm := by
      intro q a b s t hq hs ht
      have e : ((k + 1 : Nat) : Int) - 1 = (k : Int) := by omega
      unfold s_l9Near_j1
      rw [grd_pos (by rw [List.length_append, List.length_singleton]; omega), grd_pos (by simp only [i64]; omega), e]
      obtain ⟨m, d, g1, g2, g3, g4⟩ := s_l9Near_l0_p k fl q (l ++ [⟨y, a, r.ttl, b, s, t⟩]) hq (by omega) (fun x hx => by
        rcases List.mem_append.1 hx with hx | hx
        · exact hr x hx
        · rw [List.mem_singleton] at hx; rw [hx]; exact ⟨hy2, hs, ht⟩) (by rw [List.length_append, List.length_singleton]; omega)
      exact ⟨m, d, g1, g2, by rw [List.length_append, List.length_singleton] at g3; omega, g4⟩
    rw [s_l9Near_l0, decide_eq_true c1, cond_true, e1, bnd2_mk, e2, bnd2_mk, e3, bnd2_mk]
    cases o with
    | true => rw [cond_true, e4, bnd2_mk]; exact hj d4 _ _ _ _ h4 size_nil size_nil
    | false => rw [cond_false]; exact hj d3 _ _ _ _ h3 hr1.2.1 hr1.2.2

theorem s_l9Near_p {c : Cur} (h : c.inv) : ∃ m d, s_l9Near c = some (m, d) ∧ d.inv ∧ m.length ≤ 1000 ∧ smL m := by
  obtain ⟨n, d, e, hd, h0, h1⟩ := s_l1Below_p (n := 6) h (by omega) (by omega)
  unfold s_l9Near
  rw [e, bnd2_mk]
  obtain ⟨k, rfl⟩ : ∃ k : Nat, n = (k : Int) := ⟨n.toNat, by omega⟩
  obtain ⟨m, q, g1, g2, g3, g4⟩ := s_l9Near_l0_p k fuel0 d [] hd (fuel_lt (by omega)) (fun r hr => by cases hr) (by simp; omega)
  simp only [List.length_nil] at g3
  exact ⟨m, q, g1, g2, by omega, by omega, g4⟩

theorem s_l1New_l1_p {b : List Int} (hb : b.length ≤ 1048576) : ∀ (k fl i : Nat) (h : Int), b.length - i = k → i ≤ b.length → k < fl → ∃ c, s_l1New_l1 b fl h (i : Int) = some c ∧ c.inv
  | 0, fl, i, h, hk, hi, hf => by
    obtain ⟨fl, rfl⟩ : ∃ q, fl = q + 1 := ⟨fl - 1, by omega⟩
    have c1 : ¬ ((i : Int) < (b.length : Int)) := by omega
    rw [s_l1New_l1, decide_eq_false c1, cond_false]
    exact ⟨_, rfl, Int.le_refl 0, hb⟩
  | k + 1, fl, i, h, hk, hi, hf => by
    obtain ⟨fl, rfl⟩ : ∃ q, fl = q + 1 := ⟨fl - 1, by omega⟩
    have c1 : (i : Int) < (b.length : Int) := by omega
    rw [s_l1New_l1, decide_eq_true c1, cond_true]
    unfold s_l1New_j2
    cases decide ((i : Int) < 4000) with
    | false => exact ⟨_, rfl, Int.le_refl 0, hb⟩
    | true =>
      obtain ⟨x, hx, -⟩ := idx_ok (l := b) (i := (i : Int)) (by omega) c1
      have e : IntKind.i64.wrap ((i : Int) + 1) = ((i + 1 : Nat) : Int) := by rw [wrap_id (by omega)]; omega
      rw [cond_true, hx, bnd1_mk, e]
      exact s_l1New_l1_p hb k fl (i + 1) _ (by omega) (by omega) (by omega)

theorem s_l1New_p {b : List Int} (hb : b.length ≤ 1048576) : ∃ c, s_l1New b = some c ∧ c.inv := s_l1New_l1_p hb b.length fuel0 0 _ (by omega) (by omega) (fuel_lt hb)

theorem s_DrawKeysOf_p {b : List Int} (hb : b.length ≤ 1048576) : ∃ l, s_DrawKeysOf b = some l ∧ l.length ≤ 1000 ∧ smL l := by
  obtain ⟨c, e, hc⟩ := s_l1New_p hb
  obtain ⟨l, d, e2, -, h1, h2⟩ := s_l9Near_p hc
  unfold s_DrawKeysOf
  rw [e, bnd1_mk, e2, bnd2_mk]
  exact ⟨l, rfl, h1, h2⟩

theorem s_DrawSetOf_p {b : List Int} (hb : b.length ≤ 1048576) : ∃ l x k, s_DrawSetOf b = some (l, x, k) ∧ l.length ≤ 1000 ∧ smL l := by
  obtain ⟨c, e, hc⟩ := s_l1New_p hb
  obtain ⟨l, d, e2, hd, h1, h2⟩ := s_l9Near_p hc
  obtain ⟨x, d2, e3, hd2, -⟩ := s_l1Str_p (l := [(⟨#[101, 120, 46, 99, 111, 109]⟩ : ByteArray), (⟨#[110, 115, 46, 101, 120, 46, 99, 111, 109]⟩ : ByteArray), (⟨#[99, 111, 109]⟩ : ByteArray)]) hd (by decide) (by decide)
  obtain ⟨k, d3, e4, -, -⟩ := s_l5Type_p hd2
  unfold s_DrawSetOf
  rw [e, bnd1_mk, e2, bnd2_mk, e3, bnd2_mk, e4, bnd2_mk]
  exact ⟨l, x, k, rfl, h1, h2⟩

theorem s_DrawWithTtl_p {b : List Int} (hb : b.length ≤ 1048576) : ∃ l k, s_DrawWithTtl b = some (l, k) ∧ l.length ≤ 1000 ∧ smL l := by
  obtain ⟨c, e, hc⟩ := s_l1New_p hb
  obtain ⟨l, d, e2, hd, h1, h2⟩ := s_l9Near_p hc
  obtain ⟨k, d2, e3, -, -, -⟩ := s_l1Below_p (n := 9) hd (by omega) (by omega)
  unfold s_DrawWithTtl
  rw [e, bnd1_mk, e2, bnd2_mk, e3, bnd2_mk]
  exact ⟨l, k, rfl, h1, h2⟩

def key (r : Rec) : Quest := ⟨r.name, r.ty⟩

theorem key_ext {a : Quest} {r : Rec} : (decide (a.name = r.name) && (decide (a.ty = r.ty) && true)) = decide (a = key r) := by
  cases a; unfold key; simp

theorem key_ext' {a : Quest} {r : Rec} : (decide (r.name = a.name) && (decide (r.ty = a.ty) && true)) = decide (a = key r) := by
  cases a; unfold key; simp [eq_comm]

def hasQ (q : Quest) (l : List Quest) : Bool := l.any fun x => decide (x = q)

theorem slices_Index_Quest_l0_eq {r : Rec} : ∀ (l : List Quest) (i : Nat), ∃ v, slices_Index_Quest_l0 (key r) l i = some v ∧ decide (0 ≤ v) = hasQ (key r) l
  | [], i => ⟨-1, rfl, rfl⟩
  | x :: l, i => by
    have e : (decide ((key r).name = x.name) && (decide ((key r).ty = x.ty) && true)) = decide (x = key r) := key_ext'
    rw [slices_Index_Quest_l0, e]
    by_cases c : x = key r
    · exact ⟨i, by simp [c], by simp [c, hasQ]⟩
    · obtain ⟨v, h1, h2⟩ := slices_Index_Quest_l0_eq (r := r) l (i + 1)
      exact ⟨v, by simp [c, h1], by rw [h2]; simp [hasQ, c]⟩

theorem slices_Contains_Quest_eq {r : Rec} {l : List Quest} : slices_Contains_Quest l (Quest.mk r.name r.ty) = some (hasQ (key r) l) := by
  obtain ⟨v, h1, h2⟩ := slices_Index_Quest_l0_eq (r := r) l 0
  unfold key at h1
  unfold slices_Contains_Quest slices_Index_Quest
  rw [h1, bnd1_mk, h2]

def keysL : List Rec → List Quest → List Quest
  | [], out => out
  | r :: l, out => bif hasQ (key r) out then keysL l out else keysL l (out ++ [key r])

theorem i_KeysOf_l0_eq : ∀ (l : List Rec) (out : List Quest) (i : Nat), out.length + l.length ≤ 1048576 → i_KeysOf_l0 l out i = some (keysL l out)
  | [], out, i, _ => rfl
  | r :: l, out, i, h => by
    simp only [List.length_cons] at h
    rw [i_KeysOf_l0, slices_Contains_Quest_eq, bnd1_mk, keysL]
    cases hasQ (key r) out with
    | true => exact i_KeysOf_l0_eq l out (i + 1) (by omega)
    | false => rw [Bool.not_false, cond_true, grd_pos (by simp; omega), cond_false]; exact i_KeysOf_l0_eq l (out ++ [key r]) (i + 1) (by simp; omega)

theorem i_KeysOf_eq {l : List Rec} (h : smL l) : i_KeysOf l = some (keysL l []) := i_KeysOf_l0_eq _ _ _ (by simpa using h.1)

theorem s_KeysOf_l2_eq {out : List Quest} {n : Nat} {r : Rec} {k : (List Quest) → Nat → Option (List Quest)} : ∀ (l : List Quest) (b : Bool) (i : Nat), s_KeysOf_l2 out n r k l b i = s_KeysOf_j1 out n r k (b || hasQ (key r) l)
  | [], b, i => by rw [s_KeysOf_l2]; unfold hasQ; simp
  | x :: l, b, i => by
    rw [s_KeysOf_l2, s_KeysOf_l2_eq l true, key_ext, s_KeysOf_l2_eq l _]
    unfold hasQ
    rw [List.any_cons]
    cases b <;> simp

theorem s_KeysOf_l0_eq : ∀ (l : List Rec) (out : List Quest) (i : Nat), out.length + l.length ≤ 1048576 → s_KeysOf_l0 l out i = some (keysL l out)
  | [], out, i, _ => rfl
  | r :: l, out, i, h => by
    simp only [List.length_cons] at h
    rw [s_KeysOf_l0, s_KeysOf_l2_eq, keysL, Bool.false_or]
    unfold s_KeysOf_j1
    cases hasQ (key r) out with
    | true => exact s_KeysOf_l0_eq l out (i + 1) (by omega)
    | false => rw [Bool.not_false, cond_true, cond_false]; unfold key; rw [grd_pos (by simp; omega)]; exact s_KeysOf_l0_eq l (out ++ [⟨r.name, r.ty⟩]) (i + 1) (by simp; omega)

theorem s_KeysOf_eq {l : List Rec} (h : smL l) : s_KeysOf l = some (keysL l []) := s_KeysOf_l0_eq _ _ _ (by simpa using h.1)

theorem hasQ_iff {q : Quest} {l : List Quest} : hasQ q l = true ↔ q ∈ l := by
  unfold hasQ
  rw [List.any_eq_true]
  constructor
  · rintro ⟨x, hx, e⟩; rw [← of_decide_eq_true e]; exact hx
  · intro h; exact ⟨q, h, decide_eq_true rfl⟩

theorem keysL_nodup : ∀ (l : List Rec) (out : List Quest), out.Nodup → (keysL l out).Nodup
  | [], out, h => h
  | r :: l, out, h => by
    unfold keysL
    cases c : hasQ (key r) out with
    | true => exact keysL_nodup l out h
    | false =>
      rw [cond_false]
      refine keysL_nodup l _ (List.nodup_append.2 ⟨h, by simp, fun a ha b hb => ?_⟩)
      rw [List.mem_singleton] at hb
      intro e
      rw [hb] at e
      rw [e] at ha
      rw [hasQ_iff.2 ha] at c
      cases c

theorem keysL_out : ∀ (l : List Rec) (out : List Quest) (q : Quest), q ∈ out → q ∈ keysL l out
  | [], out, q, h => h
  | r :: l, out, q, h => by
    unfold keysL
    cases hasQ (key r) out with
    | true => exact keysL_out l out q h
    | false => exact keysL_out l _ q (List.mem_append_left _ h)

theorem keysL_all : ∀ (l : List Rec) (out : List Quest) (r : Rec), r ∈ l → key r ∈ keysL l out
  | [], out, r, h => by cases h
  | x :: l, out, r, h => by
    unfold keysL
    cases h with
    | head =>
      cases c : hasQ (key x) out with
      | true => exact keysL_out l out _ (hasQ_iff.1 c)
      | false => exact keysL_out l _ _ (List.mem_append_right _ (List.mem_singleton.2 rfl))
    | tail _ h =>
      cases hasQ (key x) out with
      | true => exact keysL_all l out r h
      | false => exact keysL_all l _ r h

theorem keysL_from : ∀ (l : List Rec) (out : List Quest) (q : Quest), q ∈ keysL l out → q ∈ out ∨ ∃ r, r ∈ l ∧ key r = q
  | [], out, q, h => .inl h
  | x :: l, out, q, h => by
    unfold keysL at h
    cases c : hasQ (key x) out with
    | true =>
      rw [c, cond_true] at h
      rcases keysL_from l out q h with h | ⟨r, hr, e⟩
      · exact .inl h
      · exact .inr ⟨r, .tail _ hr, e⟩
    | false =>
      rw [c, cond_false] at h
      rcases keysL_from l _ q h with h | ⟨r, hr, e⟩
      · rcases List.mem_append.1 h with h | h
        · exact .inl h
        · rw [List.mem_singleton] at h; exact .inr ⟨x, .head _, h.symm⟩
      · exact .inr ⟨r, .tail _ hr, e⟩

theorem setOf_key (l : List Rec) (q : Quest) : setOf l q.name q.ty = l.filter fun r => decide (key r = q) := by
  unfold setOf
  congr 1
  funext r
  cases q; unfold key; simp

def sums (l : List Rec) : List Quest → Nat
  | [] => 0
  | q :: ks => (setOf l q.name q.ty).length + sums l ks

theorem filter_two {p q : Rec → Bool} (h : ∀ r, p r = true → q r = false) : ∀ l : List Rec, (l.filter fun r => p r || q r).length = (l.filter p).length + (l.filter q).length
  | [] => rfl
  | r :: l => by
    have := filter_two h l
    rw [List.filter_cons, List.filter_cons, List.filter_cons]
    cases c : p r with
    | true => rw [h r c]; simp; omega
    | false =>
      cases d : q r <;> simp <;> omega

theorem sums_eq (l : List Rec) : ∀ ks : List Quest, ks.Nodup → sums l ks = (l.filter fun r => hasQ (key r) ks).length
  | [], _ => by
    have : (l.filter fun r => hasQ (key r) []) = [] := List.filter_eq_nil_iff.2 fun r _ => by simp [hasQ]
    rw [this]; rfl
  | q :: ks, h => by
    obtain ⟨h1, h2⟩ := List.nodup_cons.1 h
    have e : (fun r => hasQ (key r) (q :: ks)) = fun r => (decide (key r = q) || hasQ (key r) ks) := by
      funext r; unfold hasQ; rw [List.any_cons]; congr 1; by_cases c : q = key r
      · simp [c]
      · have c2 : ¬ (key r = q) := fun x => c x.symm
        simp [c, c2]
    unfold sums
    rw [e, filter_two, ← sums_eq l ks h2, setOf_key]
    intro r hr
    have := of_decide_eq_true hr
    rw [this]
    cases c : hasQ q ks
    · rfl
    · exact absurd (hasQ_iff.1 c) h1

theorem sums_all {l : List Rec} : sums l (keysL l []) = l.length := by
  rw [sums_eq l _ (keysL_nodup l [] (List.nodup_nil)), List.filter_eq_self.2 fun r hr => hasQ_iff.2 (keysL_all l [] r hr)]

def leastL : List Rec → Int → Int
  | [], v => v
  | r :: l, v => leastL l (if r.ttl < v then r.ttl else v)

theorem leastL_le : ∀ (l : List Rec) (v : Int), leastL l v ≤ v
  | [], v => Int.le_refl v
  | r :: l, v => by
    unfold leastL
    have := leastL_le l (if r.ttl < v then r.ttl else v)
    split at this <;> rename_i c
    · rw [if_pos c]; omega
    · rw [if_neg c]; omega

theorem i_LeastTtl_l0_eq : ∀ (l : List Rec) (v : Int) (i : Nat), i_LeastTtl_l0 l v i = some (leastL l v)
  | [], v, i => rfl
  | r :: l, v, i => by rw [i_LeastTtl_l0, i_LeastTtl_l0_eq l]; rfl

def least : List Rec → Int
  | [] => 0
  | r :: l => leastL l r.ttl

theorem i_LeastTtl_eq {l : List Rec} : i_LeastTtl l = some (least l) := by
  unfold i_LeastTtl
  cases l with
  | nil => rfl
  | cons r l =>
    have c : ¬ (((r :: l).length : Int) = 0) := by simp; omega
    rw [decide_eq_false c, cond_false, idx_zero, List.getElem?_cons_zero, bnd1_mk, i_LeastTtl_l0_eq]
    unfold leastL least
    rw [if_neg (Int.lt_irrefl _)]

theorem s_LeastTtl_l0_eq : ∀ (l : List Rec) (v : Int) (i : Nat), 0 < i → s_LeastTtl_l0 l v i = some (leastL l v)
  | [], v, i, _ => rfl
  | r :: l, v, i, h => by
    have c : ¬ ((i : Int) = 0) := by omega
    rw [s_LeastTtl_l0, decide_eq_false c, cond_false]
    unfold s_LeastTtl_j1 leastL
    by_cases d : r.ttl < v
    · rw [decide_eq_true d, cond_true, if_pos d, s_LeastTtl_l0_eq l _ _ (by omega)]
    · rw [decide_eq_false d, cond_false, if_neg d, s_LeastTtl_l0_eq l _ _ (by omega)]

theorem s_LeastTtl_eq {l : List Rec} : s_LeastTtl l = some (least l) := by
  unfold s_LeastTtl
  cases l with
  | nil => rfl
  | cons r l =>
    have c : ((0 : Nat) : Int) = 0 := rfl
    rw [s_LeastTtl_l0, decide_eq_true c, cond_true]
    unfold s_LeastTtl_j1
    rw [cond_true, s_LeastTtl_l0_eq l _ _ (by omega)]
    rfl

theorem s_WithTtl_l0_eq (k : Int) : ∀ (t pre : List Rec) (fl : Nat), t.length < fl → pre.length + t.length ≤ 1048576 → s_WithTtl_l0 k fl (pre ++ t) (pre.length : Int) = some (pre ++ t.map (setTtl k))
  | [], pre, fl, hf, hl => by
    obtain ⟨fl, rfl⟩ : ∃ q, fl = q + 1 := ⟨fl - 1, by simp at hf; omega⟩
    have c : ¬ ((pre.length : Int) < ((pre ++ ([] : List Rec)).length : Int)) := by simp
    rw [s_WithTtl_l0, decide_eq_false c, cond_false]
    simp
  | r :: t, pre, fl, hf, hl => by
    simp only [List.length_cons] at hf hl
    obtain ⟨fl, rfl⟩ : ∃ q, fl = q + 1 := ⟨fl - 1, by omega⟩
    have c : (pre.length : Int) < ((pre ++ r :: t).length : Int) := by simp; omega
    have e : (pre.length : Int) + 1 = ((pre ++ [setTtl k r]).length : Int) := by simp
    have h := s_WithTtl_l0_eq k t (pre ++ [setTtl k r]) fl (by omega) (by simp; omega)
    rw [s_WithTtl_l0, decide_eq_true c, cond_true, idx_nat, get_app, bnd1_mk, grd_pos (by simp only [i64]; omega), Int.toNat_natCast, set_app, e]
    simp only [List.append_assoc, List.singleton_append, List.map_cons] at h ⊢
    exact h

theorem s_WithTtl_eq {l : List Rec} {k : Int} (h : l.length ≤ 1048576) : s_WithTtl l k = some (l.map (setTtl k)) := by
  unfold s_WithTtl
  rw [s_l7Copy_eq (by omega), bnd1_mk]
  exact s_WithTtl_l0_eq k l [] fuel0 (fuel_lt h) (by simpa using h)

theorem leastL_map (k : Int) : ∀ l : List Rec, leastL (l.map (setTtl k)) k = k
  | [] => rfl
  | r :: l => by
    have : (setTtl k r).ttl = k := rfl
    rw [List.map_cons, leastL, this, if_neg (Int.lt_irrefl _), leastL_map k l]

theorem w_sameRecs_l0_self : ∀ (t pre : List Rec), w_sameRecs_l0 (pre ++ t) t pre.length = some true
  | [], pre => rfl
  | r :: t, pre => by
    have h := w_sameRecs_l0_self t (pre ++ [r])
    rw [w_sameRecs_l0, idx_nat, get_app, bnd1_mk, rec_ext, decide_eq_true rfl, Bool.not_true, cond_false]
    simpa using h

theorem w_sameRecs_self {l : List Rec} : w_sameRecs l l = some true := by
  unfold w_sameRecs
  rw [decide_eq_true rfl, Bool.not_true, cond_false]
  exact w_sameRecs_l0_self l []

theorem w_FnSets_l1_eq {x4 x6 x10 : List Rec} {x7 : ByteArray} {x8 x11 : Int} {x13 : List Quest} (h : smL x4) : ∀ (ks : List Quest) (n : Nat) (i : Nat), (∀ q, q ∈ ks → ∃ r, r ∈ x4 ∧ key r = q) → n + ks.length * 1048576 ≤ 1099511627776 → w_FnSets_l1 x4 x6 x7 x8 x10 x11 x13 ks (n : Int) i = w_FnSets_j0 x4 x6 x7 x8 x10 x11 x13 ((n + sums x4 ks : Nat) : Int)
  | [], n, i, _, _ => rfl
  | q :: ks, n, i, hq, hn => by
    rw [List.length_cons, Nat.add_mul, Nat.one_mul] at hn
    have h2 := setOf_len x4 q.name q.ty
    have h3 := h.1
    obtain ⟨r, hr, hk⟩ := hq q (.head _)
    have hm : r ∈ setOf x4 q.name q.ty := by rw [setOf_key]; exact List.mem_filter.2 ⟨hr, decide_eq_true hk⟩
    rw [w_FnSets_l1, i_SetOf_eq h, bnd1_mk]
    have hs : sums x4 (q :: ks) = (setOf x4 q.name q.ty).length + sums x4 ks := rfl
    generalize setOf x4 q.name q.ty = s at h2 hm hs ⊢
    have hq2 : n + s.length + ks.length * 1048576 ≤ 1099511627776 := by generalize ks.length * 1048576 = Q at hn ⊢; omega
    have hi : i64 ((n : Int) + (s.length : Int)) := by simp only [i64]; generalize ks.length * 1048576 = Q at hn; omega
    rw [grd_pos hi]
    cases s with
    | nil => cases hm
    | cons a s =>
      have c : ¬ (((a :: s).length : Int) = 0) := by simp; omega
      have d : ¬ (a.ttl < least (a :: s)) := by have := leastL_le s a.ttl; show ¬ (a.ttl < leastL s a.ttl); omega
      rw [decide_eq_false c, cond_false, i_LeastTtl_eq, bnd1_mk, idx_zero, List.getElem?_cons_zero, bnd1_mk, decide_eq_false d]
      unfold w_FnSets_j2
      have e : (n : Int) + ((a :: s).length : Int) = ((n + (a :: s).length : Nat) : Int) := by omega
      rw [cond_false, e, w_FnSets_l1_eq h ks _ _ (fun x hx => hq x (.tail _ hx)) hq2, hs, Nat.add_assoc]

theorem law_FnSets {b : List Int} {p : Prop} (_ : p) : w_FnSets b = some true := by
  unfold w_FnSets w_big
  rw [bnd1_mk]
  by_cases c : (1048576 : Int) < (b.length : Int)
  · rw [decide_eq_true c]; rfl
  rw [decide_eq_false c, cond_false]
  have hb : b.length ≤ 1048576 := by omega
  obtain ⟨l, e1, l1, l2⟩ := s_DrawKeysOf_p hb
  obtain ⟨a, nm, ty, e2, a1, a2⟩ := s_DrawSetOf_p hb
  obtain ⟨w, t, e3, w1, w2⟩ := s_DrawWithTtl_p hb
  rw [e1, bnd1_mk, e2, bnd3_mk, e3, bnd2_mk, i_KeysOf_eq l2, bnd1_mk]
  have hk : (keysL l []).length * 1048576 ≤ 1099511627776 := by
    have h1 : ∀ (l : List Rec) (out : List Quest), (keysL l out).length ≤ out.length + l.length := by
      intro l
      induction l with
      | nil => intro out; exact Nat.le_refl _
      | cons r l ih =>
        intro out
        unfold keysL
        have i1 := ih out
        have i2 := ih (out ++ [key r])
        cases hasQ (key r) out <;> simp at i1 i2 ⊢ <;> omega
    have h2 := h1 l []
    simp only [List.length_nil] at h2
    have := Nat.mul_le_mul_right 1048576 (show (keysL l []).length ≤ 1000 by omega)
    omega
  have h := w_FnSets_l1_eq (x6 := a) (x7 := nm) (x8 := ty) (x10 := w) (x11 := t) (x13 := keysL l []) l2 (keysL l []) 0 0 (fun q hq => by
    rcases keysL_from l [] q hq with h | h
    · cases h
    · exact h) (by rw [Nat.zero_add]; exact hk)
  have z : ((0 : Nat) : Int) = 0 := rfl
  rw [z] at h
  rw [h, sums_all, Nat.zero_add]
  unfold w_FnSets_j0
  have hl : decide (least l = least l) = true := decide_eq_true rfl
  rw [s_KeysOf_eq l2, bnd1_mk, decide_eq_true rfl, Bool.not_true, cond_false, i_SetOf_eq a2, bnd1_mk, s_SetOf_eq a2, bnd1_mk, w_sameRecs_self, bnd1_mk, Bool.not_true, cond_false, i_WithTtl_eq (by omega), bnd1_mk, s_WithTtl_eq (by omega), bnd1_mk, w_sameRecs_self, bnd1_mk, Bool.not_true, cond_false, i_LeastTtl_eq, bnd1_mk, s_LeastTtl_eq, bnd1_mk, hl]
  unfold w_FnSets_j3
  rw [Bool.not_true, cond_false, decide_eq_true rfl, cond_true]
  cases w with
  | nil => rfl
  | cons r w =>
    have c : ¬ (((r :: w).length : Int) = 0) := by simp; omega
    rw [decide_eq_false c, cond_false, i_WithTtl_eq (by omega), bnd1_mk, i_LeastTtl_eq, bnd1_mk]
    have e : least ((r :: w).map (setTtl t)) = t := leastL_map t w
    rw [e, decide_eq_true rfl]
end Go.Abs.M
