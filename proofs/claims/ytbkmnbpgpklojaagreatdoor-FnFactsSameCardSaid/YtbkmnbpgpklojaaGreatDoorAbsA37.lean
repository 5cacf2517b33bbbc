/- The abstract layer, part A37. -/
import Derived.Test.YtbkmnbpgpklojaaGreatDoorAbsA33
namespace Go.Abs
open Go
def orB (acc : List Nat) : List Edge → Nat → Nat
 | [], m => m
 | e :: es, m => orB acc es (match Region.binds .any e with | true => m ||| ((1 <<< e.on) ||| acc.getD e.on 0) | false => m)
def ancB : List Oper → List Nat → List Nat
 | [], acc => acc
 | o :: rest, acc => ancB rest (acc ++ [orB acc o.after.toList 0])
theorem orB_bit {acc : List Nat} : ∀ {es : List Edge} {m i : Nat}, (orB acc es m).testBit i = true → m.testBit i = true ∨ ∃ e, e ∈ es ∧ Region.binds .any e = true ∧ (i = e.on ∨ (acc.getD e.on 0).testBit i = true)
 | [], m, i, h => .inl h
 | e :: es, m, i, h => by
  rw [orB] at h
  rcases orB_bit h with h1 | ⟨e', h1, h2, h3⟩
  ·cases hb : Region.binds .any e with
   | false => rw [hb] at h1; exact .inl h1
   | true =>
    rw [hb] at h1
    simp only [Nat.testBit_or, Bool.or_eq_true] at h1
    rcases h1 with h1 | h1 | h1
    ·exact .inl h1
    ·refine .inr ⟨e, .head _, hb, .inl ?_⟩
     rw [Nat.one_shiftLeft, Nat.testBit_two_pow] at h1
     exact (of_decide_eq_true h1).symm
    ·exact .inr ⟨e, .head _, hb, .inr h1⟩
  ·exact .inr ⟨e', .tail _ h1, h2, h3⟩
theorem ancB_mem : ∀ (l : List Oper) (B : List Nat) (L : List (List Nat)), B.length = L.length → (∀ j i, (B.getD j 0).testBit i = true → i ∈ L.getD j []) → ∀ j i, ((ancB l B).getD j 0).testBit i = true → i ∈ (ancL l L).getD j []
 | [], _, _, _, h, j, i, hi => h j i hi
 | o :: l, B, L, hl, h, j, i, hi => by
  rw [ancB] at hi
  rw [ancL]
  refine ancB_mem l _ _ (by simp [hl]) (fun j i hi => ?_) j i hi
  by_cases hj : j < B.length
  ·have e1 : (B ++ [orB B o.after.toList 0]).getD j 0 = B.getD j 0 := by simp [List.getD, List.getElem?_append_left hj]
   have e2 : ∀ x, (L ++ [x]).getD j [] = L.getD j [] := fun x => by simp [List.getD, List.getElem?_append_left (show j < L.length by omega)]
   rw [e1] at hi; rw [e2]; exact h j i hi
  ·by_cases hj2 : j = B.length
   ·subst hj2
    have e1 : (B ++ [orB B o.after.toList 0]).getD B.length 0 = orB B o.after.toList 0 := by simp [List.getD]
    have e2 : ∀ x, (L ++ [x]).getD B.length [] = x := fun x => by rw [hl]; simp [List.getD]
    rw [e1] at hi; rw [e2]
    rcases orB_bit hi with h1 | ⟨e, h1, h2, h3⟩
    ·simp at h1
    ·refine List.mem_flatMap.2 ⟨e, h1, ?_⟩
     rw [if_pos h2]
     rcases h3 with rfl | h3
     ·exact .head _
     ·exact .tail _ (h _ _ h3)
   ·have e1 : (B ++ [orB B o.after.toList 0]).getD j 0 = 0 := by
     simp [List.getD, List.getElem?_eq_none (show (B ++ [orB B o.after.toList 0]).length ≤ j by simp; omega)]
    rw [e1] at hi; simp at hi
def drawOk2 (l : List Oper) (lg : Lg) : Bool :=
 let A := ancB l []
 (List.range l.length).all fun j => match l[j]?, lg[j]? with
  | some oj, some rj => oj.after.all (fun e => !Region.binds .any e || decide (e.on < j)) && (List.range j).all fun i => (A.getD j 0).testBit i || (match l[i]?, lg[i]? with | some oi, some ri => indep l.toArray (oi, ri) (oj, rj) | _, _ => false)
  | _, _ => false
theorem drawFast {l : List Oper} {lg : Lg} (h : drawOk2 l lg = true) : drawOk l lg = true := by
 unfold drawOk2 at h
 unfold drawOk
 simp only [List.all_eq_true] at h ⊢
 intro j hj
 have h1 := h j hj
 cases hl : l[j]? with
 | none => rw [hl] at h1; simp at h1
 | some oj =>
  cases hg : lg[j]? with
  | none => rw [hl, hg] at h1; simp at h1
  | some rj =>
   rw [hl, hg] at h1
   simp only [Bool.and_eq_true, List.all_eq_true, Bool.or_eq_true] at h1 ⊢
   refine ⟨h1.1, fun i hi => ?_⟩
   rcases h1.2 i hi with h2 | h2
   ·left
    rw [List.contains_iff_mem]
    exact ancB_mem l [] [] rfl (fun j i hi => by simp at hi) j i h2
   ·exact .inr h2
section
variable {P : Program} {n : Nat} {T : Tm} {H : Hp} {o : Oper} {ops : Array Oper} {K : Lg → St → Prop} {rest : List Oper} {d : Nat} {x : Operand} {v : V}
theorem m1 (h : RegT P ops (kp K [] []) rest (mkT n ((d, v) :: T) H)) (ho : o.op = .move x ∨ o.op = .assign x := by exact .inl rfl) (hx : (mkT n T H).ev x = v := by conv => lhs; whnf) (hd : o.dst = some d := by exact rfl) (hn : Nat.blt d n = true := by exact rfl) (hg : wantA ops (mkT n T H) o = some true := by exact rfl) : RegT P ops K (o :: rest) (mkT n T H) := s_mv ho hx hd hn hg h
theorem m2 (h : RegT P ops (kp K [] []) rest (mkT n ((d, v) :: T) H)) (ho : o.op = .move x ∨ o.op = .assign x := by exact .inr rfl) (hx : (mkT n T H).ev x = v := by conv => lhs; whnf) (hd : o.dst = some d := by exact rfl) (hn : Nat.blt d n = true := by exact rfl) (hg : wantA ops (mkT n T H) o = some true := by exact rfl) : RegT P ops K (o :: rest) (mkT n T H) := s_mv ho hx hd hn hg h
end
theorem tri_sr {P : Program} {id : Nat} {l : List Oper} {y : Code} {Q : Exit → St → Prop} {st : St} (h : RegT P l.toArray (fun _ => Tri P y Q) l st) : Tri P (.seq (.region id l.toArray false) y) Q st := tri_seq (tri_region h)
theorem rowsCv_nil {hp : Heap} {src : Nm → Option Nm} {D : List Nm} {N : Nm → Option Nat} {rows : List (List V)} : RowsCv hp src D N rows [] := ⟨Nat.zero_le _, fun i j y h => by simp [cellAt] at h⟩
theorem rowsCv_cons {hp : Heap} {src : Nm → Option Nm} {D : List Nm} {N : Nm → Option Nat} {r r' : List V} {rows rows' : List (List V)} (h : CvL hp src D N r r') (t : RowsCv hp src D N rows rows') : RowsCv hp src D N (r :: rows) (r' :: rows') :=
  ⟨by have := t.1; simp; omega, fun i j y hy => by
    cases i with
    | zero =>
      simp only [cellAt, List.getElem?_cons_zero, Option.bind_some] at hy ⊢
      exact h.get j y hy
    | succ i =>
      simp only [cellAt, List.getElem?_cons_succ] at hy ⊢
      exact t.2 i j y hy⟩
theorem rowsZ_cons {r : List V} {rows : List (List V)} {z : Nat} (h : r.length = z) (t : ∀ r, r ∈ rows → r.length = z) : ∀ q, q ∈ r :: rows → q.length = z := fun q hq => by
 rcases List.mem_cons.1 hq with rfl | hq
 ·exact h
 ·exact t q hq
theorem rowsZ_nil {z : Nat} : ∀ q : List V, q ∈ ([] : List (List V)) → q.length = z := fun q hq => by cases hq
end Go.Abs
