/- The abstract layer, part A18. -/
import Derived.Test.YtbkmnbpgpklojaaGreatDoorAbsA17
namespace Go.Abs
open Go
structure Ev where
 dst : Option Nat
 v : V
 ov : Heap
def Ev.app (e : Ev) (st : St) : St := { st.put e.dst e.v with hp := over e.ov st.hp }
def playF : List Ev → Nat → (Nat → Bool) → St → St
 | [], _, _, st => st
 | e :: es, i, b, st => playF es (i + 1) b (if b i then e.app st else st)
theorem app_tm (e : Ev) (st : St) (t : Nat) : (e.app st).tm t = if e.dst = some t then e.v else st.tm t := by
 unfold Ev.app
 cases h : e.dst with
 | none => simp [St.put]
 | some d =>
  simp only [St.put, St.set, Option.some.injEq]
  by_cases q : t = d
  ·simp [q]
  ·simp [q, Ne.symm q]
theorem app_hp (e : Ev) (st : St) (m : Nm) : (e.app st).hp m = over e.ov st.hp m := rfl
theorem app_n (e : Ev) (st : St) : (e.app st).n = st.n := by unfold Ev.app; simp
theorem playF_n : ∀ (es : List Ev) (i : Nat) (b : Nat → Bool) (st : St), (playF es i b st).n = st.n
 | [], _, _, _ => rfl
 | e :: es, i, b, st => by
  rw [playF, playF_n es]
  split
  ·exact app_n e st
  ·rfl
theorem agree_tm {t : Nat} : ∀ (es : List Ev) (i : Nat) (b b' : Nat → Bool) (st st' : St), st.tm t = st'.tm t → (∀ j e, es[j]? = some e → b (i + j) = b' (i + j) ∨ e.dst ≠ some t) → (playF es i b st).tm t = (playF es i b' st').tm t
 | [], _, _, _, _, _, h, _ => h
 | e :: es, i, b, b', st, st', h, hb => by
  rw [playF, playF]
  refine agree_tm es (i + 1) b b' _ _ ?_ (fun j e' he => by have := hb (j + 1) e' (by simpa using he); rwa [show i + (j + 1) = i + 1 + j by omega] at this)
  have h0 := hb 0 e rfl
  simp only [Nat.add_zero] at h0
  rcases h0 with h0 | h0
  ·rw [h0]; split
   ·rw [app_tm, app_tm, h]
   ·exact h
  ·split <;> split <;> simp [app_tm, h0, h]
theorem agree_hp {m : Nm} : ∀ (es : List Ev) (i : Nat) (b b' : Nat → Bool) (st st' : St), st.hp m = st'.hp m → (∀ j e, es[j]? = some e → b (i + j) = b' (i + j) ∨ e.ov m = none) → (playF es i b st).hp m = (playF es i b' st').hp m
 | [], _, _, _, _, _, h, _ => h
 | e :: es, i, b, b', st, st', h, hb => by
  rw [playF, playF]
  refine agree_hp es (i + 1) b b' _ _ ?_ (fun j e' he => by have := hb (j + 1) e' (by simpa using he); rwa [show i + (j + 1) = i + 1 + j by omega] at this)
  have h0 := hb 0 e rfl
  simp only [Nat.add_zero] at h0
  rcases h0 with h0 | h0
  ·rw [h0]; split
   ·rw [app_hp, app_hp]; unfold over; rw [h]
   ·exact h
  ·split <;> split <;> simp [app_hp, over, h0, h]
theorem last_tm {t : Nat} : ∀ (es : List Ev) (i k : Nat) (b : Nat → Bool) (st : St) (e : Ev), es[k]? = some e → b (i + k) = true → e.dst = some t → (∀ j e', es[j]? = some e' → k < j → b (i + j) = true → e'.dst ≠ some t) → (playF es i b st).tm t = e.v
  | [], _, _, _, _, _, h, _, _, _ => by simp at h
  | e0 :: es, i, 0, b, st, e, h, hb, hd, hl => by
    simp only [List.getElem?_cons_zero, Option.some.injEq] at h
    subst h
    simp only [Nat.add_zero] at hb
    rw [playF, hb, if_pos rfl]
    have := agree_tm (t := t) es (i + 1) b (fun _ => false) (e0.app st) (e0.app st) rfl (fun j e' he => by
      by_cases q : b (i + 1 + j) = true
      · exact .inr (hl (j + 1) e' (by simpa using he) (by omega) (by rwa [show i + (j + 1) = i + 1 + j by omega]))
      · exact .inl (by simpa using q))
    rw [this]
    have none_ : ∀ (es : List Ev) (i : Nat) (st : St), playF es i (fun _ => false) st = st := fun es => by
      induction es with
      | nil => intro i st; rfl
      | cons e es ih => intro i st; rw [playF]; simp only [Bool.false_eq_true, if_false]; exact ih _ _
    rw [none_, app_tm, if_pos hd]
  | e0 :: es, i, k + 1, b, st, e, h, hb, hd, hl => by
    rw [playF]
    exact last_tm es (i + 1) k b _ e (by simpa using h) (by rwa [show i + 1 + k = i + (k + 1) by omega]) hd (fun j e' he hj hbj => hl (j + 1) e' (by simpa using he) (by omega) (by rwa [show i + (j + 1) = i + 1 + j by omega]))
theorem last_hp {m : Nm} {x : Option Entry} : ∀ (es : List Ev) (i k : Nat) (b : Nat → Bool) (st : St) (e : Ev), es[k]? = some e → b (i + k) = true → e.ov m = some x → (∀ j e', es[j]? = some e' → k < j → b (i + j) = true → e'.ov m = none) → (playF es i b st).hp m = some x
  | [], _, _, _, _, _, h, _, _, _ => by simp at h
  | e0 :: es, i, 0, b, st, e, h, hb, hd, hl => by
    simp only [List.getElem?_cons_zero, Option.some.injEq] at h
    subst h
    simp only [Nat.add_zero] at hb
    rw [playF, hb, if_pos rfl]
    have := agree_hp (m := m) es (i + 1) b (fun _ => false) (e0.app st) (e0.app st) rfl (fun j e' he => by
      by_cases q : b (i + 1 + j) = true
      · exact .inr (hl (j + 1) e' (by simpa using he) (by omega) (by rwa [show i + (j + 1) = i + 1 + j by omega]))
      · exact .inl (by simpa using q))
    rw [this]
    have none_ : ∀ (es : List Ev) (i : Nat) (st : St), playF es i (fun _ => false) st = st := fun es => by
      induction es with
      | nil => intro i st; rfl
      | cons e es ih => intro i st; rw [playF]; simp only [Bool.false_eq_true, if_false]; exact ih _ _
    rw [none_, app_hp, over, hd]
  | e0 :: es, i, k + 1, b, st, e, h, hb, hd, hl => by
    rw [playF]
    exact last_hp es (i + 1) k b _ e (by simpa using h) (by rwa [show i + 1 + k = i + (k + 1) by omega]) hd (fun j e' he hj hbj => hl (j + 1) e' (by simpa using he) (by omega) (by rwa [show i + (j + 1) = i + 1 + j by omega]))
theorem playF_shift : ∀ (es : List Ev) (i : Nat) (b : Nat → Bool) (st : St), playF es (i + 1) b st = playF es i (fun k => b (k + 1)) st
 | [], _, _, _ => rfl
 | e :: es, i, b, st => by rw [playF, playF, playF_shift es (i + 1)]
theorem playF_congr : ∀ (es : List Ev) (i : Nat) (b b' : Nat → Bool) (st : St), (∀ j, j < es.length → b (i + j) = b' (i + j)) → playF es i b st = playF es i b' st
 | [], _, _, _, _, _ => rfl
 | e :: es, i, b, b', st, h => by
  rw [playF, playF, show b i = b' i from h 0 (by simp)]
  exact playF_congr es (i + 1) b b' _ (fun j hj => by have := h (j + 1) (by simp; omega); rwa [show i + (j + 1) = i + 1 + j by omega] at this)
def EvOk (P : Program) (ops : Array Oper) (st : St) (o : Oper) (e : Ev) (rw_ : List Nm × List Nm) : Prop :=
 e.dst = o.dst ∧ dstOk o.dst st.n = true ∧ (∀ m, e.ov m ≠ none → m ∈ rw_.2 ∨ o.dst = some m.1) ∧
  ((wantA ops st o = some true ∧ ∀ st', Like o rw_.1 st st' → StepE P st' o e.v (over e.ov st'.hp) rw_.1 rw_.2) ∨ (wantA ops st o = some false ∧ e.v = .tup [] ∧ e.ov = noOv))
theorem regT_ev {P : Program} {ops : Array Oper} : ∀ {l : List Oper} {K : Lg → St → Prop} {st : St}, RegT P ops K l st →
  ∃ (es : List Ev) (lg : Lg), es.length = l.length ∧ lg.length = l.length ∧ K lg (playF es 0 (fun _ => true) st) ∧
   ∀ j o e r, l[j]? = some o → es[j]? = some e → lg[j]? = some r → EvOk P ops (playF es 0 (fun k => decide (k < j)) st) o e r
 | [], K, st, h => ⟨[], [], rfl, rfl, h, fun j o e r h => by simp at h⟩
 | o :: l, K, st, h => by
  have fin : ∀ (e : Ev) (r : List Nm × List Nm), EvOk P ops st o e r → RegT P ops (kp K r.1 r.2) l (e.app st) →
    ∃ (es : List Ev) (lg : Lg), es.length = (o :: l).length ∧ lg.length = (o :: l).length ∧ K lg (playF es 0 (fun _ => true) st) ∧
     ∀ j o' e r, (o :: l)[j]? = some o' → es[j]? = some e → lg[j]? = some r → EvOk P ops (playF es 0 (fun k => decide (k < j)) st) o' e r := fun e r he hr => by
   obtain ⟨es, lg, h1, h2, h3, h4⟩ := regT_ev hr
   refine ⟨e :: es, r :: lg, by simp [h1], by simp [h2], ?_, fun j o' e' r' ho he' hr' => ?_⟩
   ·rw [playF, if_pos rfl, playF_shift]; exact h3
   ·cases j with
    | zero =>
     simp only [List.getElem?_cons_zero, Option.some.injEq] at ho he' hr'
     subst ho he' hr'
     have : playF (e :: es) 0 (fun k => decide (k < 0)) st = st := by
      have none_ : ∀ (es : List Ev) (i : Nat) (st : St), playF es i (fun _ => false) st = st := fun es => by
       induction es with
       | nil => intro i st; rfl
       | cons e es ih => intro i st; rw [playF]; simp only [Bool.false_eq_true, if_false]; exact ih _ _
      have e0 : (fun k => decide (k < 0)) = fun _ => false := by funext k; simp
      rw [e0, none_]
     rw [this]; exact he
    | succ j =>
     have := h4 j o' e' r' (by simpa using ho) (by simpa using he') (by simpa using hr')
     rw [playF, playF_shift]
     simpa using this
  rcases h with ⟨v, hp', rs, ws, hw, hd, hs, hr⟩ | ⟨hw, hd, hr⟩
  ·obtain ⟨ov, e1, e2, e3⟩ := hs.local_
   refine fin ⟨o.dst, v, ov⟩ (rs, ws) ⟨rfl, hd, e2, .inl ⟨hw, e3⟩⟩ ?_
   subst e1; exact hr
  ·refine fin ⟨o.dst, .tup [], noOv⟩ ([], []) ⟨rfl, hd, fun m h => absurd rfl h, .inr ⟨hw, rfl, rfl⟩⟩ ?_
   have : (Ev.mk o.dst (.tup []) noOv).app st = st.put o.dst (.tup []) := by
    unfold Ev.app
    simp only [over_no]
    exact St.eta st o.dst (.tup [])
   rw [this]; exact hr
def ancL : List Oper → List (List Nat) → List (List Nat)
 | [], acc => acc
 | o :: rest, acc => ancL rest (acc ++ [o.after.toList.flatMap fun e => if Region.binds .any e then e.on :: acc.getD e.on [] else []])
def apartN (x y : Oper × (List Nm × List Nm)) : Bool :=
 x.2.2.all (fun m => !(y.2.1.any (nmEq m)) && !(y.2.2.any (nmEq m)) && y.1.dst != some m.1) && (match x.1.dst with | some d => (y.2.1 ++ y.2.2).all (fun m => m.1 != d) | none => true)
def indep (ops : Array Oper) (x y : Oper × (List Nm × List Nm)) : Bool := Oper.apart ops x.1 y.1 && apartN x y && apartN y x
def drawOk (l : List Oper) (lg : Lg) : Bool :=
 let A := ancL l []
 (List.range l.length).all fun j => match l[j]?, lg[j]? with
  | some oj, some rj => oj.after.all (fun e => !Region.binds .any e || decide (e.on < j)) && (List.range j).all fun i => (A.getD j []).contains i || (match l[i]?, lg[i]? with | some oi, some ri => indep l.toArray (oi, ri) (oj, rj) | _, _ => false)
  | _, _ => false
theorem anc_mem {S : Nat → Prop} {all : List Oper} (hcl : ∀ k o, S k → all[k]? = some o → ∀ e, e ∈ o.after → Region.binds .any e = true → S e.on) :
  ∀ (l : List Oper) (acc : List (List Nat)) (pre : List Oper), all = pre ++ l → acc.length = pre.length →
   (∀ i o, i < acc.length → all[i]? = some o → (∀ e, e ∈ o.after → Region.binds .any e = true → S e.on) → ∀ k, k ∈ acc.getD i [] → S k) →
   ∀ i o, all[i]? = some o → (∀ e, e ∈ o.after → Region.binds .any e = true → S e.on) → ∀ k, k ∈ (ancL l acc).getD i [] → S k
 | [], acc, pre, hall, hlen, h, i, o, ho, hp, k, hk => by
  have hi : i < all.length := (List.getElem?_eq_some_iff.1 ho).1
  simp only [List.append_nil] at hall
  exact h i o (by rw [hlen, ← hall]; exact hi) ho hp k hk
 | x :: l, acc, pre, hall, hlen, h, i, o, ho, hp, k, hk => by
  refine anc_mem hcl l _ (pre ++ [x]) (by simp [hall]) (by simp [hlen]) (fun i' o' hi' ho' hp' k' hk' => ?_) i o ho hp k hk
  by_cases q : i' < acc.length
  ·refine h i' o' q ho' hp' k' ?_
   simpa [List.getD, List.getElem?_append_left q] using hk'
  ·have hi2 : i' = acc.length := by simp at hi'; omega
   subst hi2
   have hx : o' = x := by rw [hall, hlen] at ho'; simpa using ho'.symm
   subst hx
   simp only [List.getD, List.getElem?_append_right (Nat.le_refl _), Nat.sub_self, List.getElem?_cons_zero, Option.getD_some, List.mem_flatMap] at hk'
   obtain ⟨e, he, hk2⟩ := hk'
   split at hk2
   ·rename_i hb
    have hS := hp' e (by simpa using he) hb
    rcases List.mem_cons.1 hk2 with rfl | hk3
    ·exact hS
    ·have hlt : e.on < acc.length := by
      rcases Nat.lt_or_ge e.on acc.length with h1 | h1
      ·exact h1
      ·simp [List.getElem?_eq_none h1] at hk3
     have hlt2 : e.on < all.length := by rw [hall]; simp; omega
     exact h e.on _ hlt (List.getElem?_eq_getElem hlt2) (hcl e.on _ hS (List.getElem?_eq_getElem hlt2)) k' hk3
   ·simp at hk2
theorem St.ext3 {a b : St} (h1 : a.n = b.n) (h2 : ∀ t, a.tm t = b.tm t) (h3 : ∀ m, a.hp m = b.hp m) : a = b := by
 obtain ⟨n, tm, hp⟩ := a; obtain ⟨n', tm', hp'⟩ := b
 simp only at h1 h2 h3
 subst h1
 rw [funext h2, funext h3]
def unl : List Bool → Nat
 | [] => 0
 | true :: l => unl l
 | false :: l => unl l + 1
theorem unl_set : ∀ (l : List Bool) (i : Nat), l[i]? = some false → unl (l.set i true) + 1 = unl l
 | [], _, h => by simp at h
 | x :: l, 0, h => by simp at h; subst h; rfl
 | x :: l, i + 1, h => by
  have := unl_set l i (by simpa using h)
  cases x <;> simp [unl, this]
theorem unl_zero : ∀ (l : List Bool), unl l = 0 → ∀ (i : Nat) x, l[i]? = some x → x = true
 | [], _, i, x, h => by simp at h
 | b :: l, hz, i, x, h => by
  cases b with
  | false => simp [unl] at hz
  | true =>
   cases i with
   | zero => simpa using h.symm
   | succ i => exact unl_zero l hz i x (by simpa using h)
end Go.Abs
