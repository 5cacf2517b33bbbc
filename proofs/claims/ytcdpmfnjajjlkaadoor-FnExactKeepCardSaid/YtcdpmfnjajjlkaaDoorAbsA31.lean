/- The abstract layer, part 31: calls with lists whose rows hold lists of the call's own. -/
import Derived.Test.YtcdpmfnjajjlkaaDoorAbsA30
namespace Go.Abs
open Go

def famO : Nat → List Entry → List (Nat × Entry)
  | _, [] => []
  | b, E :: l => (b, E) :: famO (b + 1) l
theorem famO_map (d : Nat) : ∀ (Es : List Entry) (b : Nat), (famO b Es).map (fun q => ((d, q.1), some q.2)) = fam d b Es
  | [], _ => rfl
  | E :: Es, b => by rw [famO, fam, List.map_cons, famO_map d Es (b + 1)]
theorem famO_at : ∀ {Es : List Entry} {b i : Nat} {E : Entry}, Es[i]? = some E → (famO b Es).lookup (i + b) = some E
  | [], _, _, _, h => by simp at h
  | E' :: Es, b, 0, E, h => by simp only [List.getElem?_cons_zero, Option.some.injEq] at h; subst h; simp [famO]
  | E' :: Es, b, i + 1, E, h => by
    have : (i + 1 + b == b) = false := by simp
    rw [famO, List.lookup_cons, this, show i + 1 + b = i + (b + 1) by omega]
    exact famO_at (by simpa using h)
theorem famO_inv : ∀ {Es : List Entry} {b q : Nat} {E : Entry}, (famO b Es).lookup q = some E → ∃ i, q = i + b ∧ Es[i]? = some E
  | [], _, _, _, h => by simp [famO] at h
  | E' :: Es, b, q, E, h => by
    rw [famO, List.lookup_cons] at h
    split at h
    · rename_i hb
      have : q = b := by simpa using hb
      cases h
      exact ⟨0, by omega, rfl⟩
    · obtain ⟨i, h1, h2⟩ := famO_inv h
      exact ⟨i + 1, by omega, by simpa using h2⟩
theorem famO_mem {Es : List Entry} {b q : Nat} {E : Entry} (h : (q, E) ∈ famO b Es) : ∃ i, i < Es.length ∧ q = i + b := by
  obtain ⟨E', h'⟩ := mem_lookup h
  obtain ⟨i, h1, h2⟩ := famO_inv h'
  exact ⟨i, (List.getElem?_eq_some_iff.1 h2).1, h1⟩

abbrev isSc (x : V) : Prop := ∃ u, x = .sc u ∨ x = .nils

inductive RetL (d : Nat) (ns : List Nm) (own : List (Nat × Entry)) (p : V → Prop) : List V → List V → Prop where
  | nil : RetL d ns own p [] []
  | cons {x y : V} {xs ys : List V} (h : RetRel d ns own p x y) (t : RetL d ns own p xs ys) : RetL d ns own p (x :: xs) (y :: ys)
section
variable {d : Nat} {ns : List Nm} {own : List (Nat × Entry)} {p : V → Prop}
theorem RetL.len {xs ys : List V} (h : RetL d ns own p xs ys) : xs.length = ys.length := by
  induction h with
  | nil => rfl
  | cons _ _ ih => simp [ih]
theorem RetL.get {xs ys : List V} (h : RetL d ns own p xs ys) : ∀ (i : Nat) x y, xs[i]? = some x → ys[i]? = some y → RetRel d ns own p x y := by
  induction h with
  | nil => intro i x y hx; simp at hx
  | cons h _ ih =>
    intro i x y hx hy
    cases i with
    | zero => simp at hx hy; subst hx hy; exact h
    | succ i => exact ih i x y (by simpa using hx) (by simpa using hy)
theorem RetL.agg {xs ys : List V} (h : RetL d ns own p xs ys) : RetRel d ns own p (.agg xs) (.agg ys) := .agg h.len h.get
theorem retSc {u : Value} : RetRel d ns own isSc (.sc u) (.sc u) := .keep ⟨u, .inl rfl⟩
/-- A list of scalars comes back as it is. -/
theorem outSame {E : Entry} {m : Bool} (h : AllSc E.rows) (hz : ∀ r, r ∈ E.rows → r.length = E.z) : OutRel d ns own isSc { E with mine := m } E :=
  ⟨rfl, rfl, rfl, rfl, hz, fun i j y hy => ⟨y, hy, .keep (h i j y hy)⟩⟩
/-- A list of rows with lists comes back: its rows' lists have names of the caller's now. -/
theorem outRows {α : Type} {e : TypeId} {z : Nat} {a a' b b' : Nat} {f : Nm → α → List V} {l : List α} {s m m' : Bool} (hz : ∀ n x, (f n x).length = z) (hf : ∀ i x, l[i]? = some x → RetL d ns own p (f (a, i + b) x) (f (a', i + b') x)) :
    OutRel d ns own p ⟨e, z, nr a f b l, s, m⟩ ⟨e, z, nr a' f b' l, s, m'⟩ :=
  ⟨rfl, rfl, rfl, by simp only [nr_len], nr_rowsZ hz, fun i j y hy => by
    unfold cellAt at hy
    cases hr : (nr a' f b' l)[i]? with
    | none => simp [hr] at hy
    | some r =>
      obtain ⟨x, hx, rfl⟩ := nr_inv hr
      simp only [hr, Option.bind_some] at hy
      have h1 := hf i x hx
      have hlt : j < (f (a, i + b) x).length := by rw [h1.len]; exact (List.getElem?_eq_some_iff.1 hy).1
      exact ⟨_, by unfold cellAt; rw [nr_get hx]; exact List.getElem?_eq_getElem hlt, h1.get j _ y (List.getElem?_eq_getElem hlt) hy⟩⟩

/-- What is owned, entry by entry. -/
inductive OwnsR (d : Nat) (ns : List Nm) (own : List (Nat × Entry)) (p : V → Prop) : List (Nat × Entry) → List (Nat × Entry) → Prop where
  | nil : OwnsR d ns own p [] []
  | cons {q : Nat} {E E' : Entry} {os os' : List (Nat × Entry)} (h : OutRel d ns own p E E') (hm : E'.mine = true → E.mine = true) (t : OwnsR d ns own p os os') : OwnsR d ns own p ((q, E) :: os) ((q, E') :: os')
theorem OwnsR.lookup {os os' : List (Nat × Entry)} (h : OwnsR d ns own p os os') (q : Nat) : (os'.lookup q = none ∧ os.lookup q = none) ∨ ∃ E E', os'.lookup q = some E' ∧ os.lookup q = some E ∧ OutRel d ns own p E E' ∧ (E'.mine = true → E.mine = true) := by
  induction h with
  | nil => exact .inl ⟨rfl, rfl⟩
  | @cons q' E E' os os' h hm t ih =>
    rw [List.lookup_cons, List.lookup_cons]
    cases hb : q == q' with
    | true => exact .inr ⟨E, E', rfl, rfl, h, hm⟩
    | false => exact ih
end
theorem owns_rel {d : Nat} {ns : List Nm} {os os' : List (Nat × Entry)} {b : Nat} {Es : List Entry} (h : OwnsR d ns (os' ++ famO b Es) isSc os os') (hs : ∀ E, E ∈ Es → AllSc E.rows ∧ ∀ r, r ∈ E.rows → r.length = E.z) :
    ∀ q E', (os' ++ famO b Es).lookup q = some E' → ∃ E, (os ++ famO b Es).lookup q = some E ∧ OutRel d ns (os' ++ famO b Es) isSc E E' ∧ (E'.mine = true → E.mine = true) := fun q E' hq => by
  rw [List.lookup_append] at hq ⊢
  rcases h.lookup q with ⟨h1, h2⟩ | ⟨E, E1, h1, h2, h3, h4⟩
  · rw [h1, Option.none_or] at hq
    rw [h2, Option.none_or]
    obtain ⟨i, -, hi⟩ := famO_inv hq
    obtain ⟨h5, h6⟩ := hs E' (List.mem_of_getElem? hi)
    exact ⟨E', hq, outSame (m := E'.mine) h5 h6, fun h => h⟩
  · rw [h1, Option.some_or] at hq
    cases hq
    exact ⟨E, by rw [h2, Option.some_or], h3, h4⟩
theorem owns_at {os' : List (Nat × Entry)} {b i : Nat} {Es : List Entry} (h : i < Es.length) : ((os' ++ famO b Es).lookup (i + b)).isSome = true := by
  rw [List.lookup_append, famO_at (List.getElem?_eq_getElem h)]
  cases os'.lookup (i + b) <;> rfl

/-- A family stands behind what is there already. -/
theorem lk_comm {d b : Nat} {Es : List Entry} : ∀ {H R : Hp}, (∀ i, i < Es.length → lkH (H ++ R) (d, i + b) = none) → lkH (H ++ (fam d b Es ++ R)) = lkH (fam d b Es ++ (H ++ R)) := fun {H R} h => by
  have key : ∀ (H : Hp) (m : Nm), (∀ i, i < Es.length → m ≠ (d, i + b)) → lkH (H ++ (fam d b Es ++ R)) m = lkH (H ++ R) m := fun H m hm => by
    induction H with
    | nil => exact fam_skip hm
    | cons p H ih => obtain ⟨k, e⟩ := p; rw [List.cons_append, List.cons_append, lkH_cons, lkH_cons, ih]
  have key2 : ∀ (H : Hp) (m : Nm), lkH (H ++ R) m = none → lkH (H ++ (fam d b Es ++ R)) m = lkH (fam d b Es ++ R) m := fun H m hm => by
    induction H with
    | nil => rfl
    | cons p H ih =>
      obtain ⟨k, e⟩ := p
      rw [List.cons_append, lkH_cons] at hm ⊢
      split at hm
      · cases hm
      · rename_i hne; rw [if_neg hne]; exact ih hm
  funext m
  rcases fam_cases (a := d) (b := b) (Es := Es) m with ⟨i, E, hi, rfl⟩ | hm
  · have hlt := (List.getElem?_eq_some_iff.1 hi).1
    rw [key2 H _ (h i hlt), fam_lk hi, fam_lk hi]
  · rw [key H m hm, fam_skip hm]
theorem famNo {a b : Nat} {Es : List Entry} {H : Hp} {m : Nm} (h : inFam a b Es.length m = false) (t : lkH H m = none) : lkH (fam a b Es ++ H) m = none := by
  rw [fam_skip fun i hi e => by rw [inFam_iff.2 ⟨i, hi, e⟩] at h; cases h]; exact t
theorem famTo {a b : Nat} {Es : List Entry} {H : Hp} {m : Nm} {x : Option (Option Entry)} (h : inFam a b Es.length m = false) (t : lkH H m = x) : lkH (fam a b Es ++ H) m = x := by
  rw [fam_skip fun i hi e => by rw [inFam_iff.2 ⟨i, hi, e⟩] at h; cases h]; exact t

section
variable {P : Program} {n : Nat} {T : Tm} {H : Hp} {o : Oper} {ops : Array Oper} {K : Lg → St → Prop} {rest : List Oper} {d : Nat}
theorem mkT_eqH {n : Nat} {T : Tm} {H H' : Hp} (h : lkH H = lkH H') : mkT n T H = mkT n T H' := by unfold mkT; rw [h]

/-- A call whose result owns a list of rows with lists. -/
theorem s_callR {fop : Operand} {args : Array Operand} {tys : Array TypeId} {f : FuncId} {caps xs cargs : List V} {x y : V} {os os' : List (Nat × Entry)} {b : Nat} {Es : List Entry} {kb : List Nm} {H' : Hp}
    (ho : o.op = .call { callee := .value fop, args := args, argTypes := tys }) (hf : (mkT n T H).ev fop = .fn f caps) (hc : callable P f = true) (hrun : RunsG P f cargs [] x (os ++ famO b Es) [])
    (hx : args.toList.map (mkT n T H).ev ++ caps = xs) (hrel : ArgsR H [] kb xs cargs) (hos : OwnsR d [] (os' ++ famO b Es) isSc os os') (hEs : ∀ E, E ∈ Es → AllSc E.rows ∧ ∀ r, r ∈ E.rows → r.length = E.z) (hr : RetRel d [] (os' ++ famO b Es) isSc x y)
    (hab : ∀ q E, (q, E) ∈ os' → lkH H (d, q) = none) (habF : ∀ i, i < Es.length → lkH H (d, i + b) = none)
    (hH : lkH H' = lkH (os'.map (fun q => ((d, q.1), some q.2)) ++ (fam d b Es ++ H)))
    (hd : o.dst = some d) (hn : Nat.blt d n = true) (hg : wantA ops (mkT n T H) o = some true) (h : RegT P ops (kp K kb []) rest (mkT n ((d, y) :: T) H')) : RegT P ops K (o :: rest) (mkT n T H) := by
  have hcb : CallByG P (mkT n T H) o d y (os' ++ famO b Es) [] [] kb [] := ⟨fop, args, tys, f, caps, cargs, [], [], x, os ++ famO b Es, isSc, ho, hf, hc, hrun, rfl, rfl, .nil, (fun i m hm => by simp at hm), (fun _ _ h => by cases h), (by rw [hx]; exact hrel.len), (by rw [hx]; exact hrel.get),
    (fun q E hq => (List.mem_append.1 hq).elim (hab q E) (fun h => by obtain ⟨i, h1, rfl⟩ := famO_mem h; exact habF i h1)), hr, owns_rel hos hEs, (fun i E' h => by simp at h), .inr ⟨rfl, fun _ h => h⟩⟩
  refine rt_step (StepE.callG hd hcb) hg (by rw [hd]; exact decide_eq_true (by simpa [mkT, Nat.blt_eq] using hn)) ?_
  have e : retHpG (mkT n T H).hp [] [] [] d (os' ++ famO b Es) = lkH H' := by
    unfold retHpG
    rw [mkT_hp, killAll_lkH, setOuts_lkH, addOwns_lkH, hH]
    simp only [List.map_nil, List.nil_append, outsH, List.map_append, famO_map, List.append_assoc]
  rw [hd, e, mkT_put]
  exact h

/-- How lists are handed over to be written. -/
inductive InsL (H : Hp) (ns kb : List Nm) : List Nm → List Entry → Prop where
  | nil : InsL H ns kb [] []
  | cons {m : Nm} {E' E : Entry} {ms : List Nm} {Es : List Entry} (hl : lkH H m = some (some E')) (h : InsRel (lkH H) ns kb E' E) (t : InsL H ns kb ms Es) : InsL H ns kb (m :: ms) (E :: Es)
theorem InsL.len {ns kb ms : List Nm} {Es : List Entry} (h : InsL H ns kb ms Es) : Es.length = ms.length := by
  induction h with
  | nil => rfl
  | cons _ _ _ ih => simp [ih]
theorem InsL.get {ns kb ms : List Nm} {Es : List Entry} (h : InsL H ns kb ms Es) : ∀ (i : Nat) m, ms[i]? = some m → ∃ E' E, lkH H m = some (some E') ∧ Es[i]? = some E ∧ InsRel (lkH H) ns kb E' E := by
  induction h with
  | nil => intro i m hm; simp at hm
  | @cons m E' E ms Es hl h _ ih =>
    intro i k hk
    cases i with
    | zero => simp only [List.getElem?_cons_zero, Option.some.injEq] at hk; subst hk; exact ⟨E', E, hl, rfl, h⟩
    | succ i => simpa using ih i k (by simpa using hk)
theorem insFlat {hp : Heap} {ns kb : List Nm} {e : TypeId} {z : Nat} {rows : List (List V)} {s m : Bool} (hf : AllFree rows) (hz : ∀ r, r ∈ rows → r.length = z) : InsRel hp ns kb ⟨e, z, rows, s, m⟩ ⟨e, z, rows, s, false⟩ :=
  ⟨rfl, rfl, rfl, rfl, rfl, hz, fun i j y hy => ⟨y, hy, .free (hf i j y hy)⟩⟩
theorem insRows {α : Type} {ns kb : List Nm} {e : TypeId} {z : Nat} {a a' b b' : Nat} {f : Nm → α → List V} {l : List α} {s m : Bool} (hz : ∀ n x, (f n x).length = z) (hf : ∀ i x, l[i]? = some x → ArgsR H ns kb (f (a, i + b) x) (f (a', i + b') x)) :
    InsRel (lkH H) ns kb ⟨e, z, nr a f b l, s, m⟩ ⟨e, z, nr a' f b' l, s, false⟩ :=
  ⟨rfl, rfl, rfl, rfl, by simp only [nr_len], nr_rowsZ hz, fun i j y hy => by
    unfold cellAt at hy
    cases hr : (nr a' f b' l)[i]? with
    | none => simp [hr] at hy
    | some r =>
      obtain ⟨x, hx, rfl⟩ := nr_inv hr
      simp only [hr, Option.bind_some] at hy
      have h1 := hf i x hx
      have hlt : j < (f (a, i + b) x).length := by rw [h1.len]; exact (List.getElem?_eq_some_iff.1 hy).1
      exact ⟨_, by unfold cellAt; rw [nr_get hx]; exact List.getElem?_eq_getElem hlt, h1.get j _ y (List.getElem?_eq_getElem hlt) hy⟩⟩
theorem famN_get : ∀ {k a b i : Nat}, i < k → (famN a b k)[i]? = some (a, i + b)
  | 0, _, _, _, h => by omega
  | k + 1, a, b, 0, _ => by simp [famN]
  | k + 1, a, b, i + 1, h => by rw [famN, List.getElem?_cons_succ, famN_get (by omega), show i + (b + 1) = i + 1 + b by omega]
theorem famN_len : ∀ (k a b : Nat), (famN a b k).length = k
  | 0, _, _ => rfl
  | k + 1, a, b => by simp [famN, famN_len k]
theorem famN_nodup : ∀ (k a b : Nat), (famN a b k).Nodup
  | 0, _, _ => .nil
  | k + 1, a, b => by
    rw [famN, List.nodup_cons]
    refine ⟨fun h => ?_, famN_nodup k a (b + 1)⟩
    obtain ⟨i, -, h2⟩ := famN_iff.1 h
    simp only [Prod.mk.injEq, true_and] at h2; omega
theorem lits_get {ms : List Nm} {k a b i c : Nat} (hc : ms.length = c) (h : i < k) : (ms ++ famN a b k)[i + c]? = some (a, i + b) := by
  rw [List.getElem?_append_right (by omega), show i + c - ms.length = i by omega]; exact famN_get h
def litsOk (ms : List Nm) (a b k : Nat) : Bool := match ms with
  | [] => true
  | m :: ms => (!ms.any (nmEq m) && !inFam a b k m) && litsOk ms a b k
theorem lits_nodup {a b k : Nat} : ∀ {ms : List Nm}, litsOk ms a b k = true → (ms ++ famN a b k).Nodup
  | [], _ => famN_nodup k a b
  | m :: ms, h => by
    simp only [litsOk, Bool.and_eq_true, Bool.not_eq_true'] at h
    rw [List.cons_append, List.nodup_cons]
    refine ⟨fun hm => ?_, lits_nodup h.2⟩
    rcases List.mem_append.1 hm with h1 | h1
    · have := List.any_eq_true.2 ⟨m, h1, nmEq_iff.2 (rfl : m = m)⟩
      rw [this] at h; cases h.1.1
    · rw [inFam_iff.2 (famN_iff.1 h1)] at h; cases h.1.2
theorem lits_not {ms : List Nm} {a b k : Nat} {m : Nm} (h1 : (ms.any (nmEq m)) = false) (h2 : inFam a b k m = false) : m ∉ ms ++ famN a b k := fun hm => by
  rcases List.mem_append.1 hm with h | h
  · rw [List.any_eq_true.2 ⟨m, h, nmEq_iff.2 rfl⟩] at h1; cases h1
  · rw [inFam_iff.2 (famN_iff.1 h)] at h2; cases h2
theorem lk_outsH {ns : List Nm} {Es : List Entry} {H : Hp} {m : Nm} {x : Option (Option Entry)} (h : m ∉ ns) (t : lkH H m = x) : lkH (outsH ns Es H) m = x := by
  rw [← setOuts_lkH, setOuts_other h, t]
theorem insL_fam {ns kb : List Nm} {a b : Nat} : ∀ {Es Es' : List Entry} {c : Nat}, (∀ i E, Es[i]? = some E → ∃ E', lkH H (a, i + c) = some (some E') ∧ InsRel (lkH H) ns kb E' E) → b = c → InsL H ns kb (famN a b Es.length) Es
  | [], _, _, _, _ => .nil
  | E :: Es, Es', c, h, e => by
    subst e
    obtain ⟨E', h1, h2⟩ := h 0 E rfl
    refine .cons (by simpa using h1) h2 (insL_fam (Es' := Es') (c := b + 1) (fun i E hi => ?_) rfl)
    obtain ⟨E', h3, h4⟩ := h (i + 1) E (by simpa using hi)
    exact ⟨E', by rw [show i + (b + 1) = i + 1 + b by omega]; exact h3, h4⟩
theorem InsL.app {ns kb ms ms' : List Nm} {Es Es' : List Entry} (h : InsL H ns kb ms Es) (k : InsL H ns kb ms' Es') : InsL H ns kb (ms ++ ms') (Es ++ Es') := by
  induction h with
  | nil => exact k
  | cons hl hr _ ih => exact .cons hl hr ih

/-- A call that writes a list of rows with lists, and these lists; its result is a scalar. -/
theorem s_callI {fop : Operand} {args : Array Operand} {tys : Array TypeId} {f : FuncId} {caps xs cargs : List V} {r : V} {ins outs outs' : List Entry} {ns : List Nm}
    (ho : o.op = .call { callee := .value fop, args := args, argTypes := tys }) (hf : (mkT n T H).ev fop = .fn f caps) (hc : callable P f = true) (hrun : RunsG P f cargs ins r [] outs)
    (hx : args.toList.map (mkT n T H).ev ++ caps = xs) (hrel : ArgsR H ns [] xs cargs) (hins : InsL H ns [] ns ins) (hnd : ns.Nodup) (hr : isScN r = true) (hol : outs'.length = outs.length)
    (hou : ∀ (i : Nat) E', outs'[i]? = some E' → ∃ E, outs[i]? = some E ∧ OutRel d ns [] isSc E E')
    (hd : o.dst = some d) (hn : Nat.blt d n = true) (hg : wantA ops (mkT n T H) o = some true) (h : RegT P ops (kp K (ns ++ []) (ns ++ [])) rest (mkT n ((d, r) :: T) (outsH ns outs' H))) : RegT P ops K (o :: rest) (mkT n T H) := by
  have hcb : CallByG P (mkT n T H) o d r [] ns [] [] outs' := ⟨fop, args, tys, f, caps, cargs, ins, outs, r, [], isSc, ho, hf, hc, hrun, hins.len, hol, hnd, hins.get, (fun _ h => by cases h), (by rw [hx]; exact hrel.len), (by rw [hx]; exact hrel.get),
    (fun q E hq => by cases hq), .keep (isScN_iff hr), (fun q E h => by simp at h), hou, .inr ⟨rfl, fun _ h => h⟩⟩
  refine rt_step (StepE.callG hd hcb) hg (by rw [hd]; exact decide_eq_true (by simpa [mkT, Nat.blt_eq] using hn)) ?_
  have e : retHpG (mkT n T H).hp ns [] outs' d [] = lkH (outsH ns outs' H) := by
    unfold retHpG
    rw [mkT_hp, killAll_lkH, setOuts_lkH, addOwns_lkH]
    simp only [List.map_nil, List.nil_append]
  rw [hd, e, mkT_put]
  exact h
end
end Go.Abs
