/- The abstract layer, part 30: lists whose rows hold a list of the call's own each. The i-th row's list has the name (a, i + b). -/
import Derived.Test.YtcdpmfnjajjlkaaDoorAbsA29
namespace Go.Abs
open Go

/-- Rows by names: f tells a row's cells by the name of the list that it holds. -/
def nr {α : Type} (a : Nat) (f : Nm → α → List V) : Nat → List α → List (List V)
  | _, [] => []
  | b, x :: l => f (a, b) x :: nr a f (b + 1) l
/-- The rows' lists. -/
def fam (a : Nat) : Nat → List Entry → Hp
  | _, [] => []
  | b, E :: l => ((a, b), some E) :: fam a (b + 1) l
def famN (a : Nat) : Nat → Nat → List Nm
  | _, 0 => []
  | b, k + 1 => (a, b) :: famN a (b + 1) k

section
variable {α : Type} {a : Nat} {f : Nm → α → List V}
theorem nr_len : ∀ (l : List α) (b : Nat), (nr a f b l).length = l.length
  | [], _ => rfl
  | _ :: l, b => by simp [nr, nr_len l (b + 1)]
theorem nr_get : ∀ {l : List α} {b i : Nat} {x : α}, l[i]? = some x → (nr a f b l)[i]? = some (f (a, i + b) x)
  | [], _, _, _, h => by simp at h
  | y :: l, b, 0, x, h => by simp only [List.getElem?_cons_zero, Option.some.injEq] at h; subst h; simp [nr]
  | y :: l, b, i + 1, x, h => by
    have := nr_get (l := l) (b := b + 1) (i := i) (x := x) (by simpa using h)
    rw [nr, List.getElem?_cons_succ, this, show i + (b + 1) = i + 1 + b by omega]
theorem nr_inv {l : List α} {b i : Nat} {r : List V} (h : (nr a f b l)[i]? = some r) : ∃ x, l[i]? = some x ∧ r = f (a, i + b) x := by
  have hi : i < l.length := by have := (List.getElem?_eq_some_iff.1 h).1; rwa [nr_len] at this
  have := nr_get (a := a) (f := f) (b := b) (List.getElem?_eq_getElem hi)
  rw [h] at this
  exact ⟨_, List.getElem?_eq_getElem hi, Option.some.inj this⟩
theorem nr_set {l : List α} {b i : Nat} {y : α} {r : List V} (hr : r = f (a, i + b) y) : (nr a f b l).set i r = nr a f b (l.set i y) := by
  apply List.ext_getElem?
  intro j
  by_cases hj : j < l.length
  · by_cases e : j = i
    · subst e
      rw [List.getElem?_set_self (by rw [nr_len]; exact hj), nr_get (x := y) (by rw [List.getElem?_set_self hj]), hr]
    · rw [List.getElem?_set_ne (Ne.symm e), nr_get (List.getElem?_eq_getElem hj), nr_get (x := l[j]) (by rw [List.getElem?_set_ne (Ne.symm e)]; exact List.getElem?_eq_getElem hj)]
  · rw [List.getElem?_eq_none (by rw [List.length_set, nr_len]; omega), List.getElem?_eq_none (by rw [nr_len, List.length_set]; omega)]
theorem nr_rowsZ {z : Nat} (h : ∀ m x, (f m x).length = z) {l : List α} {b : Nat} : ∀ r, r ∈ nr a f b l → r.length = z := fun r hr => by
  obtain ⟨i, hi⟩ := List.getElem?_of_mem hr
  obtain ⟨x, -, rfl⟩ := nr_inv hi
  exact h _ _
end
section
variable {a : Nat}
theorem fam_lk : ∀ {Es : List Entry} {b i : Nat} {E : Entry} {H : Hp}, Es[i]? = some E → lkH (fam a b Es ++ H) (a, i + b) = some (some E)
  | [], _, _, _, _, h => by simp at h
  | E' :: Es, b, 0, E, H, h => by
    simp only [List.getElem?_cons_zero, Option.some.injEq] at h; subst h
    rw [fam, List.cons_append, lkH_cons, if_pos (by simp)]
  | E' :: Es, b, i + 1, E, H, h => by
    rw [fam, List.cons_append, lkH_cons, if_neg (by simp), show i + 1 + b = i + (b + 1) by omega]
    exact fam_lk (by simpa using h)
theorem fam_skip : ∀ {Es : List Entry} {b : Nat} {m : Nm} {H : Hp}, (∀ i, i < Es.length → m ≠ (a, i + b)) → lkH (fam a b Es ++ H) m = lkH H m
  | [], _, _, _, _ => rfl
  | E' :: Es, b, m, H, h => by
    rw [fam, List.cons_append, lkH_cons, if_neg (by have := h 0 (by simp); simpa using this)]
    exact fam_skip fun i hi => by have := h (i + 1) (by simpa using hi); rwa [show i + 1 + b = i + (b + 1) by omega] at this
theorem fam_cases {Es : List Entry} {b : Nat} (m : Nm) : (∃ i E, Es[i]? = some E ∧ m = (a, i + b)) ∨ (∀ i, i < Es.length → m ≠ (a, i + b)) := by
  by_cases h : m.1 = a ∧ b ≤ m.2 ∧ m.2 < b + Es.length
  · left
    have hi : m.2 - b < Es.length := by omega
    exact ⟨m.2 - b, Es[m.2 - b], List.getElem?_eq_getElem hi, Prod.ext h.1 (by show m.2 = m.2 - b + b; omega)⟩
  · right
    rintro i hi rfl
    exact h ⟨rfl, by show b ≤ i + b; omega, by show i + b < b + Es.length; omega⟩
theorem famN_iff : ∀ {k b : Nat} {m : Nm}, m ∈ famN a b k ↔ ∃ i, i < k ∧ m = (a, i + b)
  | 0, b, m => by simp [famN]
  | k + 1, b, m => by
    rw [famN, List.mem_cons, famN_iff (k := k) (b := b + 1)]
    constructor
    · rintro (rfl | ⟨i, hi, rfl⟩)
      · exact ⟨0, by omega, by simp⟩
      · exact ⟨i + 1, by omega, by rw [show i + (b + 1) = i + 1 + b by omega]⟩
    · rintro ⟨i, hi, rfl⟩
      cases i with
      | zero => left; simp
      | succ i => right; exact ⟨i, by omega, by rw [show i + (b + 1) = i + 1 + b by omega]⟩
end

/-! #### lending -/
/-- A list of such rows is lent, with the rows' lists. -/
theorem lendN {α : Type} {H : Hp} {ns kb : List Nm} {nm : Nm} {a b : Nat} {f : Nm → α → List V} {f0 : α → List V} {g : α → Entry} {l : List α} {e : TypeId} {z len : Nat} {s mi : Bool} (hn : lkH H nm = some (some ⟨e, z, nr a f b l, s, mi⟩)) (hk : nm ∈ kb) (hle : len = l.length)
    (hf : ∀ i x, l[i]? = some x → (a, i + b) ∈ kb ∧ lkH H (a, i + b) = some (some (g x))) (hr : ∀ m x, m ∈ kb → lkH H m = some (some (g x)) → ArgsR H ns kb (f m x) (f0 x)) (h0 : ∀ x, (f0 x).all (·.free) = true) (hz : ∀ x, (f0 x).length = z) :
    ArgRel (lkH H) ns kb (.ref nm 0 len) (.lst z (l.map f0)) := by
  have key : ∀ i j y, cellAt (l.map f0) i j = some y → ∃ x u, l[i]? = some x ∧ (f0 x)[j]? = some y ∧ (f (a, i + b) x)[j]? = some u ∧ ArgRel (lkH H) ns kb u y := fun i j y hy => by
    unfold cellAt at hy
    rw [List.getElem?_map] at hy
    cases hx : l[i]? with
    | none => simp [hx] at hy
    | some x =>
      simp only [hx, Option.map_some, Option.bind_some] at hy
      obtain ⟨h1, h2⟩ := hf i x hx
      have h3 := hr _ x h1 h2
      have hlt : j < (f (a, i + b) x).length := by rw [h3.len]; exact (List.getElem?_eq_some_iff.1 hy).1
      exact ⟨x, _, rfl, hy, List.getElem?_eq_getElem hlt, h3.get j _ y (List.getElem?_eq_getElem hlt) hy⟩
  refine .refLst (E := ⟨e, z, nr a f b l, s, mi⟩) hn hk (by simp only [nr_len]; omega) (by rw [List.length_map, hle]) (rowsZ_map hz) (fun i j => (cellAt (nr a f b l) i j).getD .undef) (fun i j y hy => ?_) (fun i j y hy => ?_) (fun i j y hy => ?_)
  · obtain ⟨x, u, h1, -, h3, -⟩ := key i j y hy
    have : cellAt (nr a f b l) i j = some u := by unfold cellAt; rw [nr_get h1]; exact h3
    simp only [Nat.zero_add, this, Option.getD_some]
  · obtain ⟨x, u, h1, -, h3, h4⟩ := key i j y hy
    have : cellAt (nr a f b l) i j = some u := by unfold cellAt; rw [nr_get h1]; exact h3
    simp only [this, Option.getD_some]; exact h4
  · obtain ⟨x, u, -, h2, -, -⟩ := key i j y hy
    exact List.all_eq_true.1 (h0 x) y (List.mem_of_getElem? h2)

/-! #### states re-read, with one family of names -/
/-- The place of a name in a family. -/
def inFam (a b k : Nat) (m : Nm) : Bool := match Nat.beq m.1 a with
  | false => false
  | true => match Nat.ble b m.2 with
    | false => false
    | true => Nat.blt m.2 (b + k)
theorem inFam_iff {a b k : Nat} {m : Nm} : inFam a b k m = true ↔ ∃ i, i < k ∧ m = (a, i + b) := by
  unfold inFam
  cases h1 : Nat.beq m.1 a with
  | false =>
    simp only [Bool.false_eq_true, false_iff]
    rintro ⟨i, hi, rfl⟩
    exact Nat.ne_of_beq_eq_false h1 rfl
  | true =>
    have e1 := Nat.eq_of_beq_eq_true h1
    cases h2 : Nat.ble b m.2 with
    | false =>
      simp only [Bool.false_eq_true, false_iff]
      rintro ⟨i, hi, rfl⟩
      have : Nat.ble b (i + b) = true := Nat.ble_eq_true_of_le (Nat.le_add_left ..)
      rw [this] at h2; cases h2
    | true =>
      have h3 := Nat.le_of_ble_eq_true h2
      simp only [Nat.blt_eq]
      constructor
      · intro h; exact ⟨m.2 - b, by omega, Prod.ext e1 (by show m.2 = m.2 - b + b; omega)⟩
      · rintro ⟨i, hi, rfl⟩; show i + b < b + k; omega
def srcF (l : List Item) (a b k : Nat) (s : Nat → Option Nm) (m : Nm) : Option Nm := match inFam a b k m with | true => s (m.2 - b) | false => itSrc l m
def nF (l : List Item) (a b : Nat) (Es : List Entry) (s : Nat → Option Nm) (m : Nm) : Option Nat := match inFam a b Es.length m with
  | true => (match s (m.2 - b) with | none => (Es[m.2 - b]?).map (·.z) | some _ => none)
  | false => itN l m
theorem srcF_at {l : List Item} {a b k : Nat} {s : Nat → Option Nm} {i : Nat} (h : i < k) : srcF l a b k s (a, i + b) = s i := by
  unfold srcF; rw [inFam_iff.2 ⟨i, h, rfl⟩]; simp
theorem nF_at {l : List Item} {a b : Nat} {Es : List Entry} {s : Nat → Option Nm} {i : Nat} {E : Entry} (h : Es[i]? = some E) (hs : s i = none) : nF l a b Es s (a, i + b) = some E.z := by
  unfold nF; rw [inFam_iff.2 ⟨i, (List.getElem?_eq_some_iff.1 h).1, rfl⟩]; simp [hs, h]

/-- What is owed for a family's member. -/
def FamX (H : Hp) (src : Nm → Option Nm) (D : List Nm) (N : Nm → Option Nat) (E' : Entry) : Option Nm → Prop
  | none => E'.rows = []
  | some m => m ∉ D ∧ ∃ E, lkH H m = some (some E) ∧ E'.e = E.e ∧ E'.z = E.z ∧ E'.str = E.str ∧ (E'.mine = true → E.mine = true) ∧ RowsCv (lkH H) src D N E.rows E'.rows ∧ ∀ r, r ∈ E'.rows → r.length = E'.z

structure FamOk (H : Hp) (l : List Item) (D : List Nm) (a b : Nat) (Es : List Entry) (s : Nat → Option Nm) : Prop where
  ok : ∀ i E', Es[i]? = some E' → FamX H (srcF l a b Es.length s) D (nF l a b Es s) E' (s i)
  inj : ∀ i j m, i < Es.length → j < Es.length → s i = some m → s j = some m → i = j
  apart : ∀ i m, i < Es.length → s i = some m → ∀ q, q ∈ l → q.2.2 ≠ some m
  out : (l.all fun q => !inFam a b Es.length q.1) = true
  base : ∀ j, lkH H (1000, j) ≠ none → srcF l a b Es.length s (1000, j) = some (1000, j)

theorem re_fam {n : Nat} {T : Tm} {H : Hp} {l : List Item} {D : List Nm} {a b : Nat} {Es : List Entry} {s : Nat → Option Nm} (hl : itemsX H (srcF l a b Es.length s) D (nF l a b Es s) l) (hD : dropsOk H D) (ha : itApart l = true) (hf : FamOk H l D a b Es s)
    {hp' : Heap} (hh : hp' = lkH (fam a b Es ++ itH l)) : Re (mkT n T H) hp' (srcF l a b Es.length s) D (nF l a b Es s) := by
  subst hh
  have hsk : ∀ k, inFam a b Es.length k = false → lkH (fam a b Es ++ itH l) k = lkH (itH l) k := fun k hk => fam_skip fun i hi e => by
    rw [inFam_iff.2 ⟨i, hi, e⟩] at hk; cases hk
  have hit : ∀ k E m, (k, E, some m) ∈ l → inFam a b Es.length k = false := fun k E m hm => by
    have := List.all_eq_true.1 hf.out _ hm
    simpa using this
  refine ⟨fun k hk => dropsOk_mem hD hk, fun k m h => ?_, fun k E' h => ?_, fun k k' E E' m h1 h2 h3 h4 => ?_, fun k h => ?_, fun i h => hf.base i h⟩
  · unfold srcF at h
    unfold nF
    cases hk : inFam a b Es.length k with
    | true => rw [hk] at h; simp only at h ⊢; rw [h]
    | false => rw [hk] at h; exact itBoth h
  · cases hk : inFam a b Es.length k with
    | true =>
      obtain ⟨i, hi, rfl⟩ := inFam_iff.1 hk
      rw [fam_lk (List.getElem?_eq_getElem hi)] at h
      simp only [Option.some.injEq] at h
      have hg : Es[i]? = some E' := by rw [List.getElem?_eq_getElem hi, h]
      have hx := hf.ok i E' hg
      cases hs : s i with
      | none => rw [hs] at hx; exact .inl ⟨nF_at hg hs, hx⟩
      | some m =>
        rw [hs] at hx
        obtain ⟨h0, E, g1, g2, g3, g4, g5, ⟨g6, g7⟩, g8⟩ := hx
        exact .inr ⟨m, E, (srcF_at hi).trans hs, g1, h0, g2, g3, g4, g5, g6, g8, g7⟩
    | false =>
      rw [hsk k hk] at h
      have e1 : srcF l a b Es.length s k = itSrc l k := by unfold srcF; rw [hk]
      have e2 : nF l a b Es s k = itN l k := by unfold nF; rw [hk]
      rw [e1, e2]
      rcases itH_some h with ⟨-, h2, h3⟩ | ⟨m, h1, h2⟩
      · exact .inl ⟨h2, itemsX_mem hl h3⟩
      · obtain ⟨hd, E, g1, g2, g3, g4, g5, ⟨g6, g7⟩, g8⟩ := itemsX_mem hl h2
        refine .inr ⟨m, E, h1, g1, fun hm => ?_, g2, g3, g4, g5, g6, g8, g7⟩
        have : D.any (nmEq m) = true := List.any_eq_true.2 ⟨m, hm, nmEq_iff.2 rfl⟩
        rw [this] at hd; cases hd
  · cases hk : inFam a b Es.length k <;> cases hk' : inFam a b Es.length k'
    · unfold srcF at h3 h4
      rw [hk] at h3; rw [hk'] at h4
      exact itApart_inj ha h3 h4
    · exfalso
      obtain ⟨i, hi, rfl⟩ := inFam_iff.1 hk'
      rw [srcF_at hi] at h4
      unfold srcF at h3
      rw [hk] at h3
      obtain ⟨E0, hm⟩ := itSrc_of h3
      exact hf.apart i m hi h4 _ hm rfl
    · exfalso
      obtain ⟨i, hi, rfl⟩ := inFam_iff.1 hk
      rw [srcF_at hi] at h3
      unfold srcF at h4
      rw [hk'] at h4
      obtain ⟨E0, hm⟩ := itSrc_of h4
      exact hf.apart i m hi h3 _ hm rfl
    · obtain ⟨i, hi, rfl⟩ := inFam_iff.1 hk
      obtain ⟨j, hj, rfl⟩ := inFam_iff.1 hk'
      rw [srcF_at hi] at h3
      rw [srcF_at hj] at h4
      rw [hf.inj i j m hi hj h3 h4]
  · cases hk : inFam a b Es.length k with
    | true =>
      obtain ⟨i, hi, rfl⟩ := inFam_iff.1 hk
      rw [fam_lk (List.getElem?_eq_getElem hi)] at h; cases h
    | false =>
      rw [hsk k hk] at h
      have := itH_none h
      unfold srcF nF; rw [hk]; exact this

def cvF (H : Hp) (src : Nm → Option Nm) (D : List Nm) (N : Nm → Option Nat) (T : Tm) : Tm → Prop
  | [] => True
  | (t, v) :: T' => Cv (lkH H) src D N (lkT T t) v ∧ cvF H src D N T T'
theorem cvF_all {H : Hp} {src : Nm → Option Nm} {D : List Nm} {N : Nm → Option Nat} {T T' : Tm} (h : cvF H src D N T T') (t : Nat) : Cv (lkH H) src D N (lkT T t) (lkT T' t) := by
  induction T' with
  | nil => exact .undef
  | cons p T' ih =>
    obtain ⟨t', v⟩ := p
    rw [lkT_cons]
    split
    · rename_i q; subst q; exact h.1
    · exact ih h.2
/-- A state with a family is read anew. -/
theorem entF {n : Nat} {T T' : Tm} {H : Hp} (l : List Item) (D : List Nm) (a b : Nat) (Es : List Entry) (s : Nat → Option Nm) (hl : itemsX H (srcF l a b Es.length s) D (nF l a b Es s) l) (hD : dropsOk H D) (ha : itApart l = true) (hf : FamOk H l D a b Es s)
    {H' : Hp} (hH : lkH H' = lkH (fam a b Es ++ itH l)) (hT : cvF H (srcF l a b Es.length s) D (nF l a b Es s) T T') : Ent (mkT n T H) (mkT n T' H') :=
  Ent.mk rfl (re_fam hl hD ha hf (by rw [mkT_hp, hH])) (cvF_all hT)

/-- The rows of a list of such rows, read anew. -/
theorem rowsCv_nr {α : Type} {hp : Heap} {src : Nm → Option Nm} {D : List Nm} {N : Nm → Option Nat} {a b : Nat} {f : Nm → α → List V} {l : List α} {rows : List (List V)} (hl : l.length ≤ rows.length)
    (h : ∀ i x, l[i]? = some x → ∃ r, rows[i]? = some r ∧ CvL hp src D N r (f (a, i + b) x)) : RowsCv hp src D N rows (nr a f b l) :=
  ⟨by rw [nr_len]; exact hl, fun i j y hy => by
    unfold cellAt at hy
    cases hr : (nr a f b l)[i]? with
    | none => simp [hr] at hy
    | some r =>
      obtain ⟨x, hx, rfl⟩ := nr_inv hr
      simp only [hr, Option.bind_some] at hy
      obtain ⟨r, h1, h2⟩ := h i x hx
      obtain ⟨u, h3, h4⟩ := h2.get j y hy
      exact ⟨u, by unfold cellAt; rw [h1]; exact h3, h4⟩⟩

/-- The end of a function, its result told by what it owns. -/
def EndG (P : Program) (rs : List ResultVar) (x : V) (own : List (Nat × Entry)) (outs : List Entry) (st : St) : Prop :=
  ∃ xs, ResVs P st rs xs ∧ ∃ src D N, Re st (addOwns 2000 own (argHp outs)) src D N ∧ Cv st.hp src D N (resOne xs) x
theorem runs_ofG {P : Program} {f : FuncId} {fn : Func} {c : Code} {args : List V} {ins : List Entry} {x : V} {own : List (Nat × Entry)} {outs : List Entry} {rs : List ResultVar} (hf : P.funcs[f]? = some fn) (hb : fn.body = some c) (hres : fn.results = rs.toArray)
    (hn : args.length ≤ fn.ntmps) (hlen : outs.length = ins.length)
    (h : Tri P c (fun e st => match e with | .normal => EndG P rs x own outs st | .ret => EndG P rs x own outs st | _ => False) ⟨fn.ntmps, fun t => args.getD t .undef, argHp ins⟩) : RunsG P f args ins x own outs := by
  intro w argv φ F hs
  have hsz : argv.size = args.length := hs.slots
  refine calls_of_wp hf hb ?_
  have hs1 : Sat w ⟨Mset (argHp ins) φ, φ⟩ F ⟨fn.ntmps, fun t => args.getD t .undef, argHp ins⟩ (argv ++ Array.replicate (fn.ntmps - argv.size) undef) w φ F := by
    refine { hs with slots := by simp; omega, rep := fun t => ?_ }
    by_cases ht : t < argv.size
    · have := hs.rep t
      have e : (argv ++ Array.replicate (fn.ntmps - argv.size) undef).getD t undef = argv.getD t undef := by simp [Array.getElem?_append, ht]
      rw [e]; exact this
    · have e : args.getD t .undef = .undef := by simp [List.getD, List.getElem?_eq_none (show args.length ≤ t by omega)]
      show Rep w F φ (args.getD t .undef) _
      rw [e]; exact .undef
  refine wp_mono (h w ⟨Mset (argHp ins) φ, φ⟩ F { tmps := argv ++ Array.replicate (fn.ntmps - argv.size) undef, defers := [] } w φ F hs1 rfl) fun e a' w' hq => ?_
  have fin : ∀ {st' : St} {φ' : Env} {F' : Nat → Prop}, EndG P rs x own outs st' → Sat w ⟨Mset (argHp ins) φ, φ⟩ F st' a'.tmps w' φ' F' → a'.defers = [] →
      a'.defers = [] ∧ ∃ v, (results fn a'.tmps).run P w' = .ok v w' ∧ ∃ u φ' F', (Ending.returned v) = .returned u ∧ Sat w ⟨Mset (argHp ins) φ, φ⟩ F ⟨1, fun t => if t = 0 then x else .undef, addOwns 2000 own (argHp outs)⟩ #[u] w' φ' F' ∧ outs.length = ins.length := fun {st' φ' F'} he hs' hd => by
    obtain ⟨xs, hxs, src, D, N, h1, h2⟩ := he
    obtain ⟨vs, g1, g2, g3⟩ := resVs_run hs' hxs
    have hrun : (results fn a'.tmps).run P w' = .ok (oneOf vs) w' := by
      have e : results fn a'.tmps = (do
          let vs ← rs.toArray.mapM (readRes a'.tmps)
          pure (if h : vs.size = 1 then vs[0] else .tuple vs)) := by
        unfold results
        rw [hres]
        congr 1
      rw [e]
      simp only [List.mapM_toArray, Sem.run_bind, Sem.run_map, g1, Result.andThen_ok, Sem.run_pure]
      congr 1
      cases vs with
      | nil => simp [oneOf]
      | cons v vs => cases vs <;> simp [oneOf]
    refine ⟨hd, _, hrun, _, reEnv φ' src N, reF st'.hp φ' F' D, rfl, ?_, hlen⟩
    refine hs'.re (st' := ⟨1, fun t => if t = 0 then x else .undef, addOwns 2000 own (argHp outs)⟩) h1 rfl (fun t => ?_)
    show Rep w' _ _ (if t = 0 then x else .undef) _
    split
    · rename_i ht
      subst ht
      show Rep w' _ _ x (oneOf vs)
      refine cv_rep hs' h1.new h2 _ ?_
      cases vs with
      | nil =>
        have : xs = [] := List.eq_nil_of_length_eq_zero g2.symm
        subst this
        exact .tup (xs := []) (vs := []) rfl (fun i x v hx => by simp at hx)
      | cons t ts =>
        cases ts with
        | nil =>
          obtain ⟨x, rfl⟩ := List.length_eq_one_iff.1 g2.symm
          exact g3 0 x t rfl rfl
        | cons t' ts =>
          cases xs with
          | nil => simp at g2
          | cons x xs =>
            cases xs with
            | nil => simp at g2
            | cons x' xs => exact Rep.tup (xs := x :: x' :: xs) (vs := t :: t' :: ts) g2.symm g3
    · exact .undef
  cases e with
  | normal => obtain ⟨st', φ', F', h1, h2, h3⟩ := hq; exact fin h1 h2 h3
  | ret => obtain ⟨st', φ', F', h1, h2, h3⟩ := hq; exact fin h1 h2 h3
  | exit id => obtain ⟨st', φ', F', h1, h2, h3⟩ := hq; exact h1.elim
  | goto l => obtain ⟨st', φ', F', h1, h2, h3⟩ := hq; exact h1.elim
  | panic c => exact hq.elim
  | outgrown => exact hq.elim
theorem runsG {P : Program} {f : FuncId} {fn : Func} {c : Code} {args : List V} {ins : List Entry} {x : V} {own : List (Nat × Entry)} {outs : List Entry} (rs : List ResultVar) (hf : P.funcs[f]? = some fn) (hb : fn.body = some c) (hres : fn.results = rs.toArray)
    (hn : Nat.ble args.length fn.ntmps = true) (hlen : outs.length = ins.length)
    (h : Tri P c (fun e st => match e with | .normal => EndG P rs x own outs st | .ret => EndG P rs x own outs st | _ => False) (mkT fn.ntmps (argT 0 args) (outsL 0 ins))) : RunsG P f args ins x own outs :=
  runs_ofG hf hb hres (Nat.le_of_ble_eq_true hn) hlen (by rw [start_eq]; exact h)
end Go.Abs
