import Derived.Test.YtcdpmfnjajjlkaaDoorAbsA37
/- The abstract layer, part 34: lists whose rows hold a list each, in loops: zero rows, a row set anew from lists of other names, a row's own list written. -/
namespace Go.Abs
open Go

section
variable {α : Type} {n : Nat} {T T' : Tm} {H : Hp} {dn c : Nm} {e : TypeId} {z a b : Nat} {f : Nm → α → List V} {g : α → Entry} {l : List α} {i : Nat} {x : α} {s mi : Bool} {rows : List (List V)}

theorem rowZ_nils {zs : List Value} {row : List V} (t : RowZ zs row) : RowZ (.slice none 0 0 :: zs) (.nils :: row) := ⟨by simp [t.1], fun j v hv => by
  cases j with
  | zero => simp only [List.getElem?_cons_zero, Option.some.injEq] at hv; subst hv; exact ⟨.nils, rfl, fun _ _ _ => .nils⟩
  | succ j => simpa using t.2 j v (by simpa using hv)⟩

theorem lkNo {k m : Nm} {e : Option Entry} {H : Hp} (h : nmEq m k = false) (t : lkH H m = none) : lkH ((k, e) :: H) m = none := by simp only [lkH, h]; exact t
theorem lkTo {k m : Nm} {e : Option Entry} {H : Hp} {x : Option (Option Entry)} (h : nmEq m k = false) (t : lkH H m = x) : lkH ((k, e) :: H) m = x := by simp only [lkH, h]; exact t
theorem hab1 {H : Hp} {d q : Nat} {E : Entry} (h : lkH H (d, q) = none) : ([(q, E)].all fun q => (lkH H (d, q.1)).isNone) = true := by simp [h]

theorem lk_head {E : Entry} {Es : List Entry} (hdn : ∀ k, inFam a b k dn = false) : lkH ((dn, some E) :: (fam a b Es ++ [])) = lkH (fam a b Es ++ itH [(dn, E, some dn)]) := by
  have := lk_comm (d := a) (b := b) (Es := Es) (H := [(dn, some E)]) (R := []) (fun i hi => by
    rw [List.append_nil, lkH_cons, if_neg (fun q => by
      have h1 := hdn Es.length
      rw [← q, inFam_iff.2 ⟨i, hi, rfl⟩] at h1; cases h1)]
    rfl)
  simpa [itH] using this

theorem nest_ent {E : Entry} {Es : List Entry} {S : Nat → Option Nm} (hdn : ∀ k, inFam a b k dn = false)
    (hi : ItemX H (srcF [(dn, E, some dn)] a b Es.length S) [] (nF [(dn, E, some dn)] a b Es S) (dn, E, some dn)) (hf : FamOk H [(dn, E, some dn)] [] a b Es S)
    (hT : cvF H (srcF [(dn, E, some dn)] a b Es.length S) [] (nF [(dn, E, some dn)] a b Es S) T T') : Ent (mkT n T H) (mkT n T' ((dn, some E) :: (fam a b Es ++ []))) :=
  entF [(dn, E, some dn)] [] a b Es S ⟨hi, trivial⟩ trivial rfl hf (lk_head hdn) hT

/-- Zero rows: their lists are empty. -/
theorem nest_zero {zr : List V} {x0 : α} {k : Nat} (hE : lkH H dn = some (some ⟨e, z, rows, s, mi⟩)) (hr : rows = (List.replicate k ()).map (fun _ => zr)) (hz : ∀ m x, (f m x).length = z)
    (hzr : ∀ {src : Nm → Option Nm} {D : List Nm} {N : Nm → Option Nat} {m : Nm} {w : Nat}, N m = some w → CvL (lkH H) src D N zr (f m x0)) (hg : (g x0).rows = []) (hdn : ∀ k, inFam a b k dn = false) (hb : ∀ j, lkH H (1000, j) = none)
    (hT : cvF H (srcF [(dn, ⟨e, z, nr a f b (List.replicate k x0), s, mi⟩, some dn)] a b ((List.replicate k x0).map g).length (fun _ => none)) [] (nF [(dn, ⟨e, z, nr a f b (List.replicate k x0), s, mi⟩, some dn)] a b ((List.replicate k x0).map g) (fun _ => none)) T T') :
    Ent (mkT n T H) (mkT n T' ((dn, some ⟨e, z, nr a f b (List.replicate k x0), s, mi⟩) :: (fam a b ((List.replicate k x0).map g) ++ []))) := by
  have hrep : ∀ {i : Nat} {x : α}, (List.replicate k x0)[i]? = some x → i < k ∧ x = x0 := fun {i x} hx => by
    rw [List.getElem?_replicate] at hx
    split at hx
    · rename_i h; exact ⟨h, (Option.some.inj hx).symm⟩
    · cases hx
  refine nest_ent hdn ⟨rfl, _, hE, rfl, rfl, rfl, id, rowsCv_nr ?_ (fun i x hx => ?_), nr_rowsZ hz⟩ ⟨fun i E' hE' => ?_, fun i j m _ _ h => (by cases h), fun i m _ h => (by cases h), ?_, fun j h => absurd (hb j) h⟩ hT
  · subst hr; simp
  · obtain ⟨h1, rfl⟩ := hrep hx
    refine ⟨zr, by subst hr; simp [h1], hzr (w := (g x).z) (nF_at (E := g x) ?_ rfl)⟩
    rw [List.getElem?_map, hx]; rfl
  · show E'.rows = []
    rw [List.getElem?_map] at hE'
    obtain ⟨y, hy, rfl⟩ := Option.map_eq_some_iff.1 hE'
    rw [(hrep hy).2]; exact hg
  · simp [hdn]

theorem set_cases {j : Nat} {y : α} (h : (l.set i x)[j]? = some y) : (j = i ∧ y = x ∧ i < l.length) ∨ (j ≠ i ∧ l[j]? = some y) := by
  by_cases e : j = i
  · subst e
    by_cases hi : j < l.length
    · rw [List.getElem?_set_self hi] at h; exact .inl ⟨rfl, (Option.some.inj h).symm, hi⟩
    · rw [List.getElem?_eq_none (by rw [List.length_set]; omega)] at h; cases h
  · rw [List.getElem?_set_ne (Ne.symm e)] at h; exact .inr ⟨e, h⟩

/-- A row is set, from a row whose list has another name. -/
theorem nest_set (hE : lkH H dn = some (some ⟨e, z, rows, s, mi⟩)) (hrows : rows = (nr a f b l).set i (f c x)) (hc : lkH H c = some (some (g x))) (hf : ∀ j y, l[j]? = some y → lkH H (a, j + b) = some (some (g y))) (hz : ∀ m x, (f m x).length = z)
    (hcv : ∀ {src : Nm → Option Nm} {D : List Nm} {N : Nm → Option Nat} {m m' : Nm} (x : α), src m' = some m → CvL (lkH H) src D N (f m x) (f m' x)) (hgf : ∀ x, AllFree (g x).rows) (hgz : ∀ x r, r ∈ (g x).rows → r.length = (g x).z)
    (hdn : ∀ k, inFam a b k dn = false) (hca : Nat.beq c.1 a = false) (hcd : nmEq dn c = false) (hb : ∀ j, lkH H (1000, j) = none)
    (hT : cvF H (srcF [(dn, ⟨e, z, nr a f b (l.set i x), s, mi⟩, some dn)] a b ((l.set i x).map g).length (fun j => if j = i then some c else some (a, j + b))) [] (nF [(dn, ⟨e, z, nr a f b (l.set i x), s, mi⟩, some dn)] a b ((l.set i x).map g) (fun j => if j = i then some c else some (a, j + b))) T T') :
    Ent (mkT n T H) (mkT n T' ((dn, some ⟨e, z, nr a f b (l.set i x), s, mi⟩) :: (fam a b ((l.set i x).map g) ++ []))) := by
  have hne : ∀ j, c ≠ (a, j) := fun j q => Nat.ne_of_beq_eq_false hca (by rw [q])
  refine nest_ent hdn ⟨rfl, _, hE, rfl, rfl, rfl, id, rowsCv_nr ?_ (fun j y hy => ?_), nr_rowsZ hz⟩ ⟨fun j E' hE' => ?_, fun j j' m _ _ h3 h4 => ?_, fun j m hj h q hq => ?_, ?_, fun j h => absurd (hb j) h⟩ hT
  · subst hrows; simp [nr_len]
  · have hj : j < ((l.set i x).map g).length := by rw [List.length_map]; exact (List.getElem?_eq_some_iff.1 hy).1
    have hs := srcF_at (l := [(dn, (⟨e, z, nr a f b (l.set i x), s, mi⟩ : Entry), some dn)]) (a := a) (b := b) (s := fun j => if j = i then some c else some (a, j + b)) hj
    rcases set_cases hy with ⟨rfl, rfl, hi⟩ | ⟨hji, hy⟩
    · exact ⟨f c y, by subst hrows; rw [List.getElem?_set_self (by rw [nr_len]; exact hi)], hcv y (by rw [hs]; simp)⟩
    · exact ⟨f (a, j + b) y, by subst hrows; rw [List.getElem?_set_ne (Ne.symm hji), nr_get hy], hcv y (by rw [hs]; simp [hji])⟩
  · rw [List.getElem?_map] at hE'
    obtain ⟨y, hy, rfl⟩ := Option.map_eq_some_iff.1 hE'
    rcases set_cases hy with ⟨rfl, rfl, hi⟩ | ⟨hji, hy⟩
    · simp only [if_true]
      exact ⟨by simp, g y, hc, rfl, rfl, rfl, id, rowsCv_eq rfl (hgf y), hgz y⟩
    · simp only [hji, if_false]
      exact ⟨by simp, g y, hf j y hy, rfl, rfl, rfl, id, rowsCv_eq rfl (hgf y), hgz y⟩
  · by_cases e1 : j = i <;> by_cases e2 : j' = i
    · omega
    · simp only [e1, e2, if_true, if_false, Option.some.injEq] at h3 h4
      exact absurd (h3.trans h4.symm) (hne _)
    · simp only [e1, e2, if_true, if_false, Option.some.injEq] at h3 h4
      exact absurd (h4.trans h3.symm) (hne _)
    · simp only [e1, e2, if_false, Option.some.injEq] at h3 h4
      have := h3.trans h4.symm
      simp only [Prod.mk.injEq, true_and] at this; omega
  · rw [List.mem_singleton] at hq
    subst hq
    intro q
    have q : dn = m := Option.some.inj q
    subst q
    by_cases e1 : j = i
    · simp only [e1, if_true, Option.some.injEq] at h
      rw [nmEq_iff.2 h.symm] at hcd; cases hcd
    · simp only [e1, if_false, Option.some.injEq] at h
      have h1 := hdn ((l.set i x).map g).length
      rw [← h, inFam_iff.2 ⟨j, hj, rfl⟩] at h1; cases h1
  · simp [hdn]

/-- A row is written, its list under its own name: what the caller handed over. -/
theorem nest_keep (hE : lkH H dn = some (some ⟨e, z, rows, s, mi⟩)) (hrows : rows = nr a f b l) (hf : ∀ j y, l[j]? = some y → lkH H (a, j + b) = some (some (g y))) (hz : ∀ m x, (f m x).length = z)
    (hcv : ∀ {src : Nm → Option Nm} {D : List Nm} {N : Nm → Option Nat} {m m' : Nm} (x : α), src m' = some m → CvL (lkH H) src D N (f m x) (f m' x)) (hgf : ∀ x, AllFree (g x).rows) (hgz : ∀ x r, r ∈ (g x).rows → r.length = (g x).z)
    (hdn : ∀ k, inFam a b k dn = false) (hb : ∀ j, lkH H (1000, j) ≠ none → (1000, j) = dn ∨ ∃ i, i < l.length ∧ (1000, j) = (a, i + b))
    (hT : cvF H (srcF [(dn, ⟨e, z, nr a f b l, s, mi⟩, some dn)] a b (l.map g).length (fun j => some (a, j + b))) [] (nF [(dn, ⟨e, z, nr a f b l, s, mi⟩, some dn)] a b (l.map g) (fun j => some (a, j + b))) T T') :
    Ent (mkT n T H) (mkT n T' ((dn, some ⟨e, z, nr a f b l, s, mi⟩) :: (fam a b (l.map g) ++ []))) := by
  refine nest_ent hdn ⟨rfl, _, hE, rfl, rfl, rfl, id, rowsCv_nr ?_ (fun j y hy => ?_), nr_rowsZ hz⟩ ⟨fun j E' hE' => ?_, fun j j' m _ _ h3 h4 => ?_, fun j m hj h q hq => ?_, ?_, fun j h => ?_⟩ hT
  · subst hrows; simp [nr_len]
  · have hj : j < (l.map g).length := by rw [List.length_map]; exact (List.getElem?_eq_some_iff.1 hy).1
    have hs := srcF_at (l := [(dn, (⟨e, z, nr a f b l, s, mi⟩ : Entry), some dn)]) (a := a) (b := b) (s := fun j => some (a, j + b)) hj
    exact ⟨f (a, j + b) y, by subst hrows; rw [nr_get hy], hcv y hs⟩
  · rw [List.getElem?_map] at hE'
    obtain ⟨y, hy, rfl⟩ := Option.map_eq_some_iff.1 hE'
    exact ⟨by simp, g y, hf j y hy, rfl, rfl, rfl, id, rowsCv_eq rfl (hgf y), hgz y⟩
  · have := (Option.some.inj h3).trans (Option.some.inj h4).symm
    simp only [Prod.mk.injEq, true_and] at this; omega
  · rw [List.mem_singleton] at hq
    subst hq
    intro q
    have q : dn = m := Option.some.inj q
    have h : (a, j + b) = m := Option.some.inj h
    have h1 := hdn (l.map g).length
    rw [q, ← h, inFam_iff.2 ⟨j, hj, rfl⟩] at h1; cases h1
  · simp [hdn]
  · rcases hb j h with h1 | ⟨i, hi, h1⟩
    · rw [h1]
      unfold srcF
      rw [hdn]
      simp only [itSrc]
      rw [nmEq_iff.2 rfl]
    · rw [h1]; exact srcF_at (by rw [List.length_map]; exact hi)

theorem lk_headT {k : Nm} {E : Entry} {Es : List Entry} {a b : Nat} (hk : ∀ q, inFam a b q k = false) : lkH ((k, some E) :: (fam a b Es ++ [])) = lkH (fam a b Es ++ [(k, some E)]) := by
  have := lk_comm (d := a) (b := b) (Es := Es) (H := [(k, some E)]) (R := []) (fun i hi => by
    rw [List.append_nil, lkH_cons, if_neg (fun q => by
      have h1 := hk Es.length
      rw [← q, inFam_iff.2 ⟨i, hi, rfl⟩] at h1; cases h1)]
    rfl)
  simpa using this

/-- The end of a function that answers such a list. -/
theorem nest_endS {P : Program} {rs : List ResultVar} (hE : lkH H dn = some (some ⟨e, z, nr a f b l, s, true⟩)) (hf : ∀ j y, l[j]? = some y → lkH H (a, j + b) = some (some (g y))) (hz : ∀ m x, (f m x).length = z)
    (hcv : ∀ {src : Nm → Option Nm} {D : List Nm} {N : Nm → Option Nat} {m m' : Nm} (x : α), src m' = some m → CvL (lkH H) src D N (f m x) (f m' x)) (hgf : ∀ x, AllFree (g x).rows) (hgz : ∀ x r, r ∈ (g x).rows → r.length = (g x).z)
    (hdn : ∀ k, inFam a b k dn = false) (hb : ∀ j, lkH H (1000, j) = none) (hx : ResVs P (mkT n T H) rs [.ref dn 0 l.length]) :
    EndG P rs (.ref (2000, 0) 0 l.length) ((0, ⟨e, z, nr 2000 f 10000 l, s, true⟩) :: famO 10000 (l.map g)) [] (mkT n T H) := by
  have hS : ∀ j, j < l.length → srcF [((2000, 0), (⟨e, z, nr 2000 f 10000 l, s, true⟩ : Entry), some dn)] 2000 10000 (l.map g).length (fun j => some (a, j + b)) (2000, j + 10000) = some (a, j + b) := fun j hj => srcF_at (by rw [List.length_map]; exact hj)
  refine ⟨_, hx, srcF [((2000, 0), (⟨e, z, nr 2000 f 10000 l, s, true⟩ : Entry), some dn)] 2000 10000 (l.map g).length (fun j => some (a, j + b)), [], nF [((2000, 0), (⟨e, z, nr 2000 f 10000 l, s, true⟩ : Entry), some dn)] 2000 10000 (l.map g) (fun j => some (a, j + b)), ?_, ?_⟩
  · refine re_fam (l := [((2000, 0), (⟨e, z, nr 2000 f 10000 l, s, true⟩ : Entry), some dn)]) (D := []) (a := 2000) (b := 10000) (Es := l.map g) (s := fun j => some (a, j + b)) ⟨⟨rfl, _, hE, rfl, rfl, rfl, id, rowsCv_nr ?_ (fun j y hy => ?_), nr_rowsZ hz⟩, trivial⟩ trivial rfl ⟨fun j E' hE' => ?_, fun j j' m _ _ h3 h4 => ?_, fun j m hj h q hq => ?_, rfl, fun j h => absurd (hb j) h⟩ ?_
    · simp [nr_len]
    · exact ⟨f (a, j + b) y, nr_get hy, hcv y (hS j (List.getElem?_eq_some_iff.1 hy).1)⟩
    · rw [List.getElem?_map] at hE'
      obtain ⟨y, hy, rfl⟩ := Option.map_eq_some_iff.1 hE'
      exact ⟨by simp, g y, hf j y hy, rfl, rfl, rfl, id, rowsCv_eq rfl (hgf y), hgz y⟩
    · have := (Option.some.inj h3).trans (Option.some.inj h4).symm
      simp only [Prod.mk.injEq, true_and] at this; omega
    · rw [List.mem_singleton] at hq
      subst hq
      intro q
      have q : dn = m := Option.some.inj q
      have h : (a, j + b) = m := Option.some.inj h
      rw [List.length_map] at hj
      have h1 := hdn l.length
      rw [q, ← h, inFam_iff.2 ⟨j, hj, rfl⟩] at h1; cases h1
    · show addOwns 2000 ((0, _) :: famO 10000 (l.map g)) (argHp []) = _
      have e0 : argHp [] = lkH [] := by funext m; unfold argHp; simp [lkH]
      rw [e0, addOwns_lkH, List.map_cons, famO_map]
      exact lk_headT (k := (2000, 0)) (fun _ => rfl)
  · exact .ref rfl
end
end Go.Abs
/- The abstract layer, part 35: calls and ends of functions that hand on a list whose rows hold a list each. -/
namespace Go.Abs
open Go

section
variable {α : Type} {n : Nat} {T T' : Tm} {H : Hp} {e : TypeId} {z a b a' b' : Nat} {f : Nm → α → List V} {g : α → Entry} {l : List α}

theorem rowsCv_fam {items : List Item} {D : List Nm} {N : Nm → Option Nat} (hcv : ∀ {src : Nm → Option Nm} {D : List Nm} {N : Nm → Option Nat} {m m' : Nm} (x : α), src m' = some m → CvL (lkH H) src D N (f m x) (f m' x)) :
    RowsCv (lkH H) (srcF items a' b' (l.map g).length (fun j => some (a, j + b))) D N (nr a f b l) (nr a' f b' l) :=
  rowsCv_nr (by rw [nr_len]; exact Nat.le_refl _) fun j y hy => ⟨f (a, j + b) y, nr_get hy, hcv y (srcF_at (by rw [List.length_map]; exact (List.getElem?_eq_some_iff.1 hy).1))⟩

def inFamAll (a b : Nat) (m : Nm) : Bool := match Nat.beq m.1 a with | true => Nat.ble b m.2 | false => false
def srcApart (a b : Nat) (l : List Item) : Bool := l.all fun q => match q.2.2 with | some m => !inFamAll a b m | none => true
theorem srcApart_of {items : List Item} (h : srcApart a b items = true) {j : Nat} {q : Item} (hq : q ∈ items) : q.2.2 ≠ some (a, j + b) := fun hs => by
  have := List.all_eq_true.1 h q hq
  rw [hs] at this
  have h1 : inFamAll a b (a, j + b) = true := by
    unfold inFamAll
    simp only [Nat.beq_refl]
    exact Nat.ble_eq_true_of_le (Nat.le_add_left ..)
  simp [h1] at this

theorem nest_end {P : Program} {rs : List ResultVar} {x : V} {xs : List V} (items : List Item) (own0 : List (Nat × Entry)) (hx : ResVs P (mkT n T H) rs xs)
    (hi : itemsX H (srcF items 2000 10000 (l.map g).length (fun j => some (a, j + b))) [] (nF items 2000 10000 (l.map g) (fun j => some (a, j + b))) items) (hap : itApart items = true) (hsa : srcApart a b items = true)
    (hno : ∀ i, lkH (itH items) (2000, i + 10000) = none) (hout : (items.all fun q => !inFam 2000 10000 (l.map g).length q.1) = true) (hf : ∀ j y, l[j]? = some y → lkH H (a, j + b) = some (some (g y))) (hgf : ∀ x, AllFree (g x).rows) (hgz : ∀ x r, r ∈ (g x).rows → r.length = (g x).z)
    (hb : ∀ j, lkH H (1000, j) = none) (hh : own0.map (fun q => ((2000, q.1), some q.2)) = itH items)
    (hv : Cv (lkH H) (srcF items 2000 10000 (l.map g).length (fun j => some (a, j + b))) [] (nF items 2000 10000 (l.map g) (fun j => some (a, j + b))) (resOne xs) x) :
    EndG P rs x (own0 ++ famO 10000 (l.map g)) [] (mkT n T H) := by
  refine ⟨_, hx, srcF items 2000 10000 (l.map g).length (fun j => some (a, j + b)), [], nF items 2000 10000 (l.map g) (fun j => some (a, j + b)), ?_, hv⟩
  refine re_fam hi trivial hap ⟨fun j E' hE' => ?_, fun j j' m _ _ h3 h4 => ?_, fun j m hj h q hq => ?_, hout, fun j h => absurd (hb j) h⟩ ?_
  · rw [List.getElem?_map] at hE'
    obtain ⟨y, hy, rfl⟩ := Option.map_eq_some_iff.1 hE'
    exact ⟨by simp, g y, hf j y hy, rfl, rfl, rfl, id, rowsCv_eq rfl (hgf y), hgz y⟩
  · have := (Option.some.inj h3).trans (Option.some.inj h4).symm
    simp only [Prod.mk.injEq, true_and] at this; omega
  · have h : (a, j + b) = m := Option.some.inj h
    rw [← h]; exact srcApart_of hsa hq
  · show addOwns 2000 (own0 ++ famO 10000 (l.map g)) (argHp []) = _
    have e0 : argHp [] = lkH [] := by funext m; unfold argHp; simp [lkH]
    rw [e0, addOwns_lkH, List.map_append, famO_map, hh, List.append_assoc]
    have := lk_comm (d := 2000) (b := 10000) (Es := l.map g) (H := itH items) (R := []) (fun i _ => by rw [List.append_nil]; exact hno i)
    rw [this, List.append_nil]
end

section
variable {P : Program} {n : Nat} {T : Tm} {H : Hp} {o : Oper} {ops : Array Oper} {K : Lg → St → Prop} {rest : List Oper} {d : Nat}
/-- A call whose result owns a list of rows with lists: the rows' lists stand behind all else. -/
theorem s_callRt {α : Type} {g : α → Entry} {l : List α} {fop : Operand} {args : Array Operand} {tys : Array TypeId} {f : FuncId} {caps xs cargs : List V} {x y : V} {os os' : List (Nat × Entry)} {b : Nat} {kb : List Nm}
    (ho : o.op = .call { callee := .value fop, args := args, argTypes := tys }) (hf : (mkT n T H).ev fop = .fn f caps) (hc : callable P f = true) (hrun : RunsG P f cargs [] x (os ++ famO b (l.map g)) [])
    (hx : args.toList.map (mkT n T H).ev ++ caps = xs) (hrel : ArgsR H [] kb xs cargs) (hos : OwnsR d [] (os' ++ famO b (l.map g)) isSc os os') (hgs : ∀ x, AllSc (g x).rows) (hgz : ∀ x r, r ∈ (g x).rows → r.length = (g x).z) (hr : RetRel d [] (os' ++ famO b (l.map g)) isSc x y)
    (hab : ∀ q E, (q, E) ∈ os' → lkH H (d, q) = none) (habF : ∀ i, lkH H (d, i + b) = none)
    (hd : o.dst = some d) (hn : Nat.blt d n = true) (hg : wantA ops (mkT n T H) o = some true) (h : RegT P ops (kp K kb []) rest (mkT n ((d, y) :: T) (os'.map (fun q => ((d, q.1), some q.2)) ++ (H ++ (fam d b (l.map g) ++ []))))) : RegT P ops K (o :: rest) (mkT n T H) := by
  refine s_callR ho hf hc hrun hx hrel hos (fun E hE => ?_) hr hab (fun i _ => habF i) ?_ hd hn hg h
  · obtain ⟨x, -, rfl⟩ := List.mem_map.1 hE
    exact ⟨hgs x, hgz x⟩
  · have h1 := lk_comm (d := d) (b := b) (Es := l.map g) (H := H) (R := []) (fun i _ => by rw [List.append_nil]; exact habF i)
    rw [List.append_nil H] at h1
    funext m
    have : ∀ (A : Hp) {B C : Hp}, lkH B = lkH C → lkH (A ++ B) = lkH (A ++ C) := fun A {B C} hBC => by
      induction A with
      | nil => exact hBC
      | cons p A ih => obtain ⟨k, e⟩ := p; funext m; rw [List.cons_append, List.cons_append, lkH_cons, lkH_cons, ih]
    rw [this _ h1]
end
end Go.Abs
/- The abstract layer, part 36: functions that write a list whose rows hold a list each, handed over by their caller. -/
namespace Go.Abs
open Go

theorem lkAt {k : Nm} {e : Option Entry} {H : Hp} : lkH ((k, e) :: H) k = some e := by rw [lkH_cons, if_pos rfl]
theorem mine_of {H : Hp} {m : Nm} {E : Entry} (h : lkH H m = some (some E)) : mineOf (lkH H) m = E.mine := by unfold mineOf; rw [h]
theorem outsL_fam : ∀ (Es : List Entry) (i : Nat), outsL i Es = fam 1000 i Es
  | [], _ => rfl
  | E :: Es, i => by rw [outsL, fam, outsL_fam Es]
theorem outsL_app : ∀ (es Es : List Entry) (i : Nat), outsL i (es ++ Es) = outsL i es ++ outsL (i + es.length) Es
  | [], Es, i => rfl
  | E :: es, Es, i => by
    rw [List.cons_append, outsL, outsL, outsL_app es Es (i + 1), List.cons_append, List.length_cons, show i + 1 + es.length = i + (es.length + 1) by omega]
theorem nmEq_ne {a i j b : Nat} (h : i ≠ j) : nmEq (a, i + b) (a, j + b) = false := by
  cases hh : nmEq (a, i + b) (a, j + b) with
  | false => rfl
  | true => have := nmEq_iff.1 hh; simp only [Prod.mk.injEq, true_and] at this; omega

/-- The memory holds what the caller handed over, and no more of such names. -/
def OnlyP (H : Hp) (b k : Nat) : Prop := ∀ j, lkH H (1000, j) ≠ none → j < b ∨ ∃ i, i < k ∧ j = i + b
theorem only_fam {b : Nat} {Es : List Entry} : OnlyP (fam 1000 b Es ++ []) b Es.length := fun j h => by
  rcases fam_cases (a := 1000) (b := b) (Es := Es) (1000, j) with ⟨i, E, hi, e⟩ | hm
  · right
    simp only [Prod.mk.injEq, true_and] at e
    exact ⟨i, (List.getElem?_eq_some_iff.1 hi).1, e⟩
  · exact absurd (by rw [fam_skip hm]; rfl) h
theorem only_lit {b k c : Nat} {e : Option Entry} {H : Hp} (hc : c < b) (h : OnlyP H b k) : OnlyP (((1000, c), e) :: H) b k := fun j hj => by
  rw [lkH_cons] at hj
  split at hj
  · rename_i q; simp only [Prod.mk.injEq, true_and] at q; left; omega
  · exact h j hj
theorem only_mem {b k i : Nat} {e : Option Entry} {H : Hp} (hi : i < k) (h : OnlyP H b k) : OnlyP (((1000, i + b), e) :: H) b k := fun j hj => by
  rw [lkH_cons] at hj
  split at hj
  · rename_i q; simp only [Prod.mk.injEq, true_and] at q; exact .inr ⟨i, hi, q⟩
  · exact h j hj
theorem only_oth {b k a c : Nat} {e : Option Entry} {H : Hp} (ha : Nat.beq 1000 a = false) (h : OnlyP H b k) : OnlyP (((a, c), e) :: H) b k := fun j hj => by
  rw [lkH_cons] at hj
  split at hj
  · rename_i q; simp only [Prod.mk.injEq] at q; exact absurd q.1 (Nat.ne_of_beq_eq_false ha)
  · exact h j hj

section
variable {α : Type} {n : Nat} {T T' : Tm} {H : Hp} {e : TypeId} {z b : Nat} {f : Nm → α → List V} {g : α → Entry} {l : List α}

theorem nest_mark {s mi : Bool} {rows : List (List V)} (hE : lkH H (1000, 0) = some (some ⟨e, z, rows, s, mi⟩)) (hrows : rows = nr 1000 f 1 l) (hf : ∀ j y, l[j]? = some y → lkH H (1000, j + 1) = some (some (g y))) (hz : ∀ m x, (f m x).length = z)
    (hcv : ∀ {src : Nm → Option Nm} {D : List Nm} {N : Nm → Option Nat} {m m' : Nm} (x : α), src m' = some m → CvL (lkH H) src D N (f m x) (f m' x)) (hgf : ∀ x, AllFree (g x).rows) (hgz : ∀ x r, r ∈ (g x).rows → r.length = (g x).z)
    (hb : OnlyP H 1 l.length)
    (hT : cvF H (srcF [((1000, 0), ⟨e, z, nr 1000 f 1 l, s, mi⟩, some (1000, 0))] 1000 1 (l.map g).length (fun j => some (1000, j + 1))) [] (nF [((1000, 0), ⟨e, z, nr 1000 f 1 l, s, mi⟩, some (1000, 0))] 1000 1 (l.map g) (fun j => some (1000, j + 1))) T T') :
    Ent (mkT n T H) (mkT n T' (((1000, 0), some ⟨e, z, nr 1000 f 1 l, s, mi⟩) :: (fam 1000 1 (l.map g) ++ []))) :=
  nest_keep hE hrows hf hz hcv hgf hgz (fun _ => rfl) (fun j h => by
    rcases hb j h with h1 | ⟨i, hi, rfl⟩
    · left; rw [show j = 0 by omega]
    · exact .inr ⟨i, hi, rfl⟩) hT

/-- The end of a function that wrote such a list, and answers a scalar. -/
theorem nest_endB {P : Program} {rs : List ResultVar} {r : Value} (items : List Item) (es : List Entry) (hx : ResVs P (mkT n T H) rs [.sc r]) (hsc : scalar r = true)
    (hi : itemsX H (srcF items 1000 b (l.map g).length (fun j => some (1000, j + b))) [] (nF items 1000 b (l.map g) (fun j => some (1000, j + b))) items) (hap : itApart items = true) (hsa : srcApart 1000 b items = true)
    (hno : ∀ i, lkH (itH items) (1000, i + b) = none) (hout : (items.all fun q => !inFam 1000 b (l.map g).length q.1) = true) (hf : ∀ j y, l[j]? = some y → lkH H (1000, j + b) = some (some (g y))) (hgf : ∀ x, AllFree (g x).rows) (hgz : ∀ x r, r ∈ (g x).rows → r.length = (g x).z)
    (hb : OnlyP H b l.length) (hlow : ∀ j, j < b → srcF items 1000 b (l.map g).length (fun j => some (1000, j + b)) (1000, j) = some (1000, j)) (hl : es.length = b) (hh : outsL 0 es = itH items) :
    EndG P rs (.sc r) [] (es ++ l.map g) (mkT n T H) := by
  refine ⟨_, hx, srcF items 1000 b (l.map g).length (fun j => some (1000, j + b)), [], nF items 1000 b (l.map g) (fun j => some (1000, j + b)), ?_, .free rfl⟩
  refine re_fam hi trivial hap ⟨fun j E' hE' => ?_, fun j j' m _ _ h3 h4 => ?_, fun j m hj h q hq => ?_, hout, fun j h => ?_⟩ ?_
  · rw [List.getElem?_map] at hE'
    obtain ⟨y, hy, rfl⟩ := Option.map_eq_some_iff.1 hE'
    exact ⟨by simp, g y, hf j y hy, rfl, rfl, rfl, id, rowsCv_eq rfl (hgf y), hgz y⟩
  · have := (Option.some.inj h3).trans (Option.some.inj h4).symm
    simp only [Prod.mk.injEq, true_and] at this; omega
  · have h : (1000, j + b) = m := Option.some.inj h
    rw [← h]; exact srcApart_of hsa hq
  · rcases hb j h with h1 | ⟨i, hi, rfl⟩
    · exact hlow j h1
    · exact srcF_at (by rw [List.length_map]; exact hi)
  · show addOwns 2000 [] (argHp (es ++ l.map g)) = _
    have e0 : addOwns 2000 [] (argHp (es ++ l.map g)) = lkH (outsL 0 (es ++ l.map g)) := by
      funext m; rw [outsL_lk]; unfold addOwns argHp; by_cases h : m.1 = 1000 <;> simp [h]
    rw [e0, outsL_app, hh, Nat.zero_add, hl, outsL_fam]
    have := lk_comm (d := 1000) (b := b) (Es := l.map g) (H := itH items) (R := []) (fun i _ => by rw [List.append_nil]; exact hno i)
    rw [List.append_nil, List.append_nil] at this
    exact this
end
end Go.Abs
/- The abstract layer, part 38: a call that writes a list of rows with lists, and these lists; the state behind it told anew. -/
namespace Go.Abs
open Go

theorem outsL_one (E : Entry) (Es : List Entry) : outsL 0 ([E] ++ Es) = ((1000, 0), some E) :: (fam 1000 1 Es ++ []) := by
  rw [outsL_app, outsL_fam Es, List.append_nil]; rfl
theorem lk_app_none : ∀ {A B : Hp} {m : Nm}, lkH A m = none → lkH (A ++ B) m = lkH B m
  | [], _, _, _ => rfl
  | (k, e) :: A, B, m, h => by
    rw [lkH_cons] at h
    split at h
    · cases h
    · rename_i hne; rw [List.cons_append, lkH_cons, if_neg hne]; exact lk_app_none h
theorem lk_app_same : ∀ {A B C : Hp} {m : Nm}, lkH B m = lkH C m → lkH (A ++ B) m = lkH (A ++ C) m
  | [], _, _, _, h => h
  | (k, e) :: A, B, C, m, h => by rw [List.cons_append, List.cons_append, lkH_cons, lkH_cons, lk_app_same h]

section
variable {P : Program} {n : Nat} {T : Tm} {A : Hp} {o : Oper} {ops : Array Oper} {K : Lg → St → Prop} {rest : List Oper} {d : Nat}
theorem s_callMn {α : Type} {fN : Nm → α → List V} {gm : α → Entry} {l l' : List α} {dn : Nm} {a b : Nat} {e : TypeId} {z : Nat} {s mi : Bool} {fop : Operand} {args : Array Operand} {tys : Array TypeId} {f : FuncId} {caps xs cargs : List V} {r : V}
    (ho : o.op = .call { callee := .value fop, args := args, argTypes := tys }) (hf : (mkT n T (A ++ (fam a b (l.map gm) ++ []))).ev fop = .fn f caps) (hc : callable P f = true)
    (hrun : RunsG P f cargs ([⟨e, z, nr 1000 fN 1 l, s, false⟩] ++ l.map fun x => { gm x with mine := false }) r [] ([⟨e, z, nr 1000 fN 1 l', s, false⟩] ++ l'.map fun x => { gm x with mine := false })) (hlen : l'.length = l.length)
    (hx : args.toList.map (mkT n T (A ++ (fam a b (l.map gm) ++ []))).ev ++ caps = xs) (hrel : ArgsR (A ++ (fam a b (l.map gm) ++ [])) (dn :: famN a b l.length) [] xs cargs) (hE : lkH (A ++ (fam a b (l.map gm) ++ [])) dn = some (some ⟨e, z, nr a fN b l, s, mi⟩)) (hA : ∀ j, lkH A (a, j + b) = none) (hdn : ∀ k, inFam a b k dn = false)
    (hz : ∀ m x, (fN m x).length = z) (hin : ∀ {ns : List Nm} {i : Nat} {m : Nm} (x : α), ns[i]? = some m → ArgsR (A ++ (fam a b (l.map gm) ++ [])) ns [] (fN m x) (fN (1000, i) x)) (hout : ∀ {ns : List Nm} {i : Nat} {m : Nm} (x : α), ns[i]? = some m → RetL d ns [] isSc (fN (1000, i) x) (fN m x))
    (hgs : ∀ x, AllSc (gm x).rows) (hgf : ∀ x, AllFree (gm x).rows) (hgz : ∀ x r, r ∈ (gm x).rows → r.length = (gm x).z) (hmi : ∀ x y, (gm x).mine = (gm y).mine) (hr : isScN r = true)
    (hd : o.dst = some d) (hn : Nat.blt d n = true) (hg : wantA ops (mkT n T (A ++ (fam a b (l.map gm) ++ []))) o = some true)
    (h : RegT P ops (kp K ((dn :: famN a b l.length) ++ []) ((dn :: famN a b l.length) ++ [])) rest (mkT n ((d, r) :: T) ((dn, some ⟨e, z, nr a fN b l', s, mi⟩) :: (A ++ (fam a b (l'.map gm) ++ []))))) : RegT P ops K (o :: rest) (mkT n T (A ++ (fam a b (l.map gm) ++ []))) := by
  have hns : ∀ {i}, i < l.length → (dn :: famN a b l.length)[i + 1]? = some (a, i + b) := fun {i} hi => by rw [List.getElem?_cons_succ]; exact famN_get hi
  have hfam : ∀ {i x}, l[i]? = some x → lkH (A ++ (fam a b (l.map gm) ++ [])) (a, i + b) = some (some (gm x)) := fun {i x} hx => by
    rw [lk_app_none (hA i)]; exact fam_lk (by rw [List.getElem?_map, hx]; rfl)
  have hnd : (dn :: famN a b l.length).Nodup := List.nodup_cons.2 ⟨(fun hm => by
    have h1 := hdn l.length
    rw [inFam_iff.2 (famN_iff.1 hm)] at h1
    cases h1), famN_nodup _ _ _⟩
  have hi2 : InsL (A ++ (fam a b (l.map gm) ++ [])) (dn :: famN a b l.length) [] (famN a b (l.map fun x => ({ gm x with mine := false } : Entry)).length) (l.map fun x => { gm x with mine := false }) :=
    insL_fam (Es' := []) (c := b) (fun i E hi => by
      rw [List.getElem?_map] at hi
      obtain ⟨x, hx, rfl⟩ := Option.map_eq_some_iff.1 hi
      exact ⟨gm x, hfam hx, insFlat (s := (gm x).str) (m := (gm x).mine) (hgf x) (hgz x)⟩) rfl
  rw [List.length_map] at hi2
  refine s_callI (ns := dn :: famN a b l.length) (outs' := [⟨e, z, nr a fN b l', s, false⟩] ++ l'.map fun x => { gm x with mine := false }) ho hf hc hrun hx hrel (.cons hE (insRows hz fun i x hx => hin x (hns (List.getElem?_eq_some_iff.1 hx).1)) hi2) hnd hr (by simp) (fun i E' hi => ?_) hd hn hg ?_
  · cases i with
    | zero =>
      simp only [List.cons_append, List.nil_append, List.getElem?_cons_zero, Option.some.injEq] at hi
      subst hi
      exact ⟨_, rfl, outRows hz fun i x hx => hout x (hns (by rw [← hlen]; exact (List.getElem?_eq_some_iff.1 hx).1))⟩
    | succ i =>
      simp only [List.cons_append, List.nil_append, List.getElem?_cons_succ, List.getElem?_map] at hi
      obtain ⟨x, hx, rfl⟩ := Option.map_eq_some_iff.1 hi
      exact ⟨{ gm x with mine := false }, by simp [hx], outSame (E := { gm x with mine := false }) (m := false) (hgs x) (hgz x)⟩
  · have key : lkH (outsH (dn :: famN a b l.length) ([⟨e, z, nr a fN b l', s, false⟩] ++ l'.map fun x => ({ gm x with mine := false } : Entry)) (A ++ (fam a b (l.map gm) ++ []))) = lkH ((dn, some ⟨e, z, nr a fN b l', s, mi⟩) :: (A ++ (fam a b (l'.map gm) ++ []))) := by
      funext m
      rw [← setOuts_lkH]
      by_cases h0 : m = dn
      · subst h0
        rw [setOuts_at (i := 0) (E := ⟨e, z, nr a fN b l', s, false⟩) hnd rfl rfl, lkAt, mine_of hE]
      · rw [lkH_cons, if_neg h0]
        rcases fam_cases (a := a) (b := b) (Es := l.map gm) m with ⟨i, E, hi, rfl⟩ | hm
        · have hil : i < l.length := by have := (List.getElem?_eq_some_iff.1 hi).1; rwa [List.length_map] at this
          have hil' : i < l'.length := by omega
          rw [setOuts_at (i := i + 1) (E := { gm l'[i] with mine := false }) hnd (hns hil) (by simp [List.getElem?_eq_getElem hil']), mine_of (hfam (List.getElem?_eq_getElem hil)), lk_app_none (hA i), fam_lk (E := gm l'[i]) (by simp [List.getElem?_eq_getElem hil'])]
          rw [hmi l[i] l'[i]]
        · rw [setOuts_other (fun hmem => by
            rcases List.mem_cons.1 hmem with h1 | h1
            · exact h0 h1
            · obtain ⟨i, hi, e⟩ := famN_iff.1 h1
              exact hm i (by rw [List.length_map]; exact hi) e)]
          refine lk_app_same ?_
          rw [fam_skip hm, fam_skip (fun i hi => hm i (by rw [List.length_map] at hi ⊢; omega))]
    rw [mkT_eqH key]; exact h
end
end Go.Abs
/- The abstract layer, part 39: the check of open order where an operation reads a family of names: the family is told by one name of its slot. -/
namespace Go.Abs
open Go

/-- The log lg is told by lg'; W: slots of which no name is written. -/
inductive Cov (W : List Nat) : Lg → Lg → Prop where
  | nil : Cov W [] []
  | cons {rs rs' ws : List Nm} {lg lg' : Lg} (hw : (ws.all fun m => !W.contains m.1) = true) (hr : ∀ m, m ∈ rs → m ∈ rs' ∨ (m.1 ∈ W ∧ ∃ m', m' ∈ rs' ∧ m'.1 = m.1)) (t : Cov W lg lg') : Cov W ((rs, ws) :: lg) ((rs', ws) :: lg')
theorem Cov.get {W : List Nat} {lg lg' : Lg} (h : Cov W lg lg') : ∀ j : Nat, (lg[j]? = none ∧ lg'[j]? = none) ∨ ∃ rs rs' ws : List Nm, lg[j]? = some (rs, ws) ∧ lg'[j]? = some (rs', ws) ∧ (∀ m : Nm, m ∈ ws → m.1 ∉ W) ∧ ∀ m : Nm, m ∈ rs → m ∈ rs' ∨ (m.1 ∈ W ∧ ∃ m' : Nm, m' ∈ rs' ∧ m'.1 = m.1) := by
  induction h with
  | nil => exact fun j => .inl ⟨rfl, rfl⟩
  | @cons rs rs' ws lg lg' hw hr _ ih =>
    intro j
    cases j with
    | zero => exact .inr ⟨rs, rs', ws, rfl, rfl, fun m hm hmW => by
        (have := List.all_eq_true.1 hw m hm
         rw [List.contains_iff_mem.2 hmW] at this
         cases this), hr⟩
    | succ j => simpa using ih j
theorem cov_self {rs : List Nm} {W : List Nat} : ∀ m, m ∈ rs → m ∈ rs ∨ (m.1 ∈ W ∧ ∃ m', m' ∈ rs ∧ m'.1 = m.1) := fun _ h => .inl h
theorem cov_fam {rs : List Nm} {W : List Nat} {a b k c : Nat} (hW : a ∈ W) (hc : (a, c) ∈ rs) : ∀ m, m ∈ rs ++ famN a b k → m ∈ rs ∨ (m.1 ∈ W ∧ ∃ m', m' ∈ rs ∧ m'.1 = m.1) := fun m hm => by
  rcases List.mem_append.1 hm with h | h
  · exact .inl h
  · obtain ⟨i, -, rfl⟩ := famN_iff.1 h
    exact .inr ⟨hW, (a, c), hc, rfl⟩
theorem apartN_cov {x y : Oper} {xr xr' xw yr yr' yw : List Nm} {W : List Nat} (h : apartN (x, (xr', xw)) (y, (yr', yw)) = true) (hw : ∀ m, m ∈ xw → m.1 ∉ W) (hr : ∀ m, m ∈ yr → m ∈ yr' ∨ (m.1 ∈ W ∧ ∃ m', m' ∈ yr' ∧ m'.1 = m.1)) : apartN (x, (xr, xw)) (y, (yr, yw)) = true := by
  unfold apartN at h ⊢
  simp only [Bool.and_eq_true, List.all_eq_true] at h ⊢
  obtain ⟨h1, h2⟩ := h
  refine ⟨fun m hm => ?_, ?_⟩
  · obtain ⟨⟨h3, h4⟩, h5⟩ := h1 m hm
    refine ⟨⟨?_, h4⟩, h5⟩
    simp only [Bool.not_eq_true', List.any_eq_false] at h3 ⊢
    intro q hq hmq
    have e := nmEq_iff.1 hmq
    subst e
    rcases hr m hq with h6 | ⟨h6, -⟩
    · exact h3 m h6 hmq
    · exact hw m hm h6
  · cases hd : x.dst with
    | none => rfl
    | some d =>
      rw [hd] at h2
      simp only [List.all_eq_true] at h2 ⊢
      intro m hm
      rcases List.mem_append.1 hm with h3 | h3
      · rcases hr m h3 with h4 | ⟨-, m', h4, h5⟩
        · exact h2 m (List.mem_append.2 (.inl h4))
        · rw [← h5]; exact h2 m' (List.mem_append.2 (.inl h4))
      · exact h2 m (List.mem_append.2 (.inr h3))
theorem drawCov {l : List Oper} {lg lg' : Lg} {W : List Nat} (h0 : drawOk2 l lg' = true) (hc : Cov W lg lg') : drawOk l lg = true := by
  have h := drawFast h0
  unfold drawOk at h ⊢
  simp only [List.all_eq_true] at h ⊢
  intro j hj
  have h1 := h j hj
  cases hl : l[j]? with
  | none => rw [hl] at h1; simp at h1
  | some oj =>
    rcases hc.get j with ⟨-, hg⟩ | ⟨rs, rs', ws, hg, hg', hw, hr⟩
    · rw [hl, hg] at h1; simp at h1
    · rw [hl, hg'] at h1
      rw [hg]
      simp only [Bool.and_eq_true, List.all_eq_true, Bool.or_eq_true] at h1 ⊢
      refine ⟨h1.1, fun i hi => ?_⟩
      rcases h1.2 i hi with h2 | h2
      · exact .inl h2
      · right
        cases hli : l[i]? with
        | none => rw [hli] at h2; simp at h2
        | some oi =>
          rcases hc.get i with ⟨-, hgi⟩ | ⟨is, is', iw, hgi, hgi', hiw, hir⟩
          · rw [hli, hgi] at h2; simp at h2
          · rw [hli, hgi'] at h2
            rw [hgi]
            simp only [indep, Bool.and_eq_true] at h2 ⊢
            exact ⟨⟨h2.1.1, apartN_cov h2.1.2 hiw hr⟩, apartN_cov h2.2 hw hir⟩
end Go.Abs
/- The abstract layer, part 40: a family of names kept, or let go, where a state is read anew; names of a family in checks of freshness and of open order. -/
namespace Go.Abs
open Go

theorem itb_nil {l : List Item} : itBase [] l = true := rfl
theorem itb_cons {p : Nm × Option Entry} {H : Hp} {l : List Item} (h : (p.1.1 != 1000) = true) (t : itBase H l = true) : itBase (p :: H) l = true := by
  unfold itBase at *
  rw [List.all_cons, h, t]; rfl
theorem itb_fam {a : Nat} : ∀ {Es : List Entry} {b : Nat} {H : Hp} {l : List Item}, (a != 1000) = true → itBase H l = true → itBase (fam a b Es ++ H) l = true
  | [], _, _, _, _, t => t
  | E :: Es, b, H, l, h, t => by
    rw [fam, List.cons_append]
    exact itb_cons h (itb_fam h t)
theorem habC {H : Hp} {d q : Nat} {E : Entry} {l : List (Nat × Entry)} (h : lkH H (d, q) = none) (t : (l.all fun q => (lkH H (d, q.1)).isNone) = true) : (((q, E) :: l).all fun q => (lkH H (d, q.1)).isNone) = true := by
  rw [List.all_cons, h, t]; rfl
theorem habN {H : Hp} {d : Nat} : (([] : List (Nat × Entry)).all fun q => (lkH H (d, q.1)).isNone) = true := rfl

/-- An operation of a log, told by other names of its slots. -/
theorem covM {W : List Nat} {rs rs' ws : List Nm} {lg lg' : Lg} (hw : (ws.all fun m => !W.contains m.1) = true) (hr : ∀ m, m ∈ rs → m ∈ rs' ∨ (m.1 ∈ W ∧ ∃ m', m' ∈ rs' ∧ m'.1 = m.1)) (t : Cov W lg lg') : Cov W ((rs, ws) :: lg) ((rs', ws) :: lg') := .cons hw hr t
theorem covS {W : List Nat} {rs ws : List Nm} {lg lg' : Lg} (hw : (ws.all fun m => !W.contains m.1) = true) (t : Cov W lg lg') : Cov W ((rs, ws) :: lg) ((rs, ws) :: lg') := .cons hw cov_self t

theorem lk_none_all : ∀ {l : List Item} {m : Nm}, (∀ q, q ∈ l → q.1 ≠ m) → lkH (itH l) m = none
  | [], _, _ => rfl
  | q :: l, m, h => by
    show lkH ((q.1, some q.2.1) :: itH l) m = none
    rw [lkH_cons, if_neg (Ne.symm (h q (.head _)))]
    exact lk_none_all fun q hq => h q (.tail _ hq)

/-- A state with a family is read anew; the family stays. -/
theorem entK {α : Type} {n : Nat} {T T' : Tm} {H : Hp} {items : List Item} {D : List Nm} {a b : Nat} {l : List α} {g : α → Entry}
    (hi : itemsX H (srcF items a b (l.map g).length (fun j => some (a, j + b))) D (nF items a b (l.map g) (fun j => some (a, j + b))) items) (hD : dropsOk H D) (hap : itApart items = true) (hsa : srcApart a b items = true)
    (hout : (items.all fun q => !inFam a b (l.map g).length q.1) = true) (hDa : (D.all fun m => !inFamAll a b m) = true) (hf : ∀ j y, l[j]? = some y → lkH H (a, j + b) = some (some (g y))) (hgf : ∀ x, AllFree (g x).rows) (hgz : ∀ x r, r ∈ (g x).rows → r.length = (g x).z)
    (hb : ∀ j, lkH H (1000, j) = none) (hT : cvF H (srcF items a b (l.map g).length (fun j => some (a, j + b))) D (nF items a b (l.map g) (fun j => some (a, j + b))) T T') :
    Ent (mkT n T H) (mkT n T' (itH items ++ (fam a b (l.map g) ++ []))) := by
  refine entF items D a b (l.map g) (fun j => some (a, j + b)) hi hD hap ⟨fun j E' hE' => ?_, fun j j' m _ _ h3 h4 => ?_, fun j m hj h q hq => ?_, hout, fun j h => absurd (hb j) h⟩ ?_ hT
  · rw [List.getElem?_map] at hE'
    obtain ⟨y, hy, rfl⟩ := Option.map_eq_some_iff.1 hE'
    refine ⟨fun hm => ?_, g y, hf j y hy, rfl, rfl, rfl, id, rowsCv_eq rfl (hgf y), hgz y⟩
    have := List.all_eq_true.1 hDa _ hm
    have h1 : inFamAll a b (a, j + b) = true := by
      unfold inFamAll
      simp only [Nat.beq_refl]
      exact Nat.ble_eq_true_of_le (Nat.le_add_left ..)
    rw [h1] at this; cases this
  · have := (Option.some.inj h3).trans (Option.some.inj h4).symm
    simp only [Prod.mk.injEq, true_and] at this; omega
  · have h : (a, j + b) = m := Option.some.inj h
    rw [← h]; exact srcApart_of hsa hq
  · have := lk_comm (d := a) (b := b) (Es := l.map g) (H := itH items) (R := []) (fun i hi => by
      rw [List.append_nil]
      refine lk_none_all fun q hq e => ?_
      have h1 := List.all_eq_true.1 hout _ hq
      rw [e, inFam_iff.2 ⟨i, hi, rfl⟩] at h1; cases h1)
    rw [List.append_nil (itH items)] at this
    exact this
end Go.Abs
/- The abstract layer, part 41: a call that writes a list of rows with lists, these lists and one more list. -/
namespace Go.Abs
open Go

section
variable {P : Program} {n : Nat} {T : Tm} {A : Hp} {o : Oper} {ops : Array Oper} {K : Lg → St → Prop} {rest : List Oper} {d : Nat}
theorem s_callMp {α : Type} {fN : Nm → α → List V} {gm : α → Entry} {l l' : List α} {X X' : Entry} {dn pn : Nm} {a b : Nat} {e : TypeId} {z : Nat} {s mi : Bool} {fop : Operand} {args : Array Operand} {tys : Array TypeId} {f : FuncId} {caps xs cargs : List V} {r : V}
    (ho : o.op = .call { callee := .value fop, args := args, argTypes := tys }) (hf : (mkT n T (A ++ (fam a b (l.map gm) ++ []))).ev fop = .fn f caps) (hc : callable P f = true)
    (hrun : RunsG P f cargs ([⟨e, z, nr 1000 fN 2 l, s, false⟩, ⟨X.e, X.z, X.rows, X.str, false⟩] ++ l.map fun x => { gm x with mine := false }) r [] ([⟨e, z, nr 1000 fN 2 l', s, false⟩, ⟨X'.e, X'.z, X'.rows, X'.str, false⟩] ++ l'.map fun x => { gm x with mine := false })) (hlen : l'.length = l.length)
    (hx : args.toList.map (mkT n T (A ++ (fam a b (l.map gm) ++ []))).ev ++ caps = xs) (hrel : ArgsR (A ++ (fam a b (l.map gm) ++ [])) (dn :: pn :: famN a b l.length) [] xs cargs) (hE : lkH (A ++ (fam a b (l.map gm) ++ [])) dn = some (some ⟨e, z, nr a fN b l, s, mi⟩)) (hEp : lkH (A ++ (fam a b (l.map gm) ++ [])) pn = some (some X)) (hA : ∀ j, lkH A (a, j + b) = none) (hdn : ∀ k, inFam a b k dn = false) (hpn : ∀ k, inFam a b k pn = false) (hdp : nmEq dn pn = false)
    (hz : ∀ m x, (fN m x).length = z) (hin : ∀ {ns : List Nm} {i : Nat} {m : Nm} (x : α), ns[i]? = some m → ArgsR (A ++ (fam a b (l.map gm) ++ [])) ns [] (fN m x) (fN (1000, i) x)) (hout : ∀ {ns : List Nm} {i : Nat} {m : Nm} (x : α), ns[i]? = some m → RetL d ns [] isSc (fN (1000, i) x) (fN m x))
    (hgs : ∀ x, AllSc (gm x).rows) (hgf : ∀ x, AllFree (gm x).rows) (hgz : ∀ x r, r ∈ (gm x).rows → r.length = (gm x).z) (hmi : ∀ x y, (gm x).mine = (gm y).mine) (hXf : AllFree X.rows) (hXz : ∀ r, r ∈ X.rows → r.length = X.z) (hXs : AllSc X'.rows) (hXz' : ∀ r, r ∈ X'.rows → r.length = X'.z) (hXm : X'.mine = X.mine) (hr : isScN r = true)
    (hd : o.dst = some d) (hn : Nat.blt d n = true) (hg : wantA ops (mkT n T (A ++ (fam a b (l.map gm) ++ []))) o = some true)
    (h : RegT P ops (kp K ((dn :: pn :: famN a b l.length) ++ []) ((dn :: pn :: famN a b l.length) ++ [])) rest (mkT n ((d, r) :: T) ((dn, some ⟨e, z, nr a fN b l', s, mi⟩) :: (pn, some X') :: (A ++ (fam a b (l'.map gm) ++ []))))) : RegT P ops K (o :: rest) (mkT n T (A ++ (fam a b (l.map gm) ++ []))) := by
  have hns : ∀ {i}, i < l.length → (dn :: pn :: famN a b l.length)[i + 2]? = some (a, i + b) := fun {i} hi => by rw [List.getElem?_cons_succ, List.getElem?_cons_succ]; exact famN_get hi
  have hfam : ∀ {i x}, l[i]? = some x → lkH (A ++ (fam a b (l.map gm) ++ [])) (a, i + b) = some (some (gm x)) := fun {i x} hx => by
    rw [lk_app_none (hA i)]; exact fam_lk (by rw [List.getElem?_map, hx]; rfl)
  have hnf : ∀ {m}, (∀ k, inFam a b k m = false) → m ∉ famN a b l.length := fun {m} h hm => by
    have h1 := h l.length
    rw [inFam_iff.2 (famN_iff.1 hm)] at h1
    cases h1
  have hne : dn ≠ pn := fun q => by rw [q, nmEq_iff.2 rfl] at hdp; cases hdp
  have hnd : (dn :: pn :: famN a b l.length).Nodup := List.nodup_cons.2 ⟨(fun hm => by
    rcases List.mem_cons.1 hm with h1 | h1
    · exact hne h1
    · exact hnf hdn h1), List.nodup_cons.2 ⟨hnf hpn, famN_nodup _ _ _⟩⟩
  have hi2 : InsL (A ++ (fam a b (l.map gm) ++ [])) (dn :: pn :: famN a b l.length) [] (famN a b (l.map fun x => ({ gm x with mine := false } : Entry)).length) (l.map fun x => { gm x with mine := false }) :=
    insL_fam (Es' := []) (c := b) (fun i E hi => by
      rw [List.getElem?_map] at hi
      obtain ⟨x, hx, rfl⟩ := Option.map_eq_some_iff.1 hi
      exact ⟨gm x, hfam hx, insFlat (s := (gm x).str) (m := (gm x).mine) (hgf x) (hgz x)⟩) rfl
  rw [List.length_map] at hi2
  refine s_callI (ns := dn :: pn :: famN a b l.length) (outs' := [⟨e, z, nr a fN b l', s, false⟩, ⟨X'.e, X'.z, X'.rows, X'.str, false⟩] ++ l'.map fun x => { gm x with mine := false }) ho hf hc hrun hx hrel (.cons hE (insRows hz fun i x hx => hin x (hns (List.getElem?_eq_some_iff.1 hx).1)) (.cons hEp (insFlat (s := X.str) (m := X.mine) hXf hXz) hi2)) hnd hr (by simp) (fun i E' hi => ?_) hd hn hg ?_
  · cases i with
    | zero =>
      simp only [List.cons_append, List.nil_append, List.getElem?_cons_zero, Option.some.injEq] at hi
      subst hi
      exact ⟨_, rfl, outRows hz fun i x hx => hout x (hns (by rw [← hlen]; exact (List.getElem?_eq_some_iff.1 hx).1))⟩
    | succ i =>
      cases i with
      | zero =>
        simp only [List.cons_append, List.nil_append, List.getElem?_cons_succ, List.getElem?_cons_zero, Option.some.injEq] at hi
        subst hi
        exact ⟨_, rfl, outSame (E := ⟨X'.e, X'.z, X'.rows, X'.str, false⟩) (m := false) hXs hXz'⟩
      | succ i =>
        simp only [List.cons_append, List.nil_append, List.getElem?_cons_succ, List.getElem?_map] at hi
        obtain ⟨x, hx, rfl⟩ := Option.map_eq_some_iff.1 hi
        exact ⟨{ gm x with mine := false }, by simp [hx], outSame (E := { gm x with mine := false }) (m := false) (hgs x) (hgz x)⟩
  · have key : lkH (outsH (dn :: pn :: famN a b l.length) ([⟨e, z, nr a fN b l', s, false⟩, ⟨X'.e, X'.z, X'.rows, X'.str, false⟩] ++ l'.map fun x => ({ gm x with mine := false } : Entry)) (A ++ (fam a b (l.map gm) ++ []))) = lkH ((dn, some ⟨e, z, nr a fN b l', s, mi⟩) :: (pn, some X') :: (A ++ (fam a b (l'.map gm) ++ []))) := by
      funext m
      rw [← setOuts_lkH]
      by_cases h0 : m = dn
      · subst h0
        rw [setOuts_at (i := 0) (E := ⟨e, z, nr a fN b l', s, false⟩) hnd rfl rfl, lkAt, mine_of hE]
      · rw [lkH_cons, if_neg h0]
        by_cases h1 : m = pn
        · subst h1
          rw [setOuts_at (i := 1) (E := ⟨X'.e, X'.z, X'.rows, X'.str, false⟩) hnd rfl rfl, lkAt, mine_of hEp, ← hXm]
        · rw [lkH_cons, if_neg h1]
          rcases fam_cases (a := a) (b := b) (Es := l.map gm) m with ⟨i, E, hi, rfl⟩ | hm
          · have hil : i < l.length := by have := (List.getElem?_eq_some_iff.1 hi).1; rwa [List.length_map] at this
            have hil' : i < l'.length := by omega
            rw [setOuts_at (i := i + 2) (E := { gm l'[i] with mine := false }) hnd (hns hil) (by simp [List.getElem?_eq_getElem hil']), mine_of (hfam (List.getElem?_eq_getElem hil)), lk_app_none (hA i), fam_lk (E := gm l'[i]) (by simp [List.getElem?_eq_getElem hil'])]
            rw [hmi l[i] l'[i]]
          · rw [setOuts_other (fun hmem => by
              rcases List.mem_cons.1 hmem with h2 | h2
              · exact h0 h2
              · rcases List.mem_cons.1 h2 with h3 | h3
                · exact h1 h3
                · obtain ⟨i, hi, e⟩ := famN_iff.1 h3
                  exact hm i (by rw [List.length_map]; exact hi) e)]
            refine lk_app_same ?_
            rw [fam_skip hm, fam_skip (fun i hi => hm i (by rw [List.length_map] at hi ⊢; omega))]
    rw [mkT_eqH key]; exact h
end
end Go.Abs
/- The abstract layer, part 43: lists whose rows hold a list each, told with the rows' names one by one, or by the rows' places. -/
namespace Go.Abs
open Go

/-- Rows told with their names. -/
def fq {α : Type} (f : Nm → α → List V) (p : Nm × α) : List V := f p.1 p.2
def nmP {α : Type} (a : Nat) : Nat → List α → List (Nm × α)
  | _, [] => []
  | b, x :: l => ((a, b), x) :: nmP a (b + 1) l
/-- Rows told by their places in a list. -/
def fI {α : Type} (f : Nm → α → List V) (a b : Nat) (l : List α) (i : Fin l.length) : List V := f (a, i.val + b) (l.get i)
def nmI {α : Type} (a b : Nat) (l : List α) (i : Fin l.length) : Nm × α := ((a, i.val + b), l.get i)

section
variable {α : Type} {a b : Nat} {f : Nm → α → List V}
theorem nmP_rows : ∀ {l : List α} {b : Nat}, nr a f b l = (nmP a b l).map (fq f)
  | [], _ => rfl
  | x :: l, b => by rw [nr, nmP, List.map_cons, nmP_rows]; rfl
theorem nmP_snd : ∀ {l : List α} {b : Nat}, (nmP a b l).map Prod.snd = l
  | [], _ => rfl
  | x :: l, b => by rw [nmP, List.map_cons, nmP_snd]
theorem nmP_fst : ∀ {l : List α} {b : Nat}, (nmP a b l).map Prod.fst = famN a b l.length
  | [], _ => rfl
  | x :: l, b => by rw [nmP, List.map_cons, nmP_fst]; rfl
theorem nmP_mem : ∀ {l : List α} {b : Nat} {p : Nm × α}, p ∈ nmP a b l → ∃ i, l[i]? = some p.2 ∧ p.1 = (a, i + b)
  | [], _, _, h => by cases h
  | x :: l, b, p, h => by
    rw [nmP] at h
    rcases List.mem_cons.1 h with rfl | h
    · exact ⟨0, rfl, by simp⟩
    · obtain ⟨i, h1, h2⟩ := nmP_mem h
      exact ⟨i + 1, h1, by rw [h2]; congr 1; omega⟩
theorem nmI_rows {l : List α} {qs : List (Fin l.length)} : qs.map (fI f a b l) = (qs.map (nmI a b l)).map (fq f) := by rw [List.map_map]; rfl
theorem nmI_snd {l : List α} {qs : List (Fin l.length)} : (qs.map (nmI a b l)).map Prod.snd = qs.map l.get := by rw [List.map_map]; rfl
theorem nmI_mem {l : List α} {qs : List (Fin l.length)} {p : Nm × α} (h : p ∈ qs.map (nmI a b l)) : ∃ i, l[i]? = some p.2 ∧ p.1 = (a, i + b) := by
  obtain ⟨q, -, rfl⟩ := List.mem_map.1 h
  exact ⟨q.val, by simp [nmI], rfl⟩
theorem nmI_nodup {l : List α} {qs : List (Fin l.length)} (h : qs.Nodup) : ((qs.map (nmI a b l)).map Prod.fst).Nodup := by
  rw [List.map_map]
  refine List.Pairwise.map _ (fun x y hxy he => hxy ?_) h
  simp only [Function.comp, nmI, Prod.mk.injEq, true_and] at he
  exact Fin.ext (by omega)
theorem fI_all {l : List α} : (List.finRange l.length).map (fI f a b l) = nr a f b l := by
  refine List.ext_getElem? fun i => ?_
  by_cases h : i < l.length
  · rw [nr_get (List.getElem?_eq_getElem h), List.getElem?_map, List.getElem?_eq_getElem (by simpa using h)]
    simp [fI]
  · rw [List.getElem?_eq_none (by simpa using h), List.getElem?_eq_none (by rw [nr_len]; omega)]
end

section
variable {α : Type} {n : Nat} {T T' : Tm} {H : Hp} {e : TypeId} {z a b a' b' : Nat} {f : Nm → α → List V} {g : α → Entry} {l : List α}

abbrev srcQ (ps : List (Nm × α)) (j : Nat) : Option Nm := (ps[j]?).map Prod.fst
theorem srcQ_some {ps : List (Nm × α)} (hl : ps.map Prod.snd = l) {j : Nat} {y : α} (hy : l[j]? = some y) : ∃ m, ps[j]? = some (m, y) := by
  rw [← hl, List.getElem?_map] at hy
  obtain ⟨p, hp, rfl⟩ := Option.map_eq_some_iff.1 hy
  exact ⟨p.1, hp⟩
theorem rowsCv_q {items : List Item} {D : List Nm} {N : Nm → Option Nat} {rows : List (List V)} {ps : List (Nm × α)} (hl : ps.map Prod.snd = l) (hr : rows = ps.map (fq f)) (hcv : ∀ {src : Nm → Option Nm} {D : List Nm} {N : Nm → Option Nat} {m m' : Nm} (x : α), src m' = some m → CvL (lkH H) src D N (f m x) (f m' x)) :
    RowsCv (lkH H) (srcF items a b (l.map g).length (srcQ ps)) D N rows (nr a f b l) := by
  subst hr
  refine rowsCv_nr ?_ fun j y hy => ?_
  · rw [← hl]; simp
  · obtain ⟨m, hm⟩ := srcQ_some hl hy
    refine ⟨f m y, by rw [List.getElem?_map, hm]; rfl, hcv y ?_⟩
    rw [srcF_at (by rw [List.length_map]; exact (List.getElem?_eq_some_iff.1 hy).1)]
    simp [srcQ, hm]

/-- A row's name: it holds the row's list, is kept, and no other item has it. -/
def NmOk (H : Hp) (D : List Nm) (g : α → Entry) (items : List Item) (p : Nm × α) : Prop := p.1 ∉ D ∧ lkH H p.1 = some (some (g p.2)) ∧ ∀ q, q ∈ items → q.2.2 ≠ some p.1
def notSrc (c : Nm) (l : List Item) : Bool := l.all fun q => match q.2.2 with | some m => !nmEq m c | none => true
theorem nmOk_fam {D : List Nm} {items : List Item} (hf : ∀ j y, l[j]? = some y → lkH H (a, j + b) = some (some (g y))) (hs : srcApart a b items = true) (hD : (D.all fun m => !inFamAll a b m) = true) {p : Nm × α} (h : ∃ i, l[i]? = some p.2 ∧ p.1 = (a, i + b)) : NmOk H D g items p := by
  obtain ⟨i, h1, h2⟩ := h
  refine ⟨fun hm => ?_, by rw [h2]; exact hf i _ h1, fun q hq => by rw [h2]; exact srcApart_of hs hq⟩
  rw [h2] at hm
  have := List.all_eq_true.1 hD _ hm
  have h3 : inFamAll a b (a, i + b) = true := by
    unfold inFamAll
    simp only [Nat.beq_refl]
    exact Nat.ble_eq_true_of_le (Nat.le_add_left ..)
  rw [h3] at this; cases this
theorem nmOk_one {D : List Nm} {items : List Item} {c : Nm} {x : α} (hc : lkH H c = some (some (g x))) (hD : D.any (nmEq c) = false) (hs : notSrc c items = true) : NmOk H D g items (c, x) :=
  ⟨fun hm => (by
    have : D.any (nmEq c) = true := List.any_eq_true.2 ⟨c, hm, nmEq_iff.2 rfl⟩
    rw [this] at hD; cases hD), hc, fun q hq e => by
    have := List.all_eq_true.1 hs _ hq
    rw [e] at this
    have h1 : nmEq c c = true := nmEq_iff.2 rfl
    simp only [h1] at this; cases this⟩
theorem nmOk_app {D : List Nm} {items : List Item} {ps : List (Nm × α)} {p0 : Nm × α} (h : ∀ p, p ∈ ps → NmOk H D g items p) (h0 : NmOk H D g items p0) : ∀ p, p ∈ ps ++ [p0] → NmOk H D g items p := fun p hp => by
  rcases List.mem_append.1 hp with h1 | h1
  · exact h p h1
  · rw [List.mem_singleton.1 h1]; exact h0
theorem nmOk_set {D : List Nm} {items : List Item} {ps : List (Nm × α)} {i : Nat} {p0 : Nm × α} (h : ∀ p, p ∈ ps → NmOk H D g items p) (h0 : NmOk H D g items p0) : ∀ p, p ∈ ps.set i p0 → NmOk H D g items p := fun p hp => by
  rcases List.mem_or_eq_of_mem_set hp with h1 | rfl
  · exact h p h1
  · exact h0
theorem nd_app {ps : List (Nm × α)} {c : Nm} {x : α} (h : (ps.map Prod.fst).Nodup) (hc : ∀ p, p ∈ ps → p.1 ≠ c) : ((ps ++ [(c, x)]).map Prod.fst).Nodup := by
  rw [List.map_append, List.nodup_append]
  refine ⟨h, by simp, fun m hm m' hm' => ?_⟩
  simp only [List.map_cons, List.map_nil, List.mem_singleton] at hm'
  obtain ⟨p, hp, rfl⟩ := List.mem_map.1 hm
  rw [hm']; exact hc p hp
theorem nd_set : ∀ {ps : List (Nm × α)} {i : Nat} {c : Nm} {x : α}, (ps.map Prod.fst).Nodup → (∀ p, p ∈ ps → p.1 ≠ c) → ((ps.set i (c, x)).map Prod.fst).Nodup
  | [], _, _, _, h, _ => h
  | p :: ps, 0, c, x, h, hc => by
    rw [List.map_cons, List.nodup_cons] at h
    rw [List.set_cons_zero, List.map_cons, List.nodup_cons]
    refine ⟨fun hm => ?_, h.2⟩
    obtain ⟨q, hq, e⟩ := List.mem_map.1 hm
    exact hc q (.tail _ hq) e
  | p :: ps, i + 1, c, x, h, hc => by
    rw [List.map_cons, List.nodup_cons] at h
    rw [List.set_cons_succ, List.map_cons, List.nodup_cons]
    refine ⟨fun hm => ?_, nd_set h.2 fun q hq => hc q (.tail _ hq)⟩
    obtain ⟨q, hq, e⟩ := List.mem_map.1 hm
    rcases List.mem_or_eq_of_mem_set hq with h1 | rfl
    · exact h.1 (List.mem_map.2 ⟨q, h1, e⟩)
    · exact hc p (.head _) e.symm
theorem nm_ne {c : Nm} (hc : Nat.beq c.1 a = false) {p : Nm × α} (h : ∃ i, l[i]? = some p.2 ∧ p.1 = (a, i + b)) : p.1 ≠ c := fun e => by
  obtain ⟨i, -, h2⟩ := h
  exact Nat.ne_of_beq_eq_false hc (by rw [← e, h2])
theorem famOk_q {items : List Item} {D : List Nm} {ps : List (Nm × α)} (hl : ps.map Prod.snd = l) (hm : ∀ p, p ∈ ps → NmOk H D g items p) (hnd : (ps.map Prod.fst).Nodup)
    (hgf : ∀ x, AllFree (g x).rows) (hgz : ∀ x r, r ∈ (g x).rows → r.length = (g x).z) (hout : (items.all fun q => !inFam a b (l.map g).length q.1) = true) (hb : ∀ j, lkH H (1000, j) ≠ none → srcF items a b (l.map g).length (srcQ ps) (1000, j) = some (1000, j)) : FamOk H items D a b (l.map g) (srcQ ps) := by
  refine ⟨fun i E' hE' => ?_, fun i j m hi hj h3 h4 => ?_, fun i m hi h q hq => ?_, hout, hb⟩
  · rw [List.getElem?_map] at hE'
    obtain ⟨y, hy, rfl⟩ := Option.map_eq_some_iff.1 hE'
    obtain ⟨m, hp⟩ := srcQ_some hl hy
    obtain ⟨h1, h2, -⟩ := hm _ (List.mem_of_getElem? hp)
    have e1 : srcQ ps i = some m := by simp [srcQ, hp]
    rw [e1]
    exact ⟨h1, g y, h2, rfl, rfl, rfl, id, rowsCv_eq rfl (hgf y), hgz y⟩
  · simp only [srcQ, Option.map_eq_some_iff] at h3 h4
    obtain ⟨p, h5, h6⟩ := h3
    obtain ⟨q, h7, h8⟩ := h4
    have hi' : i < (ps.map Prod.fst).length := by rw [List.length_map]; exact (List.getElem?_eq_some_iff.1 h5).1
    refine (List.getElem?_inj hi' hnd).1 ?_
    rw [List.getElem?_map, List.getElem?_map, h5, h7, Option.map_some, Option.map_some, h6, h8]
  · simp only [srcQ, Option.map_eq_some_iff] at h
    obtain ⟨p, h5, h6⟩ := h
    rw [← h6]; exact (hm p (List.mem_of_getElem? h5)).2.2 q hq

/-- A state is read anew; the family's names are new. -/
theorem entQ {items : List Item} {D : List Nm} (ps : List (Nm × α)) (hl : ps.map Prod.snd = l) (hi : itemsX H (srcF items a b (l.map g).length (srcQ ps)) D (nF items a b (l.map g) (srcQ ps)) items) (hD : dropsOk H D) (hap : itApart items = true)
    (hm : ∀ p, p ∈ ps → NmOk H D g items p) (hnd : (ps.map Prod.fst).Nodup) (hgf : ∀ x, AllFree (g x).rows) (hgz : ∀ x r, r ∈ (g x).rows → r.length = (g x).z)
    (hout : (items.all fun q => !inFam a b (l.map g).length q.1) = true) (hb : ∀ j, lkH H (1000, j) = none) (hT : cvF H (srcF items a b (l.map g).length (srcQ ps)) D (nF items a b (l.map g) (srcQ ps)) T T') : Ent (mkT n T H) (mkT n T' (itH items ++ (fam a b (l.map g) ++ []))) := by
  refine entF items D a b (l.map g) (srcQ ps) hi hD hap (famOk_q hl hm hnd hgf hgz hout fun j h => absurd (hb j) h) ?_ hT
  have := lk_comm (d := a) (b := b) (Es := l.map g) (H := itH items) (R := []) (fun i hi => by
    rw [List.append_nil]
    refine lk_none_all fun q hq e => ?_
    have h1 := List.all_eq_true.1 hout _ hq
    rw [e, inFam_iff.2 ⟨i, hi, rfl⟩] at h1; cases h1)
  rw [List.append_nil (itH items)] at this
  exact this

/-- The end of a function whose result owns a list of such rows: their names are told one by one. -/
theorem nest_endQ {P : Program} {rs : List ResultVar} {x : V} {xs : List V} (items : List Item) (own0 : List (Nat × Entry)) (ps : List (Nm × α)) (hl : ps.map Prod.snd = l) (hx : ResVs P (mkT n T H) rs xs)
    (hi : itemsX H (srcF items 2000 10000 (l.map g).length (srcQ ps)) [] (nF items 2000 10000 (l.map g) (srcQ ps)) items) (hap : itApart items = true) (hm : ∀ p, p ∈ ps → NmOk H [] g items p) (hnd : (ps.map Prod.fst).Nodup)
    (hno : ∀ i, lkH (itH items) (2000, i + 10000) = none) (hout : (items.all fun q => !inFam 2000 10000 (l.map g).length q.1) = true) (hgf : ∀ x, AllFree (g x).rows) (hgz : ∀ x r, r ∈ (g x).rows → r.length = (g x).z)
    (hb : ∀ j, lkH H (1000, j) = none) (hh : own0.map (fun q => ((2000, q.1), some q.2)) = itH items)
    (hv : Cv (lkH H) (srcF items 2000 10000 (l.map g).length (srcQ ps)) [] (nF items 2000 10000 (l.map g) (srcQ ps)) (resOne xs) x) :
    EndG P rs x (own0 ++ famO 10000 (l.map g)) [] (mkT n T H) := by
  refine ⟨_, hx, srcF items 2000 10000 (l.map g).length (srcQ ps), [], nF items 2000 10000 (l.map g) (srcQ ps), ?_, hv⟩
  refine re_fam hi trivial hap (famOk_q hl hm hnd hgf hgz hout fun j h => absurd (hb j) h) ?_
  show addOwns 2000 (own0 ++ famO 10000 (l.map g)) (argHp []) = _
  have e0 : argHp [] = lkH [] := by funext m; unfold argHp; simp [lkH]
  rw [e0, addOwns_lkH, List.map_append, famO_map, hh, List.append_assoc]
  have := lk_comm (d := 2000) (b := 10000) (Es := l.map g) (H := itH items) (R := []) (fun i _ => by rw [List.append_nil]; exact hno i)
  rw [this, List.append_nil]

/-- Rows told by their places, read anew under the same names. -/
theorem rowsCv_I {items : List Item} {D : List Nm} {N : Nm → Option Nat} {rows : List (List V)} {qs : List (Fin l.length)} (hr : rows = qs.map (fI f a b l)) (hcv : ∀ {src : Nm → Option Nm} {D : List Nm} {N : Nm → Option Nat} {m m' : Nm} (x : α), src m' = some m → CvL (lkH H) src D N (f m x) (f m' x)) :
    RowsCv (lkH H) (srcF items a b (l.map g).length (fun j => some (a, j + b))) D N rows (qs.map (fI f a b l)) := by
  subst hr
  refine ⟨Nat.le_refl _, fun i j y hy => ?_⟩
  unfold cellAt at hy
  rw [List.getElem?_map] at hy
  cases hq : qs[i]? with
  | none => simp [hq] at hy
  | some q =>
    simp only [hq, Option.map_some, Option.bind_some] at hy
    have h1 : srcF items a b (l.map g).length (fun j => some (a, j + b)) (a, q.val + b) = some (a, q.val + b) := srcF_at (by rw [List.length_map]; exact q.isLt)
    obtain ⟨u, h3, h4⟩ := (hcv (D := D) (N := N) (l.get q) h1).get j y hy
    exact ⟨u, by unfold cellAt; rw [List.getElem?_map, hq]; exact h3, h4⟩
theorem rowsZ_I {qs : List (Fin l.length)} (hz : ∀ m x, (f m x).length = z) : ∀ r, r ∈ qs.map (fI f a b l) → r.length = z := fun r hr => by
  obtain ⟨q, -, rfl⟩ := List.mem_map.1 hr
  exact hz _ _

/-- What the caller handed over is kept: a state is read anew. -/
theorem entB {items : List Item} (hi : itemsX H (srcF items 1000 b (l.map g).length (fun j => some (1000, j + b))) [] (nF items 1000 b (l.map g) (fun j => some (1000, j + b))) items) (hap : itApart items = true) (hsa : srcApart 1000 b items = true)
    (hout : (items.all fun q => !inFam 1000 b (l.map g).length q.1) = true) (hf : ∀ j y, l[j]? = some y → lkH H (1000, j + b) = some (some (g y))) (hgf : ∀ x, AllFree (g x).rows) (hgz : ∀ x r, r ∈ (g x).rows → r.length = (g x).z)
    (hb : OnlyP H b l.length) (hlow : ∀ j, j < b → srcF items 1000 b (l.map g).length (fun j => some (1000, j + b)) (1000, j) = some (1000, j)) (hT : cvF H (srcF items 1000 b (l.map g).length (fun j => some (1000, j + b))) [] (nF items 1000 b (l.map g) (fun j => some (1000, j + b))) T T') :
    Ent (mkT n T H) (mkT n T' (itH items ++ (fam 1000 b (l.map g) ++ []))) := by
  refine entF items [] 1000 b (l.map g) (fun j => some (1000, j + b)) hi trivial hap ⟨fun j E' hE' => ?_, fun j j' m _ _ h3 h4 => ?_, fun j m hj h q hq => ?_, hout, fun j h => ?_⟩ ?_ hT
  · rw [List.getElem?_map] at hE'
    obtain ⟨y, hy, rfl⟩ := Option.map_eq_some_iff.1 hE'
    exact ⟨by simp, g y, hf j y hy, rfl, rfl, rfl, id, rowsCv_eq rfl (hgf y), hgz y⟩
  · have := (Option.some.inj h3).trans (Option.some.inj h4).symm
    simp only [Prod.mk.injEq, true_and] at this; omega
  · have h : (1000, j + b) = m := Option.some.inj h
    rw [← h]; exact srcApart_of hsa hq
  · rcases hb j h with h1 | ⟨i, hi, rfl⟩
    · exact hlow j h1
    · exact srcF_at (by rw [List.length_map]; exact hi)
  · have := lk_comm (d := 1000) (b := b) (Es := l.map g) (H := itH items) (R := []) (fun i hi => by
      rw [List.append_nil]
      refine lk_none_all fun q hq e => ?_
      have h1 := List.all_eq_true.1 hout _ hq
      rw [e, inFam_iff.2 ⟨i, hi, rfl⟩] at h1; cases h1)
    rw [List.append_nil (itH items)] at this
    exact this

/-- The end of a function that hands back what it was handed to write. -/
theorem nest_endW {P : Program} {rs : List ResultVar} {x : V} {xs : List V} (items : List Item) (es : List Entry) (hx : ResVs P (mkT n T H) rs xs)
    (hi : itemsX H (srcF items 1000 b (l.map g).length (fun j => some (1000, j + b))) [] (nF items 1000 b (l.map g) (fun j => some (1000, j + b))) items) (hap : itApart items = true) (hsa : srcApart 1000 b items = true)
    (hno : ∀ i, lkH (itH items) (1000, i + b) = none) (hout : (items.all fun q => !inFam 1000 b (l.map g).length q.1) = true) (hf : ∀ j y, l[j]? = some y → lkH H (1000, j + b) = some (some (g y))) (hgf : ∀ x, AllFree (g x).rows) (hgz : ∀ x r, r ∈ (g x).rows → r.length = (g x).z)
    (hb : OnlyP H b l.length) (hlow : ∀ j, j < b → srcF items 1000 b (l.map g).length (fun j => some (1000, j + b)) (1000, j) = some (1000, j)) (hl : es.length = b) (hh : outsL 0 es = itH items)
    (hv : Cv (lkH H) (srcF items 1000 b (l.map g).length (fun j => some (1000, j + b))) [] (nF items 1000 b (l.map g) (fun j => some (1000, j + b))) (resOne xs) x) :
    EndG P rs x [] (es ++ l.map g) (mkT n T H) := by
  refine ⟨_, hx, srcF items 1000 b (l.map g).length (fun j => some (1000, j + b)), [], nF items 1000 b (l.map g) (fun j => some (1000, j + b)), ?_, hv⟩
  refine re_fam hi trivial hap ⟨fun j E' hE' => ?_, fun j j' m _ _ h3 h4 => ?_, fun j m hj h q hq => ?_, hout, fun j h => ?_⟩ ?_
  · rw [List.getElem?_map] at hE'
    obtain ⟨y, hy, rfl⟩ := Option.map_eq_some_iff.1 hE'
    exact ⟨by simp, g y, hf j y hy, rfl, rfl, rfl, id, rowsCv_eq rfl (hgf y), hgz y⟩
  · have := (Option.some.inj h3).trans (Option.some.inj h4).symm
    simp only [Prod.mk.injEq, true_and] at this; omega
  · have h : (1000, j + b) = m := Option.some.inj h
    rw [← h]; exact srcApart_of hsa hq
  · rcases hb j h with h1 | ⟨i, hi, rfl⟩
    · exact hlow j h1
    · exact srcF_at (by rw [List.length_map]; exact hi)
  · show addOwns 2000 [] (argHp (es ++ l.map g)) = _
    have e0 : addOwns 2000 [] (argHp (es ++ l.map g)) = lkH (outsL 0 (es ++ l.map g)) := by
      funext m; rw [outsL_lk]; unfold addOwns argHp; by_cases h : m.1 = 1000 <;> simp [h]
    rw [e0, outsL_app, hh, Nat.zero_add, hl, outsL_fam]
    have := lk_comm (d := 1000) (b := b) (Es := l.map g) (H := itH items) (R := []) (fun i _ => by rw [List.append_nil]; exact hno i)
    rw [List.append_nil, List.append_nil] at this
    exact this
end

section
variable {P : Program} {n : Nat} {T : Tm} {A R : Hp} {o : Oper} {ops : Array Oper} {K : Lg → St → Prop} {rest : List Oper} {d : Nat}
theorem outRowsI {α : Type} {e : TypeId} {z : Nat} {a a' b b' : Nat} {f : Nm → α → List V} {l : List α} {qs : List (Fin l.length)} {s m m' : Bool} {ns : List Nm} {own : List (Nat × Entry)} {p : V → Prop} (hz : ∀ n x, (f n x).length = z) (hf : ∀ i x, l[i]? = some x → RetL d ns own p (f (a, i + b) x) (f (a', i + b') x)) :
    OutRel d ns own p ⟨e, z, qs.map (fI f a b l), s, m⟩ ⟨e, z, qs.map (fI f a' b' l), s, m'⟩ :=
  ⟨rfl, rfl, rfl, by simp only [List.length_map], rowsZ_I hz, fun i j y hy => by
    unfold cellAt at hy
    rw [List.getElem?_map] at hy
    cases hq : qs[i]? with
    | none => simp [hq] at hy
    | some q =>
      simp only [hq, Option.map_some, Option.bind_some] at hy
      have h1 := hf q.val (l.get q) (by simp)
      have hlt : j < (fI f a b l q).length := by
        show j < (f (a, q.val + b) (l.get q)).length
        rw [h1.len]; exact (List.getElem?_eq_some_iff.1 hy).1
      exact ⟨_, by unfold cellAt; rw [List.getElem?_map, hq]; exact List.getElem?_eq_getElem hlt, h1.get j _ y (List.getElem?_eq_getElem hlt) hy⟩⟩

theorem insRowsI {α : Type} {H : Hp} {ns kb : List Nm} {e : TypeId} {z : Nat} {a a' b b' : Nat} {f : Nm → α → List V} {l : List α} {qs : List (Fin l.length)} {s m : Bool} (hz : ∀ n x, (f n x).length = z) (hf : ∀ i x, l[i]? = some x → ArgsR H ns kb (f (a, i + b) x) (f (a', i + b') x)) :
    InsRel (lkH H) ns kb ⟨e, z, qs.map (fI f a b l), s, m⟩ ⟨e, z, qs.map (fI f a' b' l), s, false⟩ :=
  ⟨rfl, rfl, rfl, rfl, by simp only [List.length_map], rowsZ_I hz, fun i j y hy => by
    unfold cellAt at hy
    rw [List.getElem?_map] at hy
    cases hq : qs[i]? with
    | none => simp [hq] at hy
    | some q =>
      simp only [hq, Option.map_some, Option.bind_some] at hy
      have h1 := hf q.val (l.get q) (by simp)
      have hlt : j < (fI f a b l q).length := by
        show j < (f (a, q.val + b) (l.get q)).length
        rw [h1.len]; exact (List.getElem?_eq_some_iff.1 hy).1
      exact ⟨_, by unfold cellAt; rw [List.getElem?_map, hq]; exact List.getElem?_eq_getElem hlt, h1.get j _ y (List.getElem?_eq_getElem hlt) hy⟩⟩
/-- Rows told by their places are lent, with the rows' lists. -/
theorem lendI {α : Type} {H : Hp} {ns kb : List Nm} {nm : Nm} {a b : Nat} {f : Nm → α → List V} {f0 : α → List V} {g : α → Entry} {l : List α} {is : List (Fin l.length)} {e : TypeId} {z len : Nat} {s mi : Bool} (hn : lkH H nm = some (some ⟨e, z, is.map (fI f a b l), s, mi⟩)) (hk : nm ∈ kb) (hle : len = is.length)
    (hf : ∀ i x, l[i]? = some x → (a, i + b) ∈ kb ∧ lkH H (a, i + b) = some (some (g x))) (hr : ∀ m x, m ∈ kb → lkH H m = some (some (g x)) → ArgsR H ns kb (f m x) (f0 x)) (h0 : ∀ x, (f0 x).all (·.free) = true) (hz : ∀ x, (f0 x).length = z) :
    ArgRel (lkH H) ns kb (.ref nm 0 len) (.lst z ((is.map l.get).map f0)) := by
  have key : ∀ i j y, cellAt ((is.map l.get).map f0) i j = some y → ∃ (q : Fin l.length) (u : V), is[i]? = some q ∧ (f0 (l.get q))[j]? = some y ∧ (fI f a b l q)[j]? = some u ∧ ArgRel (lkH H) ns kb u y := fun i j y hy => by
    unfold cellAt at hy
    rw [List.map_map, List.getElem?_map] at hy
    cases hq : is[i]? with
    | none => simp [hq] at hy
    | some q =>
      simp only [hq, Option.map_some, Option.bind_some, Function.comp] at hy
      obtain ⟨h1, h2⟩ := hf q.val (l.get q) (by simp)
      have h3 := hr _ _ h1 h2
      have hlt : j < (f (a, q.val + b) (l.get q)).length := by rw [h3.len]; exact (List.getElem?_eq_some_iff.1 hy).1
      exact ⟨q, _, rfl, hy, List.getElem?_eq_getElem hlt, h3.get j _ y (List.getElem?_eq_getElem hlt) hy⟩
  refine .refLst (E := ⟨e, z, is.map (fI f a b l), s, mi⟩) hn hk (by simp only [List.length_map]; omega) (by simp only [List.length_map]; exact hle.symm) (rowsZ_map hz) (fun i j => (cellAt (is.map (fI f a b l)) i j).getD .undef) (fun i j y hy => ?_) (fun i j y hy => ?_) (fun i j y hy => ?_)
  · obtain ⟨q, u, h1, -, h3, -⟩ := key i j y hy
    have : cellAt (is.map (fI f a b l)) i j = some u := by unfold cellAt; rw [List.getElem?_map, h1]; exact h3
    simp only [Nat.zero_add, this, Option.getD_some]
  · obtain ⟨q, u, h1, -, h3, h4⟩ := key i j y hy
    have : cellAt (is.map (fI f a b l)) i j = some u := by unfold cellAt; rw [List.getElem?_map, h1]; exact h3
    simp only [this, Option.getD_some]; exact h4
  · obtain ⟨q, u, -, h2, -, -⟩ := key i j y hy
    exact List.all_eq_true.1 (h0 _) y (List.mem_of_getElem? h2)
theorem famI_lk {α : Type} {a b : Nat} {g : α → Entry} {l : List α} {H : Hp} (i : Fin l.length) : lkH (fam a b (l.map g) ++ H) (a, i.val + b) = some (some (g (l.get i))) := fam_lk (by simp)
theorem only_famL {α : Type} {b : Nat} {g : α → Entry} {l : List α} : OnlyP (fam 1000 b (l.map g) ++ []) b l.length := by
  have := only_fam (b := b) (Es := l.map g)
  rw [List.length_map] at this
  exact this

theorem lenW {n : Nat} {P : Program} {f : FuncId} {xs : List V} {ins : List Entry} {r : V} {outs : List Entry} (h : RunsG P f (.ref (1000, 0) 0 (List.finRange n).length :: xs) ins r [] outs) : RunsG P f (.ref (1000, 0) 0 n :: xs) ins r [] outs := by
  rw [List.length_finRange] at h; exact h

/-- A call that moves the rows of a list whose rows hold a list each, and hands it back. -/
theorem s_callQ {α : Type} {fN : Nm → α → List V} {gm : α → Entry} {l : List α} {is qs : List (Fin l.length)} {dn : Nm} {a b : Nat} {e : TypeId} {z : Nat} {rows : List (List V)} {s mi : Bool} {fop : Operand} {args : Array Operand} {tys : Array TypeId} {f : FuncId} {caps xs cargs : List V} {kb : List Nm}
    (ho : o.op = .call { callee := .value fop, args := args, argTypes := tys }) (hf : (mkT n T (A ++ (fam a b (l.map gm) ++ R))).ev fop = .fn f caps) (hc : callable P f = true)
    (hrun : RunsG P f cargs ([⟨e, z, is.map (fI fN 1000 1 l), s, false⟩] ++ l.map fun x => { gm x with mine := false }) (.ref (1000, 0) 0 qs.length) [] ([⟨e, z, qs.map (fI fN 1000 1 l), s, false⟩] ++ l.map fun x => { gm x with mine := false }))
    (hx : args.toList.map (mkT n T (A ++ (fam a b (l.map gm) ++ R))).ev ++ caps = xs) (hrel : ArgsR (A ++ (fam a b (l.map gm) ++ R)) (dn :: famN a b l.length) kb xs cargs) (hE : lkH (A ++ (fam a b (l.map gm) ++ R)) dn = some (some ⟨e, z, rows, s, mi⟩)) (hrows : rows = is.map (fI fN a b l)) (hA : ∀ j, lkH A (a, j + b) = none) (hdn : ∀ k, inFam a b k dn = false)
    (hz : ∀ m x, (fN m x).length = z) (hin : ∀ {ns : List Nm} {i : Nat} {m : Nm} (x : α), ns[i]? = some m → ArgsR (A ++ (fam a b (l.map gm) ++ R)) ns kb (fN m x) (fN (1000, i) x)) (hout : ∀ {ns : List Nm} {i : Nat} {m : Nm} (x : α), ns[i]? = some m → RetL d ns [] isSc (fN (1000, i) x) (fN m x))
    (hgs : ∀ x, AllSc (gm x).rows) (hgf : ∀ x, AllFree (gm x).rows) (hgz : ∀ x r, r ∈ (gm x).rows → r.length = (gm x).z) (hkn : ∀ m, m ∈ kb → m ∉ dn :: famN a b l.length)
    (hd : o.dst = some d) (hn : Nat.blt d n = true) (hg : wantA ops (mkT n T (A ++ (fam a b (l.map gm) ++ R))) o = some true)
    (h : RegT P ops (kp K ((dn :: famN a b l.length) ++ kb) ((dn :: famN a b l.length) ++ [])) rest (mkT n ((d, .ref dn 0 qs.length) :: T) ((dn, some ⟨e, z, qs.map (fI fN a b l), s, mi⟩) :: (A ++ (fam a b (l.map gm) ++ R))))) : RegT P ops K (o :: rest) (mkT n T (A ++ (fam a b (l.map gm) ++ R))) := by
  subst hrows
  have hns : ∀ {i}, i < l.length → (dn :: famN a b l.length)[i + 1]? = some (a, i + b) := fun {i} hi => by rw [List.getElem?_cons_succ]; exact famN_get hi
  have hfam : ∀ {i x}, l[i]? = some x → lkH (A ++ (fam a b (l.map gm) ++ R)) (a, i + b) = some (some (gm x)) := fun {i x} hx => by
    rw [lk_app_none (hA i)]; exact fam_lk (by rw [List.getElem?_map, hx]; rfl)
  have hnd : (dn :: famN a b l.length).Nodup := List.nodup_cons.2 ⟨(fun hm => by
    have h1 := hdn l.length
    rw [inFam_iff.2 (famN_iff.1 hm)] at h1
    cases h1), famN_nodup _ _ _⟩
  have hi2 : InsL (A ++ (fam a b (l.map gm) ++ R)) (dn :: famN a b l.length) kb (famN a b (l.map fun x => ({ gm x with mine := false } : Entry)).length) (l.map fun x => { gm x with mine := false }) :=
    insL_fam (Es' := []) (c := b) (fun i E hi => by
      rw [List.getElem?_map] at hi
      obtain ⟨x, hx, rfl⟩ := Option.map_eq_some_iff.1 hi
      exact ⟨gm x, hfam hx, insFlat (s := (gm x).str) (m := (gm x).mine) (hgf x) (hgz x)⟩) rfl
  rw [List.length_map] at hi2
  have hI : InsL (A ++ (fam a b (l.map gm) ++ R)) (dn :: famN a b l.length) kb (dn :: famN a b l.length) ([⟨e, z, is.map (fI fN 1000 1 l), s, false⟩] ++ l.map fun x => { gm x with mine := false }) :=
    .cons hE (insRowsI hz fun i x hx => hin x (hns (List.getElem?_eq_some_iff.1 hx).1)) hi2
  have hcb : CallByG P (mkT n T (A ++ (fam a b (l.map gm) ++ R))) o d (.ref dn 0 qs.length) [] (dn :: famN a b l.length) [] kb ([⟨e, z, qs.map (fI fN a b l), s, false⟩] ++ l.map fun x => { gm x with mine := false }) :=
    ⟨fop, args, tys, f, caps, cargs, _, _, _, [], isSc, ho, hf, hc, hrun, hI.len, (by simp), hnd, hI.get, hkn, (by rw [hx]; exact hrel.len), (by rw [hx]; exact hrel.get),
      (fun q E hq => by cases hq), .inn rfl, (fun q E h => by simp at h), (fun i E' hi => by
        cases i with
        | zero =>
          simp only [List.cons_append, List.nil_append, List.getElem?_cons_zero, Option.some.injEq] at hi
          subst hi
          exact ⟨_, rfl, outRowsI hz fun i x hx => hout x (hns (List.getElem?_eq_some_iff.1 hx).1)⟩
        | succ i =>
          simp only [List.cons_append, List.nil_append, List.getElem?_cons_succ, List.getElem?_map] at hi
          obtain ⟨x, hx, rfl⟩ := Option.map_eq_some_iff.1 hi
          exact ⟨{ gm x with mine := false }, by simp [hx], outSame (E := { gm x with mine := false }) (m := false) (hgs x) (hgz x)⟩), .inr ⟨rfl, fun _ h => h⟩⟩
  refine rt_step (StepE.callG hd hcb) hg (by rw [hd]; exact decide_eq_true (by simpa [mkT, Nat.blt_eq] using hn)) ?_
  have key : lkH (outsH (dn :: famN a b l.length) ([⟨e, z, qs.map (fI fN a b l), s, false⟩] ++ l.map fun x => ({ gm x with mine := false } : Entry)) (A ++ (fam a b (l.map gm) ++ R))) = lkH ((dn, some ⟨e, z, qs.map (fI fN a b l), s, mi⟩) :: (A ++ (fam a b (l.map gm) ++ R))) := by
    funext m
    rw [← setOuts_lkH]
    by_cases h0 : m = dn
    · subst h0
      rw [setOuts_at (i := 0) (E := ⟨e, z, qs.map (fI fN a b l), s, false⟩) hnd rfl rfl, lkAt, mine_of hE]
    · rw [lkH_cons, if_neg h0]
      rcases fam_cases (a := a) (b := b) (Es := l.map gm) m with ⟨i, E, hi, rfl⟩ | hm
      · have hil : i < l.length := by have := (List.getElem?_eq_some_iff.1 hi).1; rwa [List.length_map] at this
        rw [setOuts_at (i := i + 1) (E := { gm l[i] with mine := false }) hnd (hns hil) (by simp [List.getElem?_eq_getElem hil]), mine_of (hfam (List.getElem?_eq_getElem hil)), hfam (List.getElem?_eq_getElem hil)]
      · rw [setOuts_other (fun hmem => by
          rcases List.mem_cons.1 hmem with h1 | h1
          · exact h0 h1
          · obtain ⟨i, hi, e⟩ := famN_iff.1 h1
            exact hm i (by rw [List.length_map]; exact hi) e)]
  have e0 : retHpG (mkT n T (A ++ (fam a b (l.map gm) ++ R))).hp (dn :: famN a b l.length) [] ([⟨e, z, qs.map (fI fN a b l), s, false⟩] ++ l.map fun x => { gm x with mine := false }) d [] = lkH ((dn, some ⟨e, z, qs.map (fI fN a b l), s, mi⟩) :: (A ++ (fam a b (l.map gm) ++ R))) := by
    rw [← key]
    unfold retHpG
    rw [mkT_hp, killAll_lkH, setOuts_lkH, addOwns_lkH]
    simp only [List.map_nil, List.nil_append]
  rw [hd, e0, mkT_put]
  exact h

/-- As s_callMn, with more memory behind the family. -/
theorem s_callMr {α : Type} {fN : Nm → α → List V} {gm : α → Entry} {l l' : List α} {dn : Nm} {a b : Nat} {e : TypeId} {z : Nat} {s mi : Bool} {fop : Operand} {args : Array Operand} {tys : Array TypeId} {f : FuncId} {caps xs cargs : List V} {r : V}
    (ho : o.op = .call { callee := .value fop, args := args, argTypes := tys }) (hf : (mkT n T (A ++ (fam a b (l.map gm) ++ R))).ev fop = .fn f caps) (hc : callable P f = true)
    (hrun : RunsG P f cargs ([⟨e, z, nr 1000 fN 1 l, s, false⟩] ++ l.map fun x => { gm x with mine := false }) r [] ([⟨e, z, nr 1000 fN 1 l', s, false⟩] ++ l'.map fun x => { gm x with mine := false })) (hlen : l'.length = l.length)
    (hx : args.toList.map (mkT n T (A ++ (fam a b (l.map gm) ++ R))).ev ++ caps = xs) (hrel : ArgsR (A ++ (fam a b (l.map gm) ++ R)) (dn :: famN a b l.length) [] xs cargs) (hE : lkH (A ++ (fam a b (l.map gm) ++ R)) dn = some (some ⟨e, z, nr a fN b l, s, mi⟩)) (hA : ∀ j, lkH A (a, j + b) = none) (hdn : ∀ k, inFam a b k dn = false)
    (hz : ∀ m x, (fN m x).length = z) (hin : ∀ {ns : List Nm} {i : Nat} {m : Nm} (x : α), ns[i]? = some m → ArgsR (A ++ (fam a b (l.map gm) ++ R)) ns [] (fN m x) (fN (1000, i) x)) (hout : ∀ {ns : List Nm} {i : Nat} {m : Nm} (x : α), ns[i]? = some m → RetL d ns [] isSc (fN (1000, i) x) (fN m x))
    (hgs : ∀ x, AllSc (gm x).rows) (hgf : ∀ x, AllFree (gm x).rows) (hgz : ∀ x r, r ∈ (gm x).rows → r.length = (gm x).z) (hmi : ∀ x y, (gm x).mine = (gm y).mine) (hr : isScN r = true)
    (hd : o.dst = some d) (hn : Nat.blt d n = true) (hg : wantA ops (mkT n T (A ++ (fam a b (l.map gm) ++ R))) o = some true)
    (h : RegT P ops (kp K ((dn :: famN a b l.length) ++ []) ((dn :: famN a b l.length) ++ [])) rest (mkT n ((d, r) :: T) ((dn, some ⟨e, z, nr a fN b l', s, mi⟩) :: (A ++ (fam a b (l'.map gm) ++ R))))) : RegT P ops K (o :: rest) (mkT n T (A ++ (fam a b (l.map gm) ++ R))) := by
  have hns : ∀ {i}, i < l.length → (dn :: famN a b l.length)[i + 1]? = some (a, i + b) := fun {i} hi => by rw [List.getElem?_cons_succ]; exact famN_get hi
  have hfam : ∀ {i x}, l[i]? = some x → lkH (A ++ (fam a b (l.map gm) ++ R)) (a, i + b) = some (some (gm x)) := fun {i x} hx => by
    rw [lk_app_none (hA i)]; exact fam_lk (by rw [List.getElem?_map, hx]; rfl)
  have hnd : (dn :: famN a b l.length).Nodup := List.nodup_cons.2 ⟨(fun hm => by
    have h1 := hdn l.length
    rw [inFam_iff.2 (famN_iff.1 hm)] at h1
    cases h1), famN_nodup _ _ _⟩
  have hi2 : InsL (A ++ (fam a b (l.map gm) ++ R)) (dn :: famN a b l.length) [] (famN a b (l.map fun x => ({ gm x with mine := false } : Entry)).length) (l.map fun x => { gm x with mine := false }) :=
    insL_fam (Es' := []) (c := b) (fun i E hi => by
      rw [List.getElem?_map] at hi
      obtain ⟨x, hx, rfl⟩ := Option.map_eq_some_iff.1 hi
      exact ⟨gm x, hfam hx, insFlat (s := (gm x).str) (m := (gm x).mine) (hgf x) (hgz x)⟩) rfl
  rw [List.length_map] at hi2
  refine s_callI (ns := dn :: famN a b l.length) (outs' := [⟨e, z, nr a fN b l', s, false⟩] ++ l'.map fun x => { gm x with mine := false }) ho hf hc hrun hx hrel (.cons hE (insRows hz fun i x hx => hin x (hns (List.getElem?_eq_some_iff.1 hx).1)) hi2) hnd hr (by simp) (fun i E' hi => ?_) hd hn hg ?_
  · cases i with
    | zero =>
      simp only [List.cons_append, List.nil_append, List.getElem?_cons_zero, Option.some.injEq] at hi
      subst hi
      exact ⟨_, rfl, outRows hz fun i x hx => hout x (hns (by rw [← hlen]; exact (List.getElem?_eq_some_iff.1 hx).1))⟩
    | succ i =>
      simp only [List.cons_append, List.nil_append, List.getElem?_cons_succ, List.getElem?_map] at hi
      obtain ⟨x, hx, rfl⟩ := Option.map_eq_some_iff.1 hi
      exact ⟨{ gm x with mine := false }, by simp [hx], outSame (E := { gm x with mine := false }) (m := false) (hgs x) (hgz x)⟩
  · have key : lkH (outsH (dn :: famN a b l.length) ([⟨e, z, nr a fN b l', s, false⟩] ++ l'.map fun x => ({ gm x with mine := false } : Entry)) (A ++ (fam a b (l.map gm) ++ R))) = lkH ((dn, some ⟨e, z, nr a fN b l', s, mi⟩) :: (A ++ (fam a b (l'.map gm) ++ R))) := by
      funext m
      rw [← setOuts_lkH]
      by_cases h0 : m = dn
      · subst h0
        rw [setOuts_at (i := 0) (E := ⟨e, z, nr a fN b l', s, false⟩) hnd rfl rfl, lkAt, mine_of hE]
      · rw [lkH_cons, if_neg h0]
        rcases fam_cases (a := a) (b := b) (Es := l.map gm) m with ⟨i, E, hi, rfl⟩ | hm
        · have hil : i < l.length := by have := (List.getElem?_eq_some_iff.1 hi).1; rwa [List.length_map] at this
          have hil' : i < l'.length := by omega
          rw [setOuts_at (i := i + 1) (E := { gm l'[i] with mine := false }) hnd (hns hil) (by simp [List.getElem?_eq_getElem hil']), mine_of (hfam (List.getElem?_eq_getElem hil)), lk_app_none (hA i), fam_lk (E := gm l'[i]) (by simp [List.getElem?_eq_getElem hil'])]
          rw [hmi l[i] l'[i]]
        · rw [setOuts_other (fun hmem => by
            rcases List.mem_cons.1 hmem with h1 | h1
            · exact h0 h1
            · obtain ⟨i, hi, e⟩ := famN_iff.1 h1
              exact hm i (by rw [List.length_map]; exact hi) e)]
          refine lk_app_same ?_
          rw [fam_skip hm, fam_skip (fun i hi => hm i (by rw [List.length_map] at hi ⊢; omega))]
    rw [mkT_eqH key]; exact h

/-- As s_callRt, with a family there already. -/
theorem s_callRt2 {α : Type} {g : α → Entry} {l : List α} {H A : Hp} {a0 b0 : Nat} {Es : List Entry} {fop : Operand} {args : Array Operand} {tys : Array TypeId} {f : FuncId} {caps xs cargs : List V} {x y : V} {os os' : List (Nat × Entry)} {b : Nat} {kb : List Nm}
    (hH : H = A ++ (fam a0 b0 Es ++ [])) (ho : o.op = .call { callee := .value fop, args := args, argTypes := tys }) (hf : (mkT n T H).ev fop = .fn f caps) (hc : callable P f = true) (hrun : RunsG P f cargs [] x (os ++ famO b (l.map g)) [])
    (hx : args.toList.map (mkT n T H).ev ++ caps = xs) (hrel : ArgsR H [] kb xs cargs) (hos : OwnsR d [] (os' ++ famO b (l.map g)) isSc os os') (hgs : ∀ x, AllSc (g x).rows) (hgz : ∀ x r, r ∈ (g x).rows → r.length = (g x).z) (hr : RetRel d [] (os' ++ famO b (l.map g)) isSc x y)
    (hab : ∀ q E, (q, E) ∈ os' → lkH H (d, q) = none) (habF : ∀ i, lkH H (d, i + b) = none)
    (hd : o.dst = some d) (hn : Nat.blt d n = true) (hg : wantA ops (mkT n T H) o = some true) (h : RegT P ops (kp K kb []) rest (mkT n ((d, y) :: T) (os'.map (fun q => ((d, q.1), some q.2)) ++ (A ++ (fam a0 b0 Es ++ (fam d b (l.map g) ++ [])))))) : RegT P ops K (o :: rest) (mkT n T H) := by
  refine s_callRt ho hf hc hrun hx hrel hos hgs hgz hr hab habF hd hn hg ?_
  have e : H ++ (fam d b (l.map g) ++ []) = A ++ (fam a0 b0 Es ++ (fam d b (l.map g) ++ [])) := by
    rw [hH]; simp only [List.append_assoc, List.nil_append]
  rw [e]; exact h
end
end Go.Abs
/- The abstract layer, part 44: a state with two families of names read anew; both stay. -/
namespace Go.Abs
open Go

def srcK2 (l : List Item) (a b k a2 b2 k2 : Nat) (m : Nm) : Option Nm := match inFam a b k m with
  | true => some m
  | false => match inFam a2 b2 k2 m with
    | true => some m
    | false => itSrc l m
def nK2 (l : List Item) (a b k a2 b2 k2 : Nat) (m : Nm) : Option Nat := match inFam a b k m with
  | true => none
  | false => match inFam a2 b2 k2 m with
    | true => none
    | false => itN l m

section
variable {α : Type} {n : Nat} {T T' : Tm} {H : Hp} {l : List Item} {D : List Nm} {a b a2 b2 : Nat} {l1 l2 : List α} {g f1 : α → Entry} {k k2 : Nat}
theorem srcK2_1 {j : Nat} (hj : j < k) : srcK2 l a b k a2 b2 k2 (a, j + b) = some (a, j + b) := by
  unfold srcK2; rw [inFam_iff.2 ⟨j, hj, rfl⟩]
theorem srcK2_2 (h : Nat.beq a2 a = false) {j : Nat} (hj : j < k2) : srcK2 l a b k a2 b2 k2 (a2, j + b2) = some (a2, j + b2) := by
  unfold srcK2
  have : inFam a b k (a2, j + b2) = false := by
    unfold inFam; simp only [h]
  rw [this, inFam_iff.2 ⟨j, hj, rfl⟩]
theorem rowsCv_id {f : Nm → α → List V} {src : Nm → Option Nm} {D : List Nm} {N : Nm → Option Nat} {l : List α} (hs : ∀ j, j < l.length → src (a, j + b) = some (a, j + b)) (hcv : ∀ {src : Nm → Option Nm} {D : List Nm} {N : Nm → Option Nat} {m m' : Nm} (x : α), src m' = some m → CvL (lkH H) src D N (f m x) (f m' x)) :
    RowsCv (lkH H) src D N (nr a f b l) (nr a f b l) :=
  rowsCv_nr (by rw [nr_len]; exact Nat.le_refl _) fun j y hy => ⟨f (a, j + b) y, nr_get hy, hcv y (hs j (List.getElem?_eq_some_iff.1 hy).1)⟩
theorem famAll_of (h : (D.all fun m => !inFamAll a b m) = true) {j : Nat} : (a, j + b) ∉ D := fun hm => by
  have := List.all_eq_true.1 h _ hm
  have h1 : inFamAll a b (a, j + b) = true := by
    unfold inFamAll
    simp only [Nat.beq_refl]
    exact Nat.ble_eq_true_of_le (Nat.le_add_left ..)
  rw [h1] at this; cases this

theorem lk_K2 (h1 : (l.all fun q => !inFam a b l1.length q.1) = true) (h2 : (l.all fun q => !inFam a2 b2 l2.length q.1) = true) (hab : Nat.beq a2 a = false) (m : Nm) :
    (∃ j y, l1[j]? = some y ∧ m = (a, j + b) ∧ inFam a b l1.length m = true ∧ lkH (itH l ++ (fam a b (l1.map g) ++ (fam a2 b2 (l2.map g) ++ []))) m = some (some (g y))) ∨
    (∃ j y, l2[j]? = some y ∧ m = (a2, j + b2) ∧ inFam a b l1.length m = false ∧ inFam a2 b2 l2.length m = true ∧ lkH (itH l ++ (fam a b (l1.map g) ++ (fam a2 b2 (l2.map g) ++ []))) m = some (some (g y))) ∨
    (inFam a b l1.length m = false ∧ inFam a2 b2 l2.length m = false ∧ lkH (itH l ++ (fam a b (l1.map g) ++ (fam a2 b2 (l2.map g) ++ []))) m = lkH (itH l) m) := by
  cases q1 : inFam a b l1.length m with
  | true =>
    obtain ⟨j, hj, rfl⟩ := inFam_iff.1 q1
    refine .inl ⟨j, l1[j], List.getElem?_eq_getElem hj, rfl, rfl, ?_⟩
    rw [lk_app_none (lk_none_all fun q hq e => by
      have h3 := List.all_eq_true.1 h1 _ hq
      rw [e, q1] at h3; cases h3)]
    exact fam_lk (by rw [List.getElem?_map, List.getElem?_eq_getElem hj]; rfl)
  | false =>
    have hs1 : ∀ i, i < (l1.map g).length → m ≠ (a, i + b) := fun i hi e => by
      rw [List.length_map] at hi
      rw [inFam_iff.2 ⟨i, hi, e⟩] at q1; cases q1
    cases q2 : inFam a2 b2 l2.length m with
    | true =>
      obtain ⟨j, hj, rfl⟩ := inFam_iff.1 q2
      refine .inr (.inl ⟨j, l2[j], List.getElem?_eq_getElem hj, rfl, rfl, rfl, ?_⟩)
      rw [lk_app_none (lk_none_all fun q hq e => by
        have h3 := List.all_eq_true.1 h2 _ hq
        rw [e, q2] at h3; cases h3), fam_skip hs1]
      exact fam_lk (by rw [List.getElem?_map, List.getElem?_eq_getElem hj]; rfl)
    | false =>
      refine .inr (.inr ⟨rfl, rfl, ?_⟩)
      have e : lkH (fam a b (l1.map g) ++ (fam a2 b2 (l2.map g) ++ [])) m = lkH [] m := by
        rw [fam_skip hs1, fam_skip fun i hi e => by
          rw [List.length_map] at hi
          rw [inFam_iff.2 ⟨i, hi, e⟩] at q2; cases q2]
      rw [lk_app_same (C := []) e, List.append_nil]

theorem entK2 (hl : itemsX H (srcK2 l a b l1.length a2 b2 l2.length) D (nK2 l a b l1.length a2 b2 l2.length) l) (hD : dropsOk H D) (hap : itApart l = true) (hab : Nat.beq a2 a = false) (hsa1 : srcApart a b l = true) (hsa2 : srcApart a2 b2 l = true)
    (h1 : (l.all fun q => !inFam a b l1.length q.1) = true) (h2 : (l.all fun q => !inFam a2 b2 l2.length q.1) = true) (hDa1 : (D.all fun m => !inFamAll a b m) = true) (hDa2 : (D.all fun m => !inFamAll a2 b2 m) = true)
    (hf1 : ∀ j y, l1[j]? = some y → lkH H (a, j + b) = some (some (g y))) (hf2 : ∀ j y, l2[j]? = some y → lkH H (a2, j + b2) = some (some (g y))) (hgf : ∀ x, AllFree (g x).rows) (hgz : ∀ x r, r ∈ (g x).rows → r.length = (g x).z)
    (hb : ∀ j, lkH H (1000, j) = none) (hT : cvF H (srcK2 l a b l1.length a2 b2 l2.length) D (nK2 l a b l1.length a2 b2 l2.length) T T') :
    Ent (mkT n T H) (mkT n T' (itH l ++ (fam a b (l1.map g) ++ (fam a2 b2 (l2.map g) ++ [])))) := by
  have hab' : a2 ≠ a := Nat.ne_of_beq_eq_false hab
  refine Ent.mk (src := srcK2 l a b l1.length a2 b2 l2.length) (D := D) (N := nK2 l a b l1.length a2 b2 l2.length) rfl ?_ (cvF_all hT)
  have hlk := lk_K2 (g := g) h1 h2 hab
  rw [mkT_hp]
  have hsrc3 : ∀ m, inFam a b l1.length m = false → inFam a2 b2 l2.length m = false → srcK2 l a b l1.length a2 b2 l2.length m = itSrc l m ∧ nK2 l a b l1.length a2 b2 l2.length m = itN l m := fun m q1 q2 => by
    unfold srcK2 nK2; rw [q1, q2]; exact ⟨rfl, rfl⟩
  have hinj : ∀ m m', srcK2 l a b l1.length a2 b2 l2.length m = some m' → (inFam a b l1.length m = true ∧ m = m') ∨ (inFam a b l1.length m = false ∧ inFam a2 b2 l2.length m = true ∧ m = m') ∨ (inFam a b l1.length m = false ∧ inFam a2 b2 l2.length m = false ∧ itSrc l m = some m') := fun m m' h => by
    unfold srcK2 at h
    cases q1 : inFam a b l1.length m with
    | true => rw [q1] at h; exact .inl ⟨rfl, Option.some.inj h⟩
    | false =>
      rw [q1] at h
      cases q2 : inFam a2 b2 l2.length m with
      | true => rw [q2] at h; exact .inr (.inl ⟨rfl, rfl, Option.some.inj h⟩)
      | false => rw [q2] at h; exact .inr (.inr ⟨rfl, rfl, h⟩)
  have ap1 : ∀ {m m' : Nm}, itSrc l m = some m' → inFam a b l1.length m' = false := fun {m m'} h => by
    cases q : inFam a b l1.length m' with
    | false => rfl
    | true =>
      obtain ⟨j, hj, rfl⟩ := inFam_iff.1 q
      obtain ⟨E, hm⟩ := itSrc_of h
      exact absurd rfl (srcApart_of hsa1 (j := j) hm)
  have ap2 : ∀ {m m' : Nm}, itSrc l m = some m' → inFam a2 b2 l2.length m' = false := fun {m m'} h => by
    cases q : inFam a2 b2 l2.length m' with
    | false => rfl
    | true =>
      obtain ⟨j, hj, rfl⟩ := inFam_iff.1 q
      obtain ⟨E, hm⟩ := itSrc_of h
      exact absurd rfl (srcApart_of hsa2 (j := j) hm)
  have nN : ∀ m m', srcK2 l a b l1.length a2 b2 l2.length m = some m' → nK2 l a b l1.length a2 b2 l2.length m = none := fun m m' h => by
    unfold nK2
    rcases hinj m m' h with ⟨q1, -⟩ | ⟨q1, q2, -⟩ | ⟨q1, q2, q3⟩
    · rw [q1]
    · rw [q1, q2]
    · rw [q1, q2]; exact itBoth q3
  refine ⟨fun k hk => dropsOk_mem hD hk, nN, fun k E' h => ?_, fun k k' E E' m _ _ h3 h4 => ?_, fun k h => ?_, fun i h => absurd (hb i) h⟩
  · rcases hlk k with ⟨j, y, hy, rfl, q1, e⟩ | ⟨j, y, hy, rfl, q1, q2, e⟩ | ⟨q1, q2, e⟩
    · rw [e] at h
      obtain rfl : g y = E' := Option.some.inj (Option.some.inj h)
      have hr := rowsCv_eq (src := srcK2 l a b l1.length a2 b2 l2.length) (D := D) (N := nK2 l a b l1.length a2 b2 l2.length) (hp := lkH H) (rfl : (g y).rows = (g y).rows) (hgf y)
      exact .inr ⟨_, g y, srcK2_1 (List.getElem?_eq_some_iff.1 hy).1, hf1 j y hy, famAll_of hDa1, rfl, rfl, rfl, id, hr.1, hgz y, hr.2⟩
    · rw [e] at h
      obtain rfl : g y = E' := Option.some.inj (Option.some.inj h)
      have hr := rowsCv_eq (src := srcK2 l a b l1.length a2 b2 l2.length) (D := D) (N := nK2 l a b l1.length a2 b2 l2.length) (hp := lkH H) (rfl : (g y).rows = (g y).rows) (hgf y)
      exact .inr ⟨_, g y, srcK2_2 hab (List.getElem?_eq_some_iff.1 hy).1, hf2 j y hy, famAll_of hDa2, rfl, rfl, rfl, id, hr.1, hgz y, hr.2⟩
    · rw [e] at h
      obtain ⟨e1, e2⟩ := hsrc3 k q1 q2
      rw [e1, e2]
      rcases itH_some h with ⟨-, h2, h3⟩ | ⟨m, h1, h2⟩
      · exact .inl ⟨h2, itemsX_mem hl h3⟩
      · obtain ⟨hd, E, g1, g2, g3, g4, g5, ⟨g6, g7⟩, g8⟩ := itemsX_mem hl h2
        refine .inr ⟨m, E, h1, g1, fun hm => ?_, g2, g3, g4, g5, g6, g8, g7⟩
        have : D.any (nmEq m) = true := List.any_eq_true.2 ⟨m, hm, nmEq_iff.2 rfl⟩
        rw [this] at hd; cases hd
  · rcases hinj k m h3 with ⟨q1, e⟩ | ⟨q1, q2, e⟩ | ⟨q1, q2, e⟩ <;> rcases hinj k' m h4 with ⟨p1, e'⟩ | ⟨p1, p2, e'⟩ | ⟨p1, p2, e'⟩
    · rw [e, e']
    · rw [e, e']
    · subst e; rw [ap1 e'] at q1; cases q1
    · rw [e, e']
    · rw [e, e']
    · subst e; rw [ap2 e'] at q2; cases q2
    · subst e'; rw [ap1 e] at p1; cases p1
    · subst e'; rw [ap2 e] at p2; cases p2
    · exact itApart_inj hap e e'
  · rcases hlk k with ⟨j, y, hy, rfl, q1, e⟩ | ⟨j, y, hy, rfl, q1, q2, e⟩ | ⟨q1, q2, e⟩
    · rw [e] at h; cases h
    · rw [e] at h; cases h
    · rw [e] at h
      obtain ⟨e1, e2⟩ := hsrc3 k q1 q2
      rw [e1, e2]; exact itH_none h
end
end Go.Abs
