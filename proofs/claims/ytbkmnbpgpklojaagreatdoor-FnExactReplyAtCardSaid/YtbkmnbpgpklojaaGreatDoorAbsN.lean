import Derived.Test.YtbkmnbpgpklojaaGreatDoorAbsA37
/- The abstract layer, part 34: lists whose rows hold a list each, in loops: zero rows, a row set anew from lists of other names, a row's own list written. -/
namespace Go.Abs
open Go

section
variable {α : Type} {n : Nat} {T T' : Tm} {H : Hp} {dn c : Nm} {e : TypeId} {z a b : Nat} {f : Nm → α → List V} {g : α → Entry} {l : List α} {i : Nat} {x : α} {s mi : Bool} {rows : List (List V)}

theorem rowZ_nils {zs : List Value} {row : List V} (t : RowZ zs row) : RowZ (.slice none 0 0 :: zs) (.nils :: row) := ⟨by simp [t.1], fun j v hv => by
  cases j with
  | zero => simp only [List.getElem?_cons_zero, Option.some.injEq] at hv; subst hv; exact ⟨.nils, rfl, fun _ _ _ => .nils⟩
  | succ j => simpa using t.2 j v (by simpa using hv)⟩

theorem lkNo {k m : Nm} {e : Option Entry} {H : Hp} (h : nmEq m k = false) (t : lkH H m = none) : lkH ((k, e) :: H) m = none := by simp only [lkH, h]; exact t
theorem lkTo {k m : Nm} {e : Option Entry} {H : Hp} {x : Option (Option Entry)} (h : nmEq m k = false) (t : lkH H m = x) : lkH ((k, e) :: H) m = x := by simp only [lkH, h]; exact t
theorem hab1 {H : Hp} {d q : Nat} {E : Entry} (h : lkH H (d, q) = none) : ([(q, E)].all fun q => (lkH H (d, q.1)).isNone) = true := by simp [h]

theorem lk_head {E : Entry} {Es : List Entry} (hdn : ∀ k, inFam a b k dn = false) : lkH ((dn, some E) :: (fam a b Es ++ [])) = lkH (fam a b Es ++ itH [(dn, E, some dn)]) := by
  have := lk_comm (d := a) (b := b) (Es := Es) (H := [(dn, some E)]) (R := []) (fun i hi => by
    rw [List.append_nil, lkH_cons, if_neg (fun q => by
      have h1 := hdn Es.length
      rw [← q, inFam_iff.2 ⟨i, hi, rfl⟩] at h1; cases h1)]
    rfl)
  simpa [itH] using this

theorem nest_ent {E : Entry} {Es : List Entry} {S : Nat → Option Nm} (hdn : ∀ k, inFam a b k dn = false)
    (hi : ItemX H (srcF [(dn, E, some dn)] a b Es.length S) [] (nF [(dn, E, some dn)] a b Es S) (dn, E, some dn)) (hf : FamOk H [(dn, E, some dn)] [] a b Es S)
    (hT : cvF H (srcF [(dn, E, some dn)] a b Es.length S) [] (nF [(dn, E, some dn)] a b Es S) T T') : Ent (mkT n T H) (mkT n T' ((dn, some E) :: (fam a b Es ++ []))) :=
  entF [(dn, E, some dn)] [] a b Es S ⟨hi, trivial⟩ trivial rfl hf (lk_head hdn) hT

/-- Zero rows: their lists are empty. -/
theorem nest_zero {zr : List V} {x0 : α} {k : Nat} (hE : lkH H dn = some (some ⟨e, z, rows, s, mi⟩)) (hr : rows = (List.replicate k ()).map (fun _ => zr)) (hz : ∀ m x, (f m x).length = z)
    (hzr : ∀ {src : Nm → Option Nm} {D : List Nm} {N : Nm → Option Nat} {m : Nm} {w : Nat}, N m = some w → CvL (lkH H) src D N zr (f m x0)) (hg : (g x0).rows = []) (hdn : ∀ k, inFam a b k dn = false) (hb : ∀ j, lkH H (1000, j) = none)
    (hT : cvF H (srcF [(dn, ⟨e, z, nr a f b (List.replicate k x0), s, mi⟩, some dn)] a b ((List.replicate k x0).map g).length (fun _ => none)) [] (nF [(dn, ⟨e, z, nr a f b (List.replicate k x0), s, mi⟩, some dn)] a b ((List.replicate k x0).map g) (fun _ => none)) T T') :
    Ent (mkT n T H) (mkT n T' ((dn, some ⟨e, z, nr a f b (List.replicate k x0), s, mi⟩) :: (fam a b ((List.replicate k x0).map g) ++ []))) := by
  have hrep : ∀ {i : Nat} {x : α}, (List.replicate k x0)[i]? = some x → i < k ∧ x = x0 := fun {i x} hx => by
    rw [List.getElem?_replicate] at hx
    split at hx
    · rename_i h; exact ⟨h, (Option.some.inj hx).symm⟩
    · cases hx
  refine nest_ent hdn ⟨rfl, _, hE, rfl, rfl, rfl, id, rowsCv_nr ?_ (fun i x hx => ?_), nr_rowsZ hz⟩ ⟨fun i E' hE' => ?_, fun i j m _ _ h => (by cases h), fun i m _ h => (by cases h), ?_, fun j h => absurd (hb j) h⟩ hT
  · subst hr; simp
  · obtain ⟨h1, rfl⟩ := hrep hx
    refine ⟨zr, by subst hr; simp [h1], hzr (w := (g x).z) (nF_at (E := g x) ?_ rfl)⟩
    rw [List.getElem?_map, hx]; rfl
  · show E'.rows = []
    rw [List.getElem?_map] at hE'
    obtain ⟨y, hy, rfl⟩ := Option.map_eq_some_iff.1 hE'
    rw [(hrep hy).2]; exact hg
  · simp [hdn]

theorem set_cases {j : Nat} {y : α} (h : (l.set i x)[j]? = some y) : (j = i ∧ y = x ∧ i < l.length) ∨ (j ≠ i ∧ l[j]? = some y) := by
  by_cases e : j = i
  · subst e
    by_cases hi : j < l.length
    · rw [List.getElem?_set_self hi] at h; exact .inl ⟨rfl, (Option.some.inj h).symm, hi⟩
    · rw [List.getElem?_eq_none (by rw [List.length_set]; omega)] at h; cases h
  · rw [List.getElem?_set_ne (Ne.symm e)] at h; exact .inr ⟨e, h⟩

/-- A row is set, from a row whose list has another name. -/
theorem nest_set (hE : lkH H dn = some (some ⟨e, z, rows, s, mi⟩)) (hrows : rows = (nr a f b l).set i (f c x)) (hc : lkH H c = some (some (g x))) (hf : ∀ j y, l[j]? = some y → lkH H (a, j + b) = some (some (g y))) (hz : ∀ m x, (f m x).length = z)
    (hcv : ∀ {src : Nm → Option Nm} {D : List Nm} {N : Nm → Option Nat} {m m' : Nm} (x : α), src m' = some m → CvL (lkH H) src D N (f m x) (f m' x)) (hgf : ∀ x, AllFree (g x).rows) (hgz : ∀ x r, r ∈ (g x).rows → r.length = (g x).z)
    (hdn : ∀ k, inFam a b k dn = false) (hca : Nat.beq c.1 a = false) (hcd : nmEq dn c = false) (hb : ∀ j, lkH H (1000, j) = none)
    (hT : cvF H (srcF [(dn, ⟨e, z, nr a f b (l.set i x), s, mi⟩, some dn)] a b ((l.set i x).map g).length (fun j => if j = i then some c else some (a, j + b))) [] (nF [(dn, ⟨e, z, nr a f b (l.set i x), s, mi⟩, some dn)] a b ((l.set i x).map g) (fun j => if j = i then some c else some (a, j + b))) T T') :
    Ent (mkT n T H) (mkT n T' ((dn, some ⟨e, z, nr a f b (l.set i x), s, mi⟩) :: (fam a b ((l.set i x).map g) ++ []))) := by
  have hne : ∀ j, c ≠ (a, j) := fun j q => Nat.ne_of_beq_eq_false hca (by rw [q])
  refine nest_ent hdn ⟨rfl, _, hE, rfl, rfl, rfl, id, rowsCv_nr ?_ (fun j y hy => ?_), nr_rowsZ hz⟩ ⟨fun j E' hE' => ?_, fun j j' m _ _ h3 h4 => ?_, fun j m hj h q hq => ?_, ?_, fun j h => absurd (hb j) h⟩ hT
  · subst hrows; simp [nr_len]
  · have hj : j < ((l.set i x).map g).length := by rw [List.length_map]; exact (List.getElem?_eq_some_iff.1 hy).1
    have hs := srcF_at (l := [(dn, (⟨e, z, nr a f b (l.set i x), s, mi⟩ : Entry), some dn)]) (a := a) (b := b) (s := fun j => if j = i then some c else some (a, j + b)) hj
    rcases set_cases hy with ⟨rfl, rfl, hi⟩ | ⟨hji, hy⟩
    · exact ⟨f c y, by subst hrows; rw [List.getElem?_set_self (by rw [nr_len]; exact hi)], hcv y (by rw [hs]; simp)⟩
    · exact ⟨f (a, j + b) y, by subst hrows; rw [List.getElem?_set_ne (Ne.symm hji), nr_get hy], hcv y (by rw [hs]; simp [hji])⟩
  · rw [List.getElem?_map] at hE'
    obtain ⟨y, hy, rfl⟩ := Option.map_eq_some_iff.1 hE'
    rcases set_cases hy with ⟨rfl, rfl, hi⟩ | ⟨hji, hy⟩
    · simp only [if_true]
      exact ⟨by simp, g y, hc, rfl, rfl, rfl, id, rowsCv_eq rfl (hgf y), hgz y⟩
    · simp only [hji, if_false]
      exact ⟨by simp, g y, hf j y hy, rfl, rfl, rfl, id, rowsCv_eq rfl (hgf y), hgz y⟩
  · by_cases e1 : j = i <;> by_cases e2 : j' = i
    · omega
    · simp only [e1, e2, if_true, if_false, Option.some.injEq] at h3 h4
      exact absurd (h3.trans h4.symm) (hne _)
    · simp only [e1, e2, if_true, if_false, Option.some.injEq] at h3 h4
      exact absurd (h4.trans h3.symm) (hne _)
    · simp only [e1, e2, if_false, Option.some.injEq] at h3 h4
      have := h3.trans h4.symm
      simp only [Prod.mk.injEq, true_and] at this; omega
  · rw [List.mem_singleton] at hq
    subst hq
    intro q
    have q : dn = m := Option.some.inj q
    subst q
    by_cases e1 : j = i
    · simp only [e1, if_true, Option.some.injEq] at h
      rw [nmEq_iff.2 h.symm] at hcd; cases hcd
    · simp only [e1, if_false, Option.some.injEq] at h
      have h1 := hdn ((l.set i x).map g).length
      rw [← h, inFam_iff.2 ⟨j, hj, rfl⟩] at h1; cases h1
  · simp [hdn]

/-- A row is written, its list under its own name: what the caller handed over. -/
theorem nest_keep (hE : lkH H dn = some (some ⟨e, z, rows, s, mi⟩)) (hrows : rows = nr a f b l) (hf : ∀ j y, l[j]? = some y → lkH H (a, j + b) = some (some (g y))) (hz : ∀ m x, (f m x).length = z)
    (hcv : ∀ {src : Nm → Option Nm} {D : List Nm} {N : Nm → Option Nat} {m m' : Nm} (x : α), src m' = some m → CvL (lkH H) src D N (f m x) (f m' x)) (hgf : ∀ x, AllFree (g x).rows) (hgz : ∀ x r, r ∈ (g x).rows → r.length = (g x).z)
    (hdn : ∀ k, inFam a b k dn = false) (hb : ∀ j, lkH H (1000, j) ≠ none → (1000, j) = dn ∨ ∃ i, i < l.length ∧ (1000, j) = (a, i + b))
    (hT : cvF H (srcF [(dn, ⟨e, z, nr a f b l, s, mi⟩, some dn)] a b (l.map g).length (fun j => some (a, j + b))) [] (nF [(dn, ⟨e, z, nr a f b l, s, mi⟩, some dn)] a b (l.map g) (fun j => some (a, j + b))) T T') :
    Ent (mkT n T H) (mkT n T' ((dn, some ⟨e, z, nr a f b l, s, mi⟩) :: (fam a b (l.map g) ++ []))) := by
  refine nest_ent hdn ⟨rfl, _, hE, rfl, rfl, rfl, id, rowsCv_nr ?_ (fun j y hy => ?_), nr_rowsZ hz⟩ ⟨fun j E' hE' => ?_, fun j j' m _ _ h3 h4 => ?_, fun j m hj h q hq => ?_, ?_, fun j h => ?_⟩ hT
  · subst hrows; simp [nr_len]
  · have hj : j < (l.map g).length := by rw [List.length_map]; exact (List.getElem?_eq_some_iff.1 hy).1
    have hs := srcF_at (l := [(dn, (⟨e, z, nr a f b l, s, mi⟩ : Entry), some dn)]) (a := a) (b := b) (s := fun j => some (a, j + b)) hj
    exact ⟨f (a, j + b) y, by subst hrows; rw [nr_get hy], hcv y hs⟩
  · rw [List.getElem?_map] at hE'
    obtain ⟨y, hy, rfl⟩ := Option.map_eq_some_iff.1 hE'
    exact ⟨by simp, g y, hf j y hy, rfl, rfl, rfl, id, rowsCv_eq rfl (hgf y), hgz y⟩
  · have := (Option.some.inj h3).trans (Option.some.inj h4).symm
    simp only [Prod.mk.injEq, true_and] at this; omega
  · rw [List.mem_singleton] at hq
    subst hq
    intro q
    have q : dn = m := Option.some.inj q
    have h : (a, j + b) = m := Option.some.inj h
    have h1 := hdn (l.map g).length
    rw [q, ← h, inFam_iff.2 ⟨j, hj, rfl⟩] at h1; cases h1
  · simp [hdn]
  · rcases hb j h with h1 | ⟨i, hi, h1⟩
    · rw [h1]
      unfold srcF
      rw [hdn]
      simp only [itSrc]
      rw [nmEq_iff.2 rfl]
    · rw [h1]; exact srcF_at (by rw [List.length_map]; exact hi)

theorem lk_headT {k : Nm} {E : Entry} {Es : List Entry} {a b : Nat} (hk : ∀ q, inFam a b q k = false) : lkH ((k, some E) :: (fam a b Es ++ [])) = lkH (fam a b Es ++ [(k, some E)]) := by
  have := lk_comm (d := a) (b := b) (Es := Es) (H := [(k, some E)]) (R := []) (fun i hi => by
    rw [List.append_nil, lkH_cons, if_neg (fun q => by
      have h1 := hk Es.length
      rw [← q, inFam_iff.2 ⟨i, hi, rfl⟩] at h1; cases h1)]
    rfl)
  simpa using this

/-- The end of a function that answers such a list. -/
theorem nest_endS {P : Program} {rs : List ResultVar} (hE : lkH H dn = some (some ⟨e, z, nr a f b l, s, true⟩)) (hf : ∀ j y, l[j]? = some y → lkH H (a, j + b) = some (some (g y))) (hz : ∀ m x, (f m x).length = z)
    (hcv : ∀ {src : Nm → Option Nm} {D : List Nm} {N : Nm → Option Nat} {m m' : Nm} (x : α), src m' = some m → CvL (lkH H) src D N (f m x) (f m' x)) (hgf : ∀ x, AllFree (g x).rows) (hgz : ∀ x r, r ∈ (g x).rows → r.length = (g x).z)
    (hdn : ∀ k, inFam a b k dn = false) (hb : ∀ j, lkH H (1000, j) = none) (hx : ResVs P (mkT n T H) rs [.ref dn 0 l.length]) :
    EndG P rs (.ref (2000, 0) 0 l.length) ((0, ⟨e, z, nr 2000 f 10000 l, s, true⟩) :: famO 10000 (l.map g)) [] (mkT n T H) := by
  have hS : ∀ j, j < l.length → srcF [((2000, 0), (⟨e, z, nr 2000 f 10000 l, s, true⟩ : Entry), some dn)] 2000 10000 (l.map g).length (fun j => some (a, j + b)) (2000, j + 10000) = some (a, j + b) := fun j hj => srcF_at (by rw [List.length_map]; exact hj)
  refine ⟨_, hx, srcF [((2000, 0), (⟨e, z, nr 2000 f 10000 l, s, true⟩ : Entry), some dn)] 2000 10000 (l.map g).length (fun j => some (a, j + b)), [], nF [((2000, 0), (⟨e, z, nr 2000 f 10000 l, s, true⟩ : Entry), some dn)] 2000 10000 (l.map g) (fun j => some (a, j + b)), ?_, ?_⟩
  · refine re_fam (l := [((2000, 0), (⟨e, z, nr 2000 f 10000 l, s, true⟩ : Entry), some dn)]) (D := []) (a := 2000) (b := 10000) (Es := l.map g) (s := fun j => some (a, j + b)) ⟨⟨rfl, _, hE, rfl, rfl, rfl, id, rowsCv_nr ?_ (fun j y hy => ?_), nr_rowsZ hz⟩, trivial⟩ trivial rfl ⟨fun j E' hE' => ?_, fun j j' m _ _ h3 h4 => ?_, fun j m hj h q hq => ?_, rfl, fun j h => absurd (hb j) h⟩ ?_
    · simp [nr_len]
    · exact ⟨f (a, j + b) y, nr_get hy, hcv y (hS j (List.getElem?_eq_some_iff.1 hy).1)⟩
    · rw [List.getElem?_map] at hE'
      obtain ⟨y, hy, rfl⟩ := Option.map_eq_some_iff.1 hE'
      exact ⟨by simp, g y, hf j y hy, rfl, rfl, rfl, id, rowsCv_eq rfl (hgf y), hgz y⟩
    · have := (Option.some.inj h3).trans (Option.some.inj h4).symm
      simp only [Prod.mk.injEq, true_and] at this; omega
    · rw [List.mem_singleton] at hq
      subst hq
      intro q
      have q : dn = m := Option.some.inj q
      have h : (a, j + b) = m := Option.some.inj h
      rw [List.length_map] at hj
      have h1 := hdn l.length
      rw [q, ← h, inFam_iff.2 ⟨j, hj, rfl⟩] at h1; cases h1
    · show addOwns 2000 ((0, _) :: famO 10000 (l.map g)) (argHp []) = _
      have e0 : argHp [] = lkH [] := by funext m; unfold argHp; simp [lkH]
      rw [e0, addOwns_lkH, List.map_cons, famO_map]
      exact lk_headT (k := (2000, 0)) (fun _ => rfl)
  · exact .ref rfl
end
end Go.Abs
/- The abstract layer, part 35: calls and ends of functions that hand on a list whose rows hold a list each. -/
namespace Go.Abs
open Go

section
variable {α : Type} {n : Nat} {T T' : Tm} {H : Hp} {e : TypeId} {z a b a' b' : Nat} {f : Nm → α → List V} {g : α → Entry} {l : List α}

theorem rowsCv_fam {items : List Item} {D : List Nm} {N : Nm → Option Nat} (hcv : ∀ {src : Nm → Option Nm} {D : List Nm} {N : Nm → Option Nat} {m m' : Nm} (x : α), src m' = some m → CvL (lkH H) src D N (f m x) (f m' x)) :
    RowsCv (lkH H) (srcF items a' b' (l.map g).length (fun j => some (a, j + b))) D N (nr a f b l) (nr a' f b' l) :=
  rowsCv_nr (by rw [nr_len]; exact Nat.le_refl _) fun j y hy => ⟨f (a, j + b) y, nr_get hy, hcv y (srcF_at (by rw [List.length_map]; exact (List.getElem?_eq_some_iff.1 hy).1))⟩

def inFamAll (a b : Nat) (m : Nm) : Bool := match Nat.beq m.1 a with | true => Nat.ble b m.2 | false => false
def srcApart (a b : Nat) (l : List Item) : Bool := l.all fun q => match q.2.2 with | some m => !inFamAll a b m | none => true
theorem srcApart_of {items : List Item} (h : srcApart a b items = true) {j : Nat} {q : Item} (hq : q ∈ items) : q.2.2 ≠ some (a, j + b) := fun hs => by
  have := List.all_eq_true.1 h q hq
  rw [hs] at this
  have h1 : inFamAll a b (a, j + b) = true := by
    unfold inFamAll
    simp only [Nat.beq_refl]
    exact Nat.ble_eq_true_of_le (Nat.le_add_left ..)
  simp [h1] at this

theorem nest_end {P : Program} {rs : List ResultVar} {x : V} {xs : List V} (items : List Item) (own0 : List (Nat × Entry)) (hx : ResVs P (mkT n T H) rs xs)
    (hi : itemsX H (srcF items 2000 10000 (l.map g).length (fun j => some (a, j + b))) [] (nF items 2000 10000 (l.map g) (fun j => some (a, j + b))) items) (hap : itApart items = true) (hsa : srcApart a b items = true)
    (hno : ∀ i, lkH (itH items) (2000, i + 10000) = none) (hout : (items.all fun q => !inFam 2000 10000 (l.map g).length q.1) = true) (hf : ∀ j y, l[j]? = some y → lkH H (a, j + b) = some (some (g y))) (hgf : ∀ x, AllFree (g x).rows) (hgz : ∀ x r, r ∈ (g x).rows → r.length = (g x).z)
    (hb : ∀ j, lkH H (1000, j) = none) (hh : own0.map (fun q => ((2000, q.1), some q.2)) = itH items)
    (hv : Cv (lkH H) (srcF items 2000 10000 (l.map g).length (fun j => some (a, j + b))) [] (nF items 2000 10000 (l.map g) (fun j => some (a, j + b))) (resOne xs) x) :
    EndG P rs x (own0 ++ famO 10000 (l.map g)) [] (mkT n T H) := by
  refine ⟨_, hx, srcF items 2000 10000 (l.map g).length (fun j => some (a, j + b)), [], nF items 2000 10000 (l.map g) (fun j => some (a, j + b)), ?_, hv⟩
  refine re_fam hi trivial hap ⟨fun j E' hE' => ?_, fun j j' m _ _ h3 h4 => ?_, fun j m hj h q hq => ?_, hout, fun j h => absurd (hb j) h⟩ ?_
  · rw [List.getElem?_map] at hE'
    obtain ⟨y, hy, rfl⟩ := Option.map_eq_some_iff.1 hE'
    exact ⟨by simp, g y, hf j y hy, rfl, rfl, rfl, id, rowsCv_eq rfl (hgf y), hgz y⟩
  · have := (Option.some.inj h3).trans (Option.some.inj h4).symm
    simp only [Prod.mk.injEq, true_and] at this; omega
  · have h : (a, j + b) = m := Option.some.inj h
    rw [← h]; exact srcApart_of hsa hq
  · show addOwns 2000 (own0 ++ famO 10000 (l.map g)) (argHp []) = _
    have e0 : argHp [] = lkH [] := by funext m; unfold argHp; simp [lkH]
    rw [e0, addOwns_lkH, List.map_append, famO_map, hh, List.append_assoc]
    have := lk_comm (d := 2000) (b := 10000) (Es := l.map g) (H := itH items) (R := []) (fun i _ => by rw [List.append_nil]; exact hno i)
    rw [this, List.append_nil]
end

section
variable {P : Program} {n : Nat} {T : Tm} {H : Hp} {o : Oper} {ops : Array Oper} {K : Lg → St → Prop} {rest : List Oper} {d : Nat}
/-- A call whose result owns a list of rows with lists: the rows' lists stand behind all else. -/
theorem s_callRt {α : Type} {g : α → Entry} {l : List α} {fop : Operand} {args : Array Operand} {tys : Array TypeId} {f : FuncId} {caps xs cargs : List V} {x y : V} {os os' : List (Nat × Entry)} {b : Nat} {kb : List Nm}
    (ho : o.op = .call { callee := .value fop, args := args, argTypes := tys }) (hf : (mkT n T H).ev fop = .fn f caps) (hc : callable P f = true) (hrun : RunsG P f cargs [] x (os ++ famO b (l.map g)) [])
    (hx : args.toList.map (mkT n T H).ev ++ caps = xs) (hrel : ArgsR H [] kb xs cargs) (hos : OwnsR d [] (os' ++ famO b (l.map g)) isSc os os') (hgs : ∀ x, AllSc (g x).rows) (hgz : ∀ x r, r ∈ (g x).rows → r.length = (g x).z) (hr : RetRel d [] (os' ++ famO b (l.map g)) isSc x y)
    (hab : ∀ q E, (q, E) ∈ os' → lkH H (d, q) = none) (habF : ∀ i, lkH H (d, i + b) = none)
    (hd : o.dst = some d) (hn : Nat.blt d n = true) (hg : wantA ops (mkT n T H) o = some true) (h : RegT P ops (kp K kb []) rest (mkT n ((d, y) :: T) (os'.map (fun q => ((d, q.1), some q.2)) ++ (H ++ (fam d b (l.map g) ++ []))))) : RegT P ops K (o :: rest) (mkT n T H) := by
  refine s_callR ho hf hc hrun hx hrel hos (fun E hE => ?_) hr hab (fun i _ => habF i) ?_ hd hn hg h
  · obtain ⟨x, -, rfl⟩ := List.mem_map.1 hE
    exact ⟨hgs x, hgz x⟩
  · have h1 := lk_comm (d := d) (b := b) (Es := l.map g) (H := H) (R := []) (fun i _ => by rw [List.append_nil]; exact habF i)
    rw [List.append_nil H] at h1
    funext m
    have : ∀ (A : Hp) {B C : Hp}, lkH B = lkH C → lkH (A ++ B) = lkH (A ++ C) := fun A {B C} hBC => by
      induction A with
      | nil => exact hBC
      | cons p A ih => obtain ⟨k, e⟩ := p; funext m; rw [List.cons_append, List.cons_append, lkH_cons, lkH_cons, ih]
    rw [this _ h1]
end
end Go.Abs
/- The abstract layer, part 36: functions that write a list whose rows hold a list each, handed over by their caller. -/
namespace Go.Abs
open Go

theorem lkAt {k : Nm} {e : Option Entry} {H : Hp} : lkH ((k, e) :: H) k = some e := by rw [lkH_cons, if_pos rfl]
theorem mine_of {H : Hp} {m : Nm} {E : Entry} (h : lkH H m = some (some E)) : mineOf (lkH H) m = E.mine := by unfold mineOf; rw [h]
theorem outsL_fam : ∀ (Es : List Entry) (i : Nat), outsL i Es = fam 1000 i Es
  | [], _ => rfl
  | E :: Es, i => by rw [outsL, fam, outsL_fam Es]
theorem outsL_app : ∀ (es Es : List Entry) (i : Nat), outsL i (es ++ Es) = outsL i es ++ outsL (i + es.length) Es
  | [], Es, i => rfl
  | E :: es, Es, i => by
    rw [List.cons_append, outsL, outsL, outsL_app es Es (i + 1), List.cons_append, List.length_cons, show i + 1 + es.length = i + (es.length + 1) by omega]
theorem nmEq_ne {a i j b : Nat} (h : i ≠ j) : nmEq (a, i + b) (a, j + b) = false := by
  cases hh : nmEq (a, i + b) (a, j + b) with
  | false => rfl
  | true => have := nmEq_iff.1 hh; simp only [Prod.mk.injEq, true_and] at this; omega

/-- The memory holds what the caller handed over, and no more of such names. -/
def OnlyP (H : Hp) (b k : Nat) : Prop := ∀ j, lkH H (1000, j) ≠ none → j < b ∨ ∃ i, i < k ∧ j = i + b
theorem only_fam {b : Nat} {Es : List Entry} : OnlyP (fam 1000 b Es ++ []) b Es.length := fun j h => by
  rcases fam_cases (a := 1000) (b := b) (Es := Es) (1000, j) with ⟨i, E, hi, e⟩ | hm
  · right
    simp only [Prod.mk.injEq, true_and] at e
    exact ⟨i, (List.getElem?_eq_some_iff.1 hi).1, e⟩
  · exact absurd (by rw [fam_skip hm]; rfl) h
theorem only_lit {b k c : Nat} {e : Option Entry} {H : Hp} (hc : c < b) (h : OnlyP H b k) : OnlyP (((1000, c), e) :: H) b k := fun j hj => by
  rw [lkH_cons] at hj
  split at hj
  · rename_i q; simp only [Prod.mk.injEq, true_and] at q; left; omega
  · exact h j hj
theorem only_mem {b k i : Nat} {e : Option Entry} {H : Hp} (hi : i < k) (h : OnlyP H b k) : OnlyP (((1000, i + b), e) :: H) b k := fun j hj => by
  rw [lkH_cons] at hj
  split at hj
  · rename_i q; simp only [Prod.mk.injEq, true_and] at q; exact .inr ⟨i, hi, q⟩
  · exact h j hj
theorem only_oth {b k a c : Nat} {e : Option Entry} {H : Hp} (ha : Nat.beq 1000 a = false) (h : OnlyP H b k) : OnlyP (((a, c), e) :: H) b k := fun j hj => by
  rw [lkH_cons] at hj
  split at hj
  · rename_i q; simp only [Prod.mk.injEq] at q; exact absurd q.1 (Nat.ne_of_beq_eq_false ha)
  · exact h j hj

section
variable {α : Type} {n : Nat} {T T' : Tm} {H : Hp} {e : TypeId} {z b : Nat} {f : Nm → α → List V} {g : α → Entry} {l : List α}

theorem nest_mark {s mi : Bool} {rows : List (List V)} (hE : lkH H (1000, 0) = some (some ⟨e, z, rows, s, mi⟩)) (hrows : rows = nr 1000 f 1 l) (hf : ∀ j y, l[j]? = some y → lkH H (1000, j + 1) = some (some (g y))) (hz : ∀ m x, (f m x).length = z)
    (hcv : ∀ {src : Nm → Option Nm} {D : List Nm} {N : Nm → Option Nat} {m m' : Nm} (x : α), src m' = some m → CvL (lkH H) src D N (f m x) (f m' x)) (hgf : ∀ x, AllFree (g x).rows) (hgz : ∀ x r, r ∈ (g x).rows → r.length = (g x).z)
    (hb : OnlyP H 1 l.length)
    (hT : cvF H (srcF [((1000, 0), ⟨e, z, nr 1000 f 1 l, s, mi⟩, some (1000, 0))] 1000 1 (l.map g).length (fun j => some (1000, j + 1))) [] (nF [((1000, 0), ⟨e, z, nr 1000 f 1 l, s, mi⟩, some (1000, 0))] 1000 1 (l.map g) (fun j => some (1000, j + 1))) T T') :
    Ent (mkT n T H) (mkT n T' (((1000, 0), some ⟨e, z, nr 1000 f 1 l, s, mi⟩) :: (fam 1000 1 (l.map g) ++ []))) :=
  nest_keep hE hrows hf hz hcv hgf hgz (fun _ => rfl) (fun j h => by
    rcases hb j h with h1 | ⟨i, hi, rfl⟩
    · left; rw [show j = 0 by omega]
    · exact .inr ⟨i, hi, rfl⟩) hT

/-- The end of a function that wrote such a list, and answers a scalar. -/
theorem nest_endB {P : Program} {rs : List ResultVar} {r : Value} (items : List Item) (es : List Entry) (hx : ResVs P (mkT n T H) rs [.sc r]) (hsc : scalar r = true)
    (hi : itemsX H (srcF items 1000 b (l.map g).length (fun j => some (1000, j + b))) [] (nF items 1000 b (l.map g) (fun j => some (1000, j + b))) items) (hap : itApart items = true) (hsa : srcApart 1000 b items = true)
    (hno : ∀ i, lkH (itH items) (1000, i + b) = none) (hout : (items.all fun q => !inFam 1000 b (l.map g).length q.1) = true) (hf : ∀ j y, l[j]? = some y → lkH H (1000, j + b) = some (some (g y))) (hgf : ∀ x, AllFree (g x).rows) (hgz : ∀ x r, r ∈ (g x).rows → r.length = (g x).z)
    (hb : OnlyP H b l.length) (hlow : ∀ j, j < b → srcF items 1000 b (l.map g).length (fun j => some (1000, j + b)) (1000, j) = some (1000, j)) (hl : es.length = b) (hh : outsL 0 es = itH items) :
    EndG P rs (.sc r) [] (es ++ l.map g) (mkT n T H) := by
  refine ⟨_, hx, srcF items 1000 b (l.map g).length (fun j => some (1000, j + b)), [], nF items 1000 b (l.map g) (fun j => some (1000, j + b)), ?_, .free rfl⟩
  refine re_fam hi trivial hap ⟨fun j E' hE' => ?_, fun j j' m _ _ h3 h4 => ?_, fun j m hj h q hq => ?_, hout, fun j h => ?_⟩ ?_
  · rw [List.getElem?_map] at hE'
    obtain ⟨y, hy, rfl⟩ := Option.map_eq_some_iff.1 hE'
    exact ⟨by simp, g y, hf j y hy, rfl, rfl, rfl, id, rowsCv_eq rfl (hgf y), hgz y⟩
  · have := (Option.some.inj h3).trans (Option.some.inj h4).symm
    simp only [Prod.mk.injEq, true_and] at this; omega
  · have h : (1000, j + b) = m := Option.some.inj h
    rw [← h]; exact srcApart_of hsa hq
  · rcases hb j h with h1 | ⟨i, hi, rfl⟩
    · exact hlow j h1
    · exact srcF_at (by rw [List.length_map]; exact hi)
  · show addOwns 2000 [] (argHp (es ++ l.map g)) = _
    have e0 : addOwns 2000 [] (argHp (es ++ l.map g)) = lkH (outsL 0 (es ++ l.map g)) := by
      funext m; rw [outsL_lk]; unfold addOwns argHp; by_cases h : m.1 = 1000 <;> simp [h]
    rw [e0, outsL_app, hh, Nat.zero_add, hl, outsL_fam]
    have := lk_comm (d := 1000) (b := b) (Es := l.map g) (H := itH items) (R := []) (fun i _ => by rw [List.append_nil]; exact hno i)
    rw [List.append_nil, List.append_nil] at this
    exact this
end
end Go.Abs
/- The abstract layer, part 38: a call that writes a list of rows with lists, and these lists; the state behind it told anew. -/
namespace Go.Abs
open Go

theorem outsL_one (E : Entry) (Es : List Entry) : outsL 0 ([E] ++ Es) = ((1000, 0), some E) :: (fam 1000 1 Es ++ []) := by
  rw [outsL_app, outsL_fam Es, List.append_nil]; rfl
theorem lk_app_none : ∀ {A B : Hp} {m : Nm}, lkH A m = none → lkH (A ++ B) m = lkH B m
  | [], _, _, _ => rfl
  | (k, e) :: A, B, m, h => by
    rw [lkH_cons] at h
    split at h
    · cases h
    · rename_i hne; rw [List.cons_append, lkH_cons, if_neg hne]; exact lk_app_none h
theorem lk_app_same : ∀ {A B C : Hp} {m : Nm}, lkH B m = lkH C m → lkH (A ++ B) m = lkH (A ++ C) m
  | [], _, _, _, h => h
  | (k, e) :: A, B, C, m, h => by rw [List.cons_append, List.cons_append, lkH_cons, lkH_cons, lk_app_same h]

section
variable {P : Program} {n : Nat} {T : Tm} {A : Hp} {o : Oper} {ops : Array Oper} {K : Lg → St → Prop} {rest : List Oper} {d : Nat}
theorem s_callMn {α : Type} {fN : Nm → α → List V} {gm : α → Entry} {l l' : List α} {dn : Nm} {a b : Nat} {e : TypeId} {z : Nat} {s mi : Bool} {fop : Operand} {args : Array Operand} {tys : Array TypeId} {f : FuncId} {caps xs cargs : List V} {r : V}
    (ho : o.op = .call { callee := .value fop, args := args, argTypes := tys }) (hf : (mkT n T (A ++ (fam a b (l.map gm) ++ []))).ev fop = .fn f caps) (hc : callable P f = true)
    (hrun : RunsG P f cargs ([⟨e, z, nr 1000 fN 1 l, s, false⟩] ++ l.map fun x => { gm x with mine := false }) r [] ([⟨e, z, nr 1000 fN 1 l', s, false⟩] ++ l'.map fun x => { gm x with mine := false })) (hlen : l'.length = l.length)
    (hx : args.toList.map (mkT n T (A ++ (fam a b (l.map gm) ++ []))).ev ++ caps = xs) (hrel : ArgsR (A ++ (fam a b (l.map gm) ++ [])) (dn :: famN a b l.length) [] xs cargs) (hE : lkH (A ++ (fam a b (l.map gm) ++ [])) dn = some (some ⟨e, z, nr a fN b l, s, mi⟩)) (hA : ∀ j, lkH A (a, j + b) = none) (hdn : ∀ k, inFam a b k dn = false)
    (hz : ∀ m x, (fN m x).length = z) (hin : ∀ {ns : List Nm} {i : Nat} {m : Nm} (x : α), ns[i]? = some m → ArgsR (A ++ (fam a b (l.map gm) ++ [])) ns [] (fN m x) (fN (1000, i) x)) (hout : ∀ {ns : List Nm} {i : Nat} {m : Nm} (x : α), ns[i]? = some m → RetL d ns [] isSc (fN (1000, i) x) (fN m x))
    (hgs : ∀ x, AllSc (gm x).rows) (hgf : ∀ x, AllFree (gm x).rows) (hgz : ∀ x r, r ∈ (gm x).rows → r.length = (gm x).z) (hmi : ∀ x y, (gm x).mine = (gm y).mine) (hr : isScN r = true)
    (hd : o.dst = some d) (hn : Nat.blt d n = true) (hg : wantA ops (mkT n T (A ++ (fam a b (l.map gm) ++ []))) o = some true)
    (h : RegT P ops (kp K ((dn :: famN a b l.length) ++ []) ((dn :: famN a b l.length) ++ [])) rest (mkT n ((d, r) :: T) ((dn, some ⟨e, z, nr a fN b l', s, mi⟩) :: (A ++ (fam a b (l'.map gm) ++ []))))) : RegT P ops K (o :: rest) (mkT n T (A ++ (fam a b (l.map gm) ++ []))) := by
  have hns : ∀ {i}, i < l.length → (dn :: famN a b l.length)[i + 1]? = some (a, i + b) := fun {i} hi => by rw [List.getElem?_cons_succ]; exact famN_get hi
  have hfam : ∀ {i x}, l[i]? = some x → lkH (A ++ (fam a b (l.map gm) ++ [])) (a, i + b) = some (some (gm x)) := fun {i x} hx => by
    rw [lk_app_none (hA i)]; exact fam_lk (by rw [List.getElem?_map, hx]; rfl)
  have hnd : (dn :: famN a b l.length).Nodup := List.nodup_cons.2 ⟨(fun hm => by
    have h1 := hdn l.length
    rw [inFam_iff.2 (famN_iff.1 hm)] at h1
    cases h1), famN_nodup _ _ _⟩
  have hi2 : InsL (A ++ (fam a b (l.map gm) ++ [])) (dn :: famN a b l.length) [] (famN a b (l.map fun x => ({ gm x with mine := false } : Entry)).length) (l.map fun x => { gm x with mine := false }) :=
    insL_fam (Es' := []) (c := b) (fun i E hi => by
      rw [List.getElem?_map] at hi
      obtain ⟨x, hx, rfl⟩ := Option.map_eq_some_iff.1 hi
      exact ⟨gm x, hfam hx, insFlat (s := (gm x).str) (m := (gm x).mine) (hgf x) (hgz x)⟩) rfl
  rw [List.length_map] at hi2
  refine s_callI (ns := dn :: famN a b l.length) (outs' := [⟨e, z, nr a fN b l', s, false⟩] ++ l'.map fun x => { gm x with mine := false }) ho hf hc hrun hx hrel (.cons hE (insRows hz fun i x hx => hin x (hns (List.getElem?_eq_some_iff.1 hx).1)) hi2) hnd hr (by simp) (fun i E' hi => ?_) hd hn hg ?_
  · cases i with
    | zero =>
      simp only [List.cons_append, List.nil_append, List.getElem?_cons_zero, Option.some.injEq] at hi
      subst hi
      exact ⟨_, rfl, outRows hz fun i x hx => hout x (hns (by rw [← hlen]; exact (List.getElem?_eq_some_iff.1 hx).1))⟩
    | succ i =>
      simp only [List.cons_append, List.nil_append, List.getElem?_cons_succ, List.getElem?_map] at hi
      obtain ⟨x, hx, rfl⟩ := Option.map_eq_some_iff.1 hi
      exact ⟨{ gm x with mine := false }, by simp [hx], outSame (E := { gm x with mine := false }) (m := false) (hgs x) (hgz x)⟩
  · have key : lkH (outsH (dn :: famN a b l.length) ([⟨e, z, nr a fN b l', s, false⟩] ++ l'.map fun x => ({ gm x with mine := false } : Entry)) (A ++ (fam a b (l.map gm) ++ []))) = lkH ((dn, some ⟨e, z, nr a fN b l', s, mi⟩) :: (A ++ (fam a b (l'.map gm) ++ []))) := by
      funext m
      rw [← setOuts_lkH]
      by_cases h0 : m = dn
      · subst h0
        rw [setOuts_at (i := 0) (E := ⟨e, z, nr a fN b l', s, false⟩) hnd rfl rfl, lkAt, mine_of hE]
      · rw [lkH_cons, if_neg h0]
        rcases fam_cases (a := a) (b := b) (Es := l.map gm) m with ⟨i, E, hi, rfl⟩ | hm
        · have hil : i < l.length := by have := (List.getElem?_eq_some_iff.1 hi).1; rwa [List.length_map] at this
          have hil' : i < l'.length := by omega
          rw [setOuts_at (i := i + 1) (E := { gm l'[i] with mine := false }) hnd (hns hil) (by simp [List.getElem?_eq_getElem hil']), mine_of (hfam (List.getElem?_eq_getElem hil)), lk_app_none (hA i), fam_lk (E := gm l'[i]) (by simp [List.getElem?_eq_getElem hil'])]
          rw [hmi l[i] l'[i]]
        · rw [setOuts_other (fun hmem => by
            rcases List.mem_cons.1 hmem with h1 | h1
            · exact h0 h1
            · obtain ⟨i, hi, e⟩ := famN_iff.1 h1
              exact hm i (by rw [List.length_map]; exact hi) e)]
          refine lk_app_same ?_
          rw [fam_skip hm, fam_skip (fun i hi => hm i (by rw [List.length_map] at hi ⊢; omega))]
    rw [mkT_eqH key]; exact h
end
end Go.Abs
/- The abstract layer, part 39: the check of open order where an operation reads a family of names: the family is told by one name of its slot. -/
namespace Go.Abs
open Go

/-- The log lg is told by lg'; W: slots of which no name is written. -/
inductive Cov (W : List Nat) : Lg → Lg → Prop where
  | nil : Cov W [] []
  | cons {rs rs' ws : List Nm} {lg lg' : Lg} (hw : (ws.all fun m => !W.contains m.1) = true) (hr : ∀ m, m ∈ rs → m ∈ rs' ∨ (m.1 ∈ W ∧ ∃ m', m' ∈ rs' ∧ m'.1 = m.1)) (t : Cov W lg lg') : Cov W ((rs, ws) :: lg) ((rs', ws) :: lg')
theorem Cov.get {W : List Nat} {lg lg' : Lg} (h : Cov W lg lg') : ∀ j : Nat, (lg[j]? = none ∧ lg'[j]? = none) ∨ ∃ rs rs' ws : List Nm, lg[j]? = some (rs, ws) ∧ lg'[j]? = some (rs', ws) ∧ (∀ m : Nm, m ∈ ws → m.1 ∉ W) ∧ ∀ m : Nm, m ∈ rs → m ∈ rs' ∨ (m.1 ∈ W ∧ ∃ m' : Nm, m' ∈ rs' ∧ m'.1 = m.1) := by
  induction h with
  | nil => exact fun j => .inl ⟨rfl, rfl⟩
  | @cons rs rs' ws lg lg' hw hr _ ih =>
    intro j
    cases j with
    | zero => exact .inr ⟨rs, rs', ws, rfl, rfl, fun m hm hmW => by
        (have := List.all_eq_true.1 hw m hm
         rw [List.contains_iff_mem.2 hmW] at this
         cases this), hr⟩
    | succ j => simpa using ih j
theorem cov_self {rs : List Nm} {W : List Nat} : ∀ m, m ∈ rs → m ∈ rs ∨ (m.1 ∈ W ∧ ∃ m', m' ∈ rs ∧ m'.1 = m.1) := fun _ h => .inl h
theorem cov_fam {rs : List Nm} {W : List Nat} {a b k c : Nat} (hW : a ∈ W) (hc : (a, c) ∈ rs) : ∀ m, m ∈ rs ++ famN a b k → m ∈ rs ∨ (m.1 ∈ W ∧ ∃ m', m' ∈ rs ∧ m'.1 = m.1) := fun m hm => by
  rcases List.mem_append.1 hm with h | h
  · exact .inl h
  · obtain ⟨i, -, rfl⟩ := famN_iff.1 h
    exact .inr ⟨hW, (a, c), hc, rfl⟩
theorem apartN_cov {x y : Oper} {xr xr' xw yr yr' yw : List Nm} {W : List Nat} (h : apartN (x, (xr', xw)) (y, (yr', yw)) = true) (hw : ∀ m, m ∈ xw → m.1 ∉ W) (hr : ∀ m, m ∈ yr → m ∈ yr' ∨ (m.1 ∈ W ∧ ∃ m', m' ∈ yr' ∧ m'.1 = m.1)) : apartN (x, (xr, xw)) (y, (yr, yw)) = true := by
  unfold apartN at h ⊢
  simp only [Bool.and_eq_true, List.all_eq_true] at h ⊢
  obtain ⟨h1, h2⟩ := h
  refine ⟨fun m hm => ?_, ?_⟩
  · obtain ⟨⟨h3, h4⟩, h5⟩ := h1 m hm
    refine ⟨⟨?_, h4⟩, h5⟩
    simp only [Bool.not_eq_true', List.any_eq_false] at h3 ⊢
    intro q hq hmq
    have e := nmEq_iff.1 hmq
    subst e
    rcases hr m hq with h6 | ⟨h6, -⟩
    · exact h3 m h6 hmq
    · exact hw m hm h6
  · cases hd : x.dst with
    | none => rfl
    | some d =>
      rw [hd] at h2
      simp only [List.all_eq_true] at h2 ⊢
      intro m hm
      rcases List.mem_append.1 hm with h3 | h3
      · rcases hr m h3 with h4 | ⟨-, m', h4, h5⟩
        · exact h2 m (List.mem_append.2 (.inl h4))
        · rw [← h5]; exact h2 m' (List.mem_append.2 (.inl h4))
      · exact h2 m (List.mem_append.2 (.inr h3))
theorem drawCov {l : List Oper} {lg lg' : Lg} {W : List Nat} (h0 : drawOk2 l lg' = true) (hc : Cov W lg lg') : drawOk l lg = true := by
  have h := drawFast h0
  unfold drawOk at h ⊢
  simp only [List.all_eq_true] at h ⊢
  intro j hj
  have h1 := h j hj
  cases hl : l[j]? with
  | none => rw [hl] at h1; simp at h1
  | some oj =>
    rcases hc.get j with ⟨-, hg⟩ | ⟨rs, rs', ws, hg, hg', hw, hr⟩
    · rw [hl, hg] at h1; simp at h1
    · rw [hl, hg'] at h1
      rw [hg]
      simp only [Bool.and_eq_true, List.all_eq_true, Bool.or_eq_true] at h1 ⊢
      refine ⟨h1.1, fun i hi => ?_⟩
      rcases h1.2 i hi with h2 | h2
      · exact .inl h2
      · right
        cases hli : l[i]? with
        | none => rw [hli] at h2; simp at h2
        | some oi =>
          rcases hc.get i with ⟨-, hgi⟩ | ⟨is, is', iw, hgi, hgi', hiw, hir⟩
          · rw [hli, hgi] at h2; simp at h2
          · rw [hli, hgi'] at h2
            rw [hgi]
            simp only [indep, Bool.and_eq_true] at h2 ⊢
            exact ⟨⟨h2.1.1, apartN_cov h2.1.2 hiw hr⟩, apartN_cov h2.2 hw hir⟩
end Go.Abs
/- The abstract layer, part 40: a family of names kept, or let go, where a state is read anew; names of a family in checks of freshness and of open order. -/
namespace Go.Abs
open Go

theorem itb_nil {l : List Item} : itBase [] l = true := rfl
theorem itb_cons {p : Nm × Option Entry} {H : Hp} {l : List Item} (h : (p.1.1 != 1000) = true) (t : itBase H l = true) : itBase (p :: H) l = true := by
  unfold itBase at *
  rw [List.all_cons, h, t]; rfl
theorem itb_fam {a : Nat} : ∀ {Es : List Entry} {b : Nat} {H : Hp} {l : List Item}, (a != 1000) = true → itBase H l = true → itBase (fam a b Es ++ H) l = true
  | [], _, _, _, _, t => t
  | E :: Es, b, H, l, h, t => by
    rw [fam, List.cons_append]
    exact itb_cons h (itb_fam h t)
theorem habC {H : Hp} {d q : Nat} {E : Entry} {l : List (Nat × Entry)} (h : lkH H (d, q) = none) (t : (l.all fun q => (lkH H (d, q.1)).isNone) = true) : (((q, E) :: l).all fun q => (lkH H (d, q.1)).isNone) = true := by
  rw [List.all_cons, h, t]; rfl
theorem habN {H : Hp} {d : Nat} : (([] : List (Nat × Entry)).all fun q => (lkH H (d, q.1)).isNone) = true := rfl

/-- An operation of a log, told by other names of its slots. -/
theorem covM {W : List Nat} {rs rs' ws : List Nm} {lg lg' : Lg} (hw : (ws.all fun m => !W.contains m.1) = true) (hr : ∀ m, m ∈ rs → m ∈ rs' ∨ (m.1 ∈ W ∧ ∃ m', m' ∈ rs' ∧ m'.1 = m.1)) (t : Cov W lg lg') : Cov W ((rs, ws) :: lg) ((rs', ws) :: lg') := .cons hw hr t
theorem covS {W : List Nat} {rs ws : List Nm} {lg lg' : Lg} (hw : (ws.all fun m => !W.contains m.1) = true) (t : Cov W lg lg') : Cov W ((rs, ws) :: lg) ((rs, ws) :: lg') := .cons hw cov_self t

theorem lk_none_all : ∀ {l : List Item} {m : Nm}, (∀ q, q ∈ l → q.1 ≠ m) → lkH (itH l) m = none
  | [], _, _ => rfl
  | q :: l, m, h => by
    show lkH ((q.1, some q.2.1) :: itH l) m = none
    rw [lkH_cons, if_neg (Ne.symm (h q (.head _)))]
    exact lk_none_all fun q hq => h q (.tail _ hq)

/-- A state with a family is read anew; the family stays. -/
theorem entK {α : Type} {n : Nat} {T T' : Tm} {H : Hp} {items : List Item} {D : List Nm} {a b : Nat} {l : List α} {g : α → Entry}
    (hi : itemsX H (srcF items a b (l.map g).length (fun j => some (a, j + b))) D (nF items a b (l.map g) (fun j => some (a, j + b))) items) (hD : dropsOk H D) (hap : itApart items = true) (hsa : srcApart a b items = true)
    (hout : (items.all fun q => !inFam a b (l.map g).length q.1) = true) (hDa : (D.all fun m => !inFamAll a b m) = true) (hf : ∀ j y, l[j]? = some y → lkH H (a, j + b) = some (some (g y))) (hgf : ∀ x, AllFree (g x).rows) (hgz : ∀ x r, r ∈ (g x).rows → r.length = (g x).z)
    (hb : ∀ j, lkH H (1000, j) = none) (hT : cvF H (srcF items a b (l.map g).length (fun j => some (a, j + b))) D (nF items a b (l.map g) (fun j => some (a, j + b))) T T') :
    Ent (mkT n T H) (mkT n T' (itH items ++ (fam a b (l.map g) ++ []))) := by
  refine entF items D a b (l.map g) (fun j => some (a, j + b)) hi hD hap ⟨fun j E' hE' => ?_, fun j j' m _ _ h3 h4 => ?_, fun j m hj h q hq => ?_, hout, fun j h => absurd (hb j) h⟩ ?_ hT
  · rw [List.getElem?_map] at hE'
    obtain ⟨y, hy, rfl⟩ := Option.map_eq_some_iff.1 hE'
    refine ⟨fun hm => ?_, g y, hf j y hy, rfl, rfl, rfl, id, rowsCv_eq rfl (hgf y), hgz y⟩
    have := List.all_eq_true.1 hDa _ hm
    have h1 : inFamAll a b (a, j + b) = true := by
      unfold inFamAll
      simp only [Nat.beq_refl]
      exact Nat.ble_eq_true_of_le (Nat.le_add_left ..)
    rw [h1] at this; cases this
  · have := (Option.some.inj h3).trans (Option.some.inj h4).symm
    simp only [Prod.mk.injEq, true_and] at this; omega
  · have h : (a, j + b) = m := Option.some.inj h
    rw [← h]; exact srcApart_of hsa hq
  · have := lk_comm (d := a) (b := b) (Es := l.map g) (H := itH items) (R := []) (fun i hi => by
      rw [List.append_nil]
      refine lk_none_all fun q hq e => ?_
      have h1 := List.all_eq_true.1 hout _ hq
      rw [e, inFam_iff.2 ⟨i, hi, rfl⟩] at h1; cases h1)
    rw [List.append_nil (itH items)] at this
    exact this
end Go.Abs
/- The abstract layer, part 41: a call that writes a list of rows with lists, these lists and one more list. -/
namespace Go.Abs
open Go

section
variable {P : Program} {n : Nat} {T : Tm} {A : Hp} {o : Oper} {ops : Array Oper} {K : Lg → St → Prop} {rest : List Oper} {d : Nat}
theorem s_callMp {α : Type} {fN : Nm → α → List V} {gm : α → Entry} {l l' : List α} {X X' : Entry} {dn pn : Nm} {a b : Nat} {e : TypeId} {z : Nat} {s mi : Bool} {fop : Operand} {args : Array Operand} {tys : Array TypeId} {f : FuncId} {caps xs cargs : List V} {r : V}
    (ho : o.op = .call { callee := .value fop, args := args, argTypes := tys }) (hf : (mkT n T (A ++ (fam a b (l.map gm) ++ []))).ev fop = .fn f caps) (hc : callable P f = true)
    (hrun : RunsG P f cargs ([⟨e, z, nr 1000 fN 2 l, s, false⟩, ⟨X.e, X.z, X.rows, X.str, false⟩] ++ l.map fun x => { gm x with mine := false }) r [] ([⟨e, z, nr 1000 fN 2 l', s, false⟩, ⟨X'.e, X'.z, X'.rows, X'.str, false⟩] ++ l'.map fun x => { gm x with mine := false })) (hlen : l'.length = l.length)
    (hx : args.toList.map (mkT n T (A ++ (fam a b (l.map gm) ++ []))).ev ++ caps = xs) (hrel : ArgsR (A ++ (fam a b (l.map gm) ++ [])) (dn :: pn :: famN a b l.length) [] xs cargs) (hE : lkH (A ++ (fam a b (l.map gm) ++ [])) dn = some (some ⟨e, z, nr a fN b l, s, mi⟩)) (hEp : lkH (A ++ (fam a b (l.map gm) ++ [])) pn = some (some X)) (hA : ∀ j, lkH A (a, j + b) = none) (hdn : ∀ k, inFam a b k dn = false) (hpn : ∀ k, inFam a b k pn = false) (hdp : nmEq dn pn = false)
    (hz : ∀ m x, (fN m x).length = z) (hin : ∀ {ns : List Nm} {i : Nat} {m : Nm} (x : α), ns[i]? = some m → ArgsR (A ++ (fam a b (l.map gm) ++ [])) ns [] (fN m x) (fN (1000, i) x)) (hout : ∀ {ns : List Nm} {i : Nat} {m : Nm} (x : α), ns[i]? = some m → RetL d ns [] isSc (fN (1000, i) x) (fN m x))
    (hgs : ∀ x, AllSc (gm x).rows) (hgf : ∀ x, AllFree (gm x).rows) (hgz : ∀ x r, r ∈ (gm x).rows → r.length = (gm x).z) (hmi : ∀ x y, (gm x).mine = (gm y).mine) (hXf : AllFree X.rows) (hXz : ∀ r, r ∈ X.rows → r.length = X.z) (hXs : AllSc X'.rows) (hXz' : ∀ r, r ∈ X'.rows → r.length = X'.z) (hXm : X'.mine = X.mine) (hr : isScN r = true)
    (hd : o.dst = some d) (hn : Nat.blt d n = true) (hg : wantA ops (mkT n T (A ++ (fam a b (l.map gm) ++ []))) o = some true)
    (h : RegT P ops (kp K ((dn :: pn :: famN a b l.length) ++ []) ((dn :: pn :: famN a b l.length) ++ [])) rest (mkT n ((d, r) :: T) ((dn, some ⟨e, z, nr a fN b l', s, mi⟩) :: (pn, some X') :: (A ++ (fam a b (l'.map gm) ++ []))))) : RegT P ops K (o :: rest) (mkT n T (A ++ (fam a b (l.map gm) ++ []))) := by
  have hns : ∀ {i}, i < l.length → (dn :: pn :: famN a b l.length)[i + 2]? = some (a, i + b) := fun {i} hi => by rw [List.getElem?_cons_succ, List.getElem?_cons_succ]; exact famN_get hi
  have hfam : ∀ {i x}, l[i]? = some x → lkH (A ++ (fam a b (l.map gm) ++ [])) (a, i + b) = some (some (gm x)) := fun {i x} hx => by
    rw [lk_app_none (hA i)]; exact fam_lk (by rw [List.getElem?_map, hx]; rfl)
  have hnf : ∀ {m}, (∀ k, inFam a b k m = false) → m ∉ famN a b l.length := fun {m} h hm => by
    have h1 := h l.length
    rw [inFam_iff.2 (famN_iff.1 hm)] at h1
    cases h1
  have hne : dn ≠ pn := fun q => by rw [q, nmEq_iff.2 rfl] at hdp; cases hdp
  have hnd : (dn :: pn :: famN a b l.length).Nodup := List.nodup_cons.2 ⟨(fun hm => by
    rcases List.mem_cons.1 hm with h1 | h1
    · exact hne h1
    · exact hnf hdn h1), List.nodup_cons.2 ⟨hnf hpn, famN_nodup _ _ _⟩⟩
  have hi2 : InsL (A ++ (fam a b (l.map gm) ++ [])) (dn :: pn :: famN a b l.length) [] (famN a b (l.map fun x => ({ gm x with mine := false } : Entry)).length) (l.map fun x => { gm x with mine := false }) :=
    insL_fam (Es' := []) (c := b) (fun i E hi => by
      rw [List.getElem?_map] at hi
      obtain ⟨x, hx, rfl⟩ := Option.map_eq_some_iff.1 hi
      exact ⟨gm x, hfam hx, insFlat (s := (gm x).str) (m := (gm x).mine) (hgf x) (hgz x)⟩) rfl
  rw [List.length_map] at hi2
  refine s_callI (ns := dn :: pn :: famN a b l.length) (outs' := [⟨e, z, nr a fN b l', s, false⟩, ⟨X'.e, X'.z, X'.rows, X'.str, false⟩] ++ l'.map fun x => { gm x with mine := false }) ho hf hc hrun hx hrel (.cons hE (insRows hz fun i x hx => hin x (hns (List.getElem?_eq_some_iff.1 hx).1)) (.cons hEp (insFlat (s := X.str) (m := X.mine) hXf hXz) hi2)) hnd hr (by simp) (fun i E' hi => ?_) hd hn hg ?_
  · cases i with
    | zero =>
      simp only [List.cons_append, List.nil_append, List.getElem?_cons_zero, Option.some.injEq] at hi
      subst hi
      exact ⟨_, rfl, outRows hz fun i x hx => hout x (hns (by rw [← hlen]; exact (List.getElem?_eq_some_iff.1 hx).1))⟩
    | succ i =>
      cases i with
      | zero =>
        simp only [List.cons_append, List.nil_append, List.getElem?_cons_succ, List.getElem?_cons_zero, Option.some.injEq] at hi
        subst hi
        exact ⟨_, rfl, outSame (E := ⟨X'.e, X'.z, X'.rows, X'.str, false⟩) (m := false) hXs hXz'⟩
      | succ i =>
        simp only [List.cons_append, List.nil_append, List.getElem?_cons_succ, List.getElem?_map] at hi
        obtain ⟨x, hx, rfl⟩ := Option.map_eq_some_iff.1 hi
        exact ⟨{ gm x with mine := false }, by simp [hx], outSame (E := { gm x with mine := false }) (m := false) (hgs x) (hgz x)⟩
  · have key : lkH (outsH (dn :: pn :: famN a b l.length) ([⟨e, z, nr a fN b l', s, false⟩, ⟨X'.e, X'.z, X'.rows, X'.str, false⟩] ++ l'.map fun x => ({ gm x with mine := false } : Entry)) (A ++ (fam a b (l.map gm) ++ []))) = lkH ((dn, some ⟨e, z, nr a fN b l', s, mi⟩) :: (pn, some X') :: (A ++ (fam a b (l'.map gm) ++ []))) := by
      funext m
      rw [← setOuts_lkH]
      by_cases h0 : m = dn
      · subst h0
        rw [setOuts_at (i := 0) (E := ⟨e, z, nr a fN b l', s, false⟩) hnd rfl rfl, lkAt, mine_of hE]
      · rw [lkH_cons, if_neg h0]
        by_cases h1 : m = pn
        · subst h1
          rw [setOuts_at (i := 1) (E := ⟨X'.e, X'.z, X'.rows, X'.str, false⟩) hnd rfl rfl, lkAt, mine_of hEp, ← hXm]
        · rw [lkH_cons, if_neg h1]
          rcases fam_cases (a := a) (b := b) (Es := l.map gm) m with ⟨i, E, hi, rfl⟩ | hm
          · have hil : i < l.length := by have := (List.getElem?_eq_some_iff.1 hi).1; rwa [List.length_map] at this
            have hil' : i < l'.length := by omega
            rw [setOuts_at (i := i + 2) (E := { gm l'[i] with mine := false }) hnd (hns hil) (by simp [List.getElem?_eq_getElem hil']), mine_of (hfam (List.getElem?_eq_getElem hil)), lk_app_none (hA i), fam_lk (E := gm l'[i]) (by simp [List.getElem?_eq_getElem hil'])]
            rw [hmi l[i] l'[i]]
          · rw [setOuts_other (fun hmem => by
              rcases List.mem_cons.1 hmem with h2 | h2
              · exact h0 h2
              · rcases List.mem_cons.1 h2 with h3 | h3
                · exact h1 h3
                · obtain ⟨i, hi, e⟩ := famN_iff.1 h3
                  exact hm i (by rw [List.length_map]; exact hi) e)]
            refine lk_app_same ?_
            rw [fam_skip hm, fam_skip (fun i hi => hm i (by rw [List.length_map] at hi ⊢; omega))]
    rw [mkT_eqH key]; exact h
end
end Go.Abs
