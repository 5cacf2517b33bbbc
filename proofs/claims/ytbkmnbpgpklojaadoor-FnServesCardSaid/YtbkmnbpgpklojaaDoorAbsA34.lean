/- The abstract layer, part 34: lists whose rows hold a list each, in loops: zero rows, a row set anew from lists of other names, a row's own list written. -/
import Derived.Test.YtbkmnbpgpklojaaDoorAbsA33
namespace Go.Abs
open Go

section
variable {α : Type} {n : Nat} {T T' : Tm} {H : Hp} {dn c : Nm} {e : TypeId} {z a b : Nat} {f : Nm → α → List V} {g : α → Entry} {l : List α} {i : Nat} {x : α} {s mi : Bool} {rows : List (List V)}

theorem rowZ_nils {zs : List Value} {row : List V} (t : RowZ zs row) : RowZ (.slice none 0 0 :: zs) (.nils :: row) := ⟨by simp [t.1], fun j v hv => by
  cases j with
  | zero => simp only [List.getElem?_cons_zero, Option.some.injEq] at hv; subst hv; exact ⟨.nils, rfl, fun _ _ _ => .nils⟩
  | succ j => simpa using t.2 j v (by simpa using hv)⟩

theorem lkNo {k m : Nm} {e : Option Entry} {H : Hp} (h : nmEq m k = false) (t : lkH H m = none) : lkH ((k, e) :: H) m = none := by simp only [lkH, h]; exact t
theorem lkTo {k m : Nm} {e : Option Entry} {H : Hp} {x : Option (Option Entry)} (h : nmEq m k = false) (t : lkH H m = x) : lkH ((k, e) :: H) m = x := by simp only [lkH, h]; exact t
theorem hab1 {H : Hp} {d q : Nat} {E : Entry} (h : lkH H (d, q) = none) : ([(q, E)].all fun q => (lkH H (d, q.1)).isNone) = true := by simp [h]

theorem lk_head {E : Entry} {Es : List Entry} (hdn : ∀ k, inFam a b k dn = false) : lkH ((dn, some E) :: (fam a b Es ++ [])) = lkH (fam a b Es ++ itH [(dn, E, some dn)]) := by
  have := lk_comm (d := a) (b := b) (Es := Es) (H := [(dn, some E)]) (R := []) (fun i hi => by
    rw [List.append_nil, lkH_cons, if_neg (fun q => by
      have h1 := hdn Es.length
      rw [← q, inFam_iff.2 ⟨i, hi, rfl⟩] at h1; cases h1)]
    rfl)
  simpa [itH] using this

theorem nest_ent {E : Entry} {Es : List Entry} {S : Nat → Option Nm} (hdn : ∀ k, inFam a b k dn = false)
    (hi : ItemX H (srcF [(dn, E, some dn)] a b Es.length S) [] (nF [(dn, E, some dn)] a b Es S) (dn, E, some dn)) (hf : FamOk H [(dn, E, some dn)] [] a b Es S)
    (hT : cvF H (srcF [(dn, E, some dn)] a b Es.length S) [] (nF [(dn, E, some dn)] a b Es S) T T') : Ent (mkT n T H) (mkT n T' ((dn, some E) :: (fam a b Es ++ []))) :=
  entF [(dn, E, some dn)] [] a b Es S ⟨hi, trivial⟩ trivial rfl hf (lk_head hdn) hT

/-- Zero rows: their lists are empty. -/
theorem nest_zero {zr : List V} {x0 : α} {k : Nat} (hE : lkH H dn = some (some ⟨e, z, rows, s, mi⟩)) (hr : rows = (List.replicate k ()).map (fun _ => zr)) (hz : ∀ m x, (f m x).length = z)
    (hzr : ∀ {src : Nm → Option Nm} {D : List Nm} {N : Nm → Option Nat} {m : Nm} {w : Nat}, N m = some w → CvL (lkH H) src D N zr (f m x0)) (hg : (g x0).rows = []) (hdn : ∀ k, inFam a b k dn = false) (hb : ∀ j, lkH H (1000, j) = none)
    (hT : cvF H (srcF [(dn, ⟨e, z, nr a f b (List.replicate k x0), s, mi⟩, some dn)] a b ((List.replicate k x0).map g).length (fun _ => none)) [] (nF [(dn, ⟨e, z, nr a f b (List.replicate k x0), s, mi⟩, some dn)] a b ((List.replicate k x0).map g) (fun _ => none)) T T') :
    Ent (mkT n T H) (mkT n T' ((dn, some ⟨e, z, nr a f b (List.replicate k x0), s, mi⟩) :: (fam a b ((List.replicate k x0).map g) ++ []))) := by
  have hrep : ∀ {i : Nat} {x : α}, (List.replicate k x0)[i]? = some x → i < k ∧ x = x0 := fun {i x} hx => by
    rw [List.getElem?_replicate] at hx
    split at hx
    · rename_i h; exact ⟨h, (Option.some.inj hx).symm⟩
    · cases hx
  refine nest_ent hdn ⟨rfl, _, hE, rfl, rfl, rfl, id, rowsCv_nr ?_ (fun i x hx => ?_), nr_rowsZ hz⟩ ⟨fun i E' hE' => ?_, fun i j m _ _ h => (by cases h), fun i m _ h => (by cases h), ?_, fun j h => absurd (hb j) h⟩ hT
  · subst hr; simp
  · obtain ⟨h1, rfl⟩ := hrep hx
    refine ⟨zr, by subst hr; simp [h1], hzr (w := (g x).z) (nF_at (E := g x) ?_ rfl)⟩
    rw [List.getElem?_map, hx]; rfl
  · show E'.rows = []
    rw [List.getElem?_map] at hE'
    obtain ⟨y, hy, rfl⟩ := Option.map_eq_some_iff.1 hE'
    rw [(hrep hy).2]; exact hg
  · simp [hdn]

theorem set_cases {j : Nat} {y : α} (h : (l.set i x)[j]? = some y) : (j = i ∧ y = x ∧ i < l.length) ∨ (j ≠ i ∧ l[j]? = some y) := by
  by_cases e : j = i
  · subst e
    by_cases hi : j < l.length
    · rw [List.getElem?_set_self hi] at h; exact .inl ⟨rfl, (Option.some.inj h).symm, hi⟩
    · rw [List.getElem?_eq_none (by rw [List.length_set]; omega)] at h; cases h
  · rw [List.getElem?_set_ne (Ne.symm e)] at h; exact .inr ⟨e, h⟩

/-- A row is set, from a row whose list has another name. -/
theorem nest_set (hE : lkH H dn = some (some ⟨e, z, rows, s, mi⟩)) (hrows : rows = (nr a f b l).set i (f c x)) (hc : lkH H c = some (some (g x))) (hf : ∀ j y, l[j]? = some y → lkH H (a, j + b) = some (some (g y))) (hz : ∀ m x, (f m x).length = z)
    (hcv : ∀ {src : Nm → Option Nm} {D : List Nm} {N : Nm → Option Nat} {m m' : Nm} (x : α), src m' = some m → CvL (lkH H) src D N (f m x) (f m' x)) (hgf : ∀ x, AllFree (g x).rows) (hgz : ∀ x r, r ∈ (g x).rows → r.length = (g x).z)
    (hdn : ∀ k, inFam a b k dn = false) (hca : Nat.beq c.1 a = false) (hcd : nmEq dn c = false) (hb : ∀ j, lkH H (1000, j) = none)
    (hT : cvF H (srcF [(dn, ⟨e, z, nr a f b (l.set i x), s, mi⟩, some dn)] a b ((l.set i x).map g).length (fun j => if j = i then some c else some (a, j + b))) [] (nF [(dn, ⟨e, z, nr a f b (l.set i x), s, mi⟩, some dn)] a b ((l.set i x).map g) (fun j => if j = i then some c else some (a, j + b))) T T') :
    Ent (mkT n T H) (mkT n T' ((dn, some ⟨e, z, nr a f b (l.set i x), s, mi⟩) :: (fam a b ((l.set i x).map g) ++ []))) := by
  have hne : ∀ j, c ≠ (a, j) := fun j q => Nat.ne_of_beq_eq_false hca (by rw [q])
  refine nest_ent hdn ⟨rfl, _, hE, rfl, rfl, rfl, id, rowsCv_nr ?_ (fun j y hy => ?_), nr_rowsZ hz⟩ ⟨fun j E' hE' => ?_, fun j j' m _ _ h3 h4 => ?_, fun j m hj h q hq => ?_, ?_, fun j h => absurd (hb j) h⟩ hT
  · subst hrows; simp [nr_len]
  · have hj : j < ((l.set i x).map g).length := by rw [List.length_map]; exact (List.getElem?_eq_some_iff.1 hy).1
    have hs := srcF_at (l := [(dn, (⟨e, z, nr a f b (l.set i x), s, mi⟩ : Entry), some dn)]) (a := a) (b := b) (s := fun j => if j = i then some c else some (a, j + b)) hj
    rcases set_cases hy with ⟨rfl, rfl, hi⟩ | ⟨hji, hy⟩
    · exact ⟨f c y, by subst hrows; rw [List.getElem?_set_self (by rw [nr_len]; exact hi)], hcv y (by rw [hs]; simp)⟩
    · exact ⟨f (a, j + b) y, by subst hrows; rw [List.getElem?_set_ne (Ne.symm hji), nr_get hy], hcv y (by rw [hs]; simp [hji])⟩
  · rw [List.getElem?_map] at hE'
    obtain ⟨y, hy, rfl⟩ := Option.map_eq_some_iff.1 hE'
    rcases set_cases hy with ⟨rfl, rfl, hi⟩ | ⟨hji, hy⟩
    · simp only [if_true]
      exact ⟨by simp, g y, hc, rfl, rfl, rfl, id, rowsCv_eq rfl (hgf y), hgz y⟩
    · simp only [hji, if_false]
      exact ⟨by simp, g y, hf j y hy, rfl, rfl, rfl, id, rowsCv_eq rfl (hgf y), hgz y⟩
  · by_cases e1 : j = i <;> by_cases e2 : j' = i
    · omega
    · simp only [e1, e2, if_true, if_false, Option.some.injEq] at h3 h4
      exact absurd (h3.trans h4.symm) (hne _)
    · simp only [e1, e2, if_true, if_false, Option.some.injEq] at h3 h4
      exact absurd (h4.trans h3.symm) (hne _)
    · simp only [e1, e2, if_false, Option.some.injEq] at h3 h4
      have := h3.trans h4.symm
      simp only [Prod.mk.injEq, true_and] at this; omega
  · rw [List.mem_singleton] at hq
    subst hq
    intro q
    have q : dn = m := Option.some.inj q
    subst q
    by_cases e1 : j = i
    · simp only [e1, if_true, Option.some.injEq] at h
      rw [nmEq_iff.2 h.symm] at hcd; cases hcd
    · simp only [e1, if_false, Option.some.injEq] at h
      have h1 := hdn ((l.set i x).map g).length
      rw [← h, inFam_iff.2 ⟨j, hj, rfl⟩] at h1; cases h1
  · simp [hdn]

/-- A row is written, its list under its own name: what the caller handed over. -/
theorem nest_keep (hE : lkH H dn = some (some ⟨e, z, rows, s, mi⟩)) (hrows : rows = nr a f b l) (hf : ∀ j y, l[j]? = some y → lkH H (a, j + b) = some (some (g y))) (hz : ∀ m x, (f m x).length = z)
    (hcv : ∀ {src : Nm → Option Nm} {D : List Nm} {N : Nm → Option Nat} {m m' : Nm} (x : α), src m' = some m → CvL (lkH H) src D N (f m x) (f m' x)) (hgf : ∀ x, AllFree (g x).rows) (hgz : ∀ x r, r ∈ (g x).rows → r.length = (g x).z)
    (hdn : ∀ k, inFam a b k dn = false) (hb : ∀ j, lkH H (1000, j) ≠ none → (1000, j) = dn ∨ ∃ i, i < l.length ∧ (1000, j) = (a, i + b))
    (hT : cvF H (srcF [(dn, ⟨e, z, nr a f b l, s, mi⟩, some dn)] a b (l.map g).length (fun j => some (a, j + b))) [] (nF [(dn, ⟨e, z, nr a f b l, s, mi⟩, some dn)] a b (l.map g) (fun j => some (a, j + b))) T T') :
    Ent (mkT n T H) (mkT n T' ((dn, some ⟨e, z, nr a f b l, s, mi⟩) :: (fam a b (l.map g) ++ []))) := by
  refine nest_ent hdn ⟨rfl, _, hE, rfl, rfl, rfl, id, rowsCv_nr ?_ (fun j y hy => ?_), nr_rowsZ hz⟩ ⟨fun j E' hE' => ?_, fun j j' m _ _ h3 h4 => ?_, fun j m hj h q hq => ?_, ?_, fun j h => ?_⟩ hT
  · subst hrows; simp [nr_len]
  · have hj : j < (l.map g).length := by rw [List.length_map]; exact (List.getElem?_eq_some_iff.1 hy).1
    have hs := srcF_at (l := [(dn, (⟨e, z, nr a f b l, s, mi⟩ : Entry), some dn)]) (a := a) (b := b) (s := fun j => some (a, j + b)) hj
    exact ⟨f (a, j + b) y, by subst hrows; rw [nr_get hy], hcv y hs⟩
  · rw [List.getElem?_map] at hE'
    obtain ⟨y, hy, rfl⟩ := Option.map_eq_some_iff.1 hE'
    exact ⟨by simp, g y, hf j y hy, rfl, rfl, rfl, id, rowsCv_eq rfl (hgf y), hgz y⟩
  · have := (Option.some.inj h3).trans (Option.some.inj h4).symm
    simp only [Prod.mk.injEq, true_and] at this; omega
  · rw [List.mem_singleton] at hq
    subst hq
    intro q
    have q : dn = m := Option.some.inj q
    have h : (a, j + b) = m := Option.some.inj h
    have h1 := hdn (l.map g).length
    rw [q, ← h, inFam_iff.2 ⟨j, hj, rfl⟩] at h1; cases h1
  · simp [hdn]
  · rcases hb j h with h1 | ⟨i, hi, h1⟩
    · rw [h1]
      unfold srcF
      rw [hdn]
      simp only [itSrc]
      rw [nmEq_iff.2 rfl]
    · rw [h1]; exact srcF_at (by rw [List.length_map]; exact hi)

theorem lk_headT {k : Nm} {E : Entry} {Es : List Entry} {a b : Nat} (hk : ∀ q, inFam a b q k = false) : lkH ((k, some E) :: (fam a b Es ++ [])) = lkH (fam a b Es ++ [(k, some E)]) := by
  have := lk_comm (d := a) (b := b) (Es := Es) (H := [(k, some E)]) (R := []) (fun i hi => by
    rw [List.append_nil, lkH_cons, if_neg (fun q => by
      have h1 := hk Es.length
      rw [← q, inFam_iff.2 ⟨i, hi, rfl⟩] at h1; cases h1)]
    rfl)
  simpa using this

/-- The end of a function that answers such a list. -/
theorem nest_endS {P : Program} {rs : List ResultVar} (hE : lkH H dn = some (some ⟨e, z, nr a f b l, s, true⟩)) (hf : ∀ j y, l[j]? = some y → lkH H (a, j + b) = some (some (g y))) (hz : ∀ m x, (f m x).length = z)
    (hcv : ∀ {src : Nm → Option Nm} {D : List Nm} {N : Nm → Option Nat} {m m' : Nm} (x : α), src m' = some m → CvL (lkH H) src D N (f m x) (f m' x)) (hgf : ∀ x, AllFree (g x).rows) (hgz : ∀ x r, r ∈ (g x).rows → r.length = (g x).z)
    (hdn : ∀ k, inFam a b k dn = false) (hb : ∀ j, lkH H (1000, j) = none) (hx : ResVs P (mkT n T H) rs [.ref dn 0 l.length]) :
    EndG P rs (.ref (2000, 0) 0 l.length) ((0, ⟨e, z, nr 2000 f 10000 l, s, true⟩) :: famO 10000 (l.map g)) [] (mkT n T H) := by
  have hS : ∀ j, j < l.length → srcF [((2000, 0), (⟨e, z, nr 2000 f 10000 l, s, true⟩ : Entry), some dn)] 2000 10000 (l.map g).length (fun j => some (a, j + b)) (2000, j + 10000) = some (a, j + b) := fun j hj => srcF_at (by rw [List.length_map]; exact hj)
  refine ⟨_, hx, srcF [((2000, 0), (⟨e, z, nr 2000 f 10000 l, s, true⟩ : Entry), some dn)] 2000 10000 (l.map g).length (fun j => some (a, j + b)), [], nF [((2000, 0), (⟨e, z, nr 2000 f 10000 l, s, true⟩ : Entry), some dn)] 2000 10000 (l.map g) (fun j => some (a, j + b)), ?_, ?_⟩
  · refine re_fam (l := [((2000, 0), (⟨e, z, nr 2000 f 10000 l, s, true⟩ : Entry), some dn)]) (D := []) (a := 2000) (b := 10000) (Es := l.map g) (s := fun j => some (a, j + b)) ⟨⟨rfl, _, hE, rfl, rfl, rfl, id, rowsCv_nr ?_ (fun j y hy => ?_), nr_rowsZ hz⟩, trivial⟩ trivial rfl ⟨fun j E' hE' => ?_, fun j j' m _ _ h3 h4 => ?_, fun j m hj h q hq => ?_, rfl, fun j h => absurd (hb j) h⟩ ?_
    · simp [nr_len]
    · exact ⟨f (a, j + b) y, nr_get hy, hcv y (hS j (List.getElem?_eq_some_iff.1 hy).1)⟩
    · rw [List.getElem?_map] at hE'
      obtain ⟨y, hy, rfl⟩ := Option.map_eq_some_iff.1 hE'
      exact ⟨by simp, g y, hf j y hy, rfl, rfl, rfl, id, rowsCv_eq rfl (hgf y), hgz y⟩
    · have := (Option.some.inj h3).trans (Option.some.inj h4).symm
      simp only [Prod.mk.injEq, true_and] at this; omega
    · rw [List.mem_singleton] at hq
      subst hq
      intro q
      have q : dn = m := Option.some.inj q
      have h : (a, j + b) = m := Option.some.inj h
      rw [List.length_map] at hj
      have h1 := hdn l.length
      rw [q, ← h, inFam_iff.2 ⟨j, hj, rfl⟩] at h1; cases h1
    · show addOwns 2000 ((0, _) :: famO 10000 (l.map g)) (argHp []) = _
      have e0 : argHp [] = lkH [] := by funext m; unfold argHp; simp [lkH]
      rw [e0, addOwns_lkH, List.map_cons, famO_map]
      exact lk_headT (k := (2000, 0)) (fun _ => rfl)
  · exact .ref rfl
end
end Go.Abs
