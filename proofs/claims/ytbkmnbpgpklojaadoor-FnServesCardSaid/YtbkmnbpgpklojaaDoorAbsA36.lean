/- The abstract layer, part 36: functions that write a list whose rows hold a list each, handed over by their caller. -/
import Derived.Test.YtbkmnbpgpklojaaDoorAbsA35
namespace Go.Abs
open Go

theorem lkAt {k : Nm} {e : Option Entry} {H : Hp} : lkH ((k, e) :: H) k = some e := by rw [lkH_cons, if_pos rfl]
theorem mine_of {H : Hp} {m : Nm} {E : Entry} (h : lkH H m = some (some E)) : mineOf (lkH H) m = E.mine := by unfold mineOf; rw [h]
theorem outsL_fam : ∀ (Es : List Entry) (i : Nat), outsL i Es = fam 1000 i Es
  | [], _ => rfl
  | E :: Es, i => by rw [outsL, fam, outsL_fam Es]
theorem outsL_app : ∀ (es Es : List Entry) (i : Nat), outsL i (es ++ Es) = outsL i es ++ outsL (i + es.length) Es
  | [], Es, i => rfl
  | E :: es, Es, i => by
    rw [List.cons_append, outsL, outsL, outsL_app es Es (i + 1), List.cons_append, List.length_cons, show i + 1 + es.length = i + (es.length + 1) by omega]
theorem nmEq_ne {a i j b : Nat} (h : i ≠ j) : nmEq (a, i + b) (a, j + b) = false := by
  cases hh : nmEq (a, i + b) (a, j + b) with
  | false => rfl
  | true => have := nmEq_iff.1 hh; simp only [Prod.mk.injEq, true_and] at this; omega

/-- The memory holds what the caller handed over, and no more of such names. -/
def OnlyP (H : Hp) (b k : Nat) : Prop := ∀ j, lkH H (1000, j) ≠ none → j < b ∨ ∃ i, i < k ∧ j = i + b
theorem only_fam {b : Nat} {Es : List Entry} : OnlyP (fam 1000 b Es ++ []) b Es.length := fun j h => by
  rcases fam_cases (a := 1000) (b := b) (Es := Es) (1000, j) with ⟨i, E, hi, e⟩ | hm
  · right
    simp only [Prod.mk.injEq, true_and] at e
    exact ⟨i, (List.getElem?_eq_some_iff.1 hi).1, e⟩
  · exact absurd (by rw [fam_skip hm]; rfl) h
theorem only_lit {b k c : Nat} {e : Option Entry} {H : Hp} (hc : c < b) (h : OnlyP H b k) : OnlyP (((1000, c), e) :: H) b k := fun j hj => by
  rw [lkH_cons] at hj
  split at hj
  · rename_i q; simp only [Prod.mk.injEq, true_and] at q; left; omega
  · exact h j hj
theorem only_mem {b k i : Nat} {e : Option Entry} {H : Hp} (hi : i < k) (h : OnlyP H b k) : OnlyP (((1000, i + b), e) :: H) b k := fun j hj => by
  rw [lkH_cons] at hj
  split at hj
  · rename_i q; simp only [Prod.mk.injEq, true_and] at q; exact .inr ⟨i, hi, q⟩
  · exact h j hj
theorem only_oth {b k a c : Nat} {e : Option Entry} {H : Hp} (ha : Nat.beq 1000 a = false) (h : OnlyP H b k) : OnlyP (((a, c), e) :: H) b k := fun j hj => by
  rw [lkH_cons] at hj
  split at hj
  · rename_i q; simp only [Prod.mk.injEq] at q; exact absurd q.1 (Nat.ne_of_beq_eq_false ha)
  · exact h j hj

section
variable {α : Type} {n : Nat} {T T' : Tm} {H : Hp} {e : TypeId} {z b : Nat} {f : Nm → α → List V} {g : α → Entry} {l : List α}

theorem nest_mark {s mi : Bool} {rows : List (List V)} (hE : lkH H (1000, 0) = some (some ⟨e, z, rows, s, mi⟩)) (hrows : rows = nr 1000 f 1 l) (hf : ∀ j y, l[j]? = some y → lkH H (1000, j + 1) = some (some (g y))) (hz : ∀ m x, (f m x).length = z)
    (hcv : ∀ {src : Nm → Option Nm} {D : List Nm} {N : Nm → Option Nat} {m m' : Nm} (x : α), src m' = some m → CvL (lkH H) src D N (f m x) (f m' x)) (hgf : ∀ x, AllFree (g x).rows) (hgz : ∀ x r, r ∈ (g x).rows → r.length = (g x).z)
    (hb : OnlyP H 1 l.length)
    (hT : cvF H (srcF [((1000, 0), ⟨e, z, nr 1000 f 1 l, s, mi⟩, some (1000, 0))] 1000 1 (l.map g).length (fun j => some (1000, j + 1))) [] (nF [((1000, 0), ⟨e, z, nr 1000 f 1 l, s, mi⟩, some (1000, 0))] 1000 1 (l.map g) (fun j => some (1000, j + 1))) T T') :
    Ent (mkT n T H) (mkT n T' (((1000, 0), some ⟨e, z, nr 1000 f 1 l, s, mi⟩) :: (fam 1000 1 (l.map g) ++ []))) :=
  nest_keep hE hrows hf hz hcv hgf hgz (fun _ => rfl) (fun j h => by
    rcases hb j h with h1 | ⟨i, hi, rfl⟩
    · left; rw [show j = 0 by omega]
    · exact .inr ⟨i, hi, rfl⟩) hT

/-- The end of a function that wrote such a list, and answers a scalar. -/
theorem nest_endB {P : Program} {rs : List ResultVar} {r : Value} (items : List Item) (es : List Entry) (hx : ResVs P (mkT n T H) rs [.sc r]) (hsc : scalar r = true)
    (hi : itemsX H (srcF items 1000 b (l.map g).length (fun j => some (1000, j + b))) [] (nF items 1000 b (l.map g) (fun j => some (1000, j + b))) items) (hap : itApart items = true) (hsa : srcApart 1000 b items = true)
    (hno : ∀ i, lkH (itH items) (1000, i + b) = none) (hout : (items.all fun q => !inFam 1000 b (l.map g).length q.1) = true) (hf : ∀ j y, l[j]? = some y → lkH H (1000, j + b) = some (some (g y))) (hgf : ∀ x, AllFree (g x).rows) (hgz : ∀ x r, r ∈ (g x).rows → r.length = (g x).z)
    (hb : OnlyP H b l.length) (hlow : ∀ j, j < b → srcF items 1000 b (l.map g).length (fun j => some (1000, j + b)) (1000, j) = some (1000, j)) (hl : es.length = b) (hh : outsL 0 es = itH items) :
    EndG P rs (.sc r) [] (es ++ l.map g) (mkT n T H) := by
  refine ⟨_, hx, srcF items 1000 b (l.map g).length (fun j => some (1000, j + b)), [], nF items 1000 b (l.map g) (fun j => some (1000, j + b)), ?_, .free rfl⟩
  refine re_fam hi trivial hap ⟨fun j E' hE' => ?_, fun j j' m _ _ h3 h4 => ?_, fun j m hj h q hq => ?_, hout, fun j h => ?_⟩ ?_
  · rw [List.getElem?_map] at hE'
    obtain ⟨y, hy, rfl⟩ := Option.map_eq_some_iff.1 hE'
    exact ⟨by simp, g y, hf j y hy, rfl, rfl, rfl, id, rowsCv_eq rfl (hgf y), hgz y⟩
  · have := (Option.some.inj h3).trans (Option.some.inj h4).symm
    simp only [Prod.mk.injEq, true_and] at this; omega
  · have h : (1000, j + b) = m := Option.some.inj h
    rw [← h]; exact srcApart_of hsa hq
  · rcases hb j h with h1 | ⟨i, hi, rfl⟩
    · exact hlow j h1
    · exact srcF_at (by rw [List.length_map]; exact hi)
  · show addOwns 2000 [] (argHp (es ++ l.map g)) = _
    have e0 : addOwns 2000 [] (argHp (es ++ l.map g)) = lkH (outsL 0 (es ++ l.map g)) := by
      funext m; rw [outsL_lk]; unfold addOwns argHp; by_cases h : m.1 = 1000 <;> simp [h]
    rw [e0, outsL_app, hh, Nat.zero_add, hl, outsL_fam]
    have := lk_comm (d := 1000) (b := b) (Es := l.map g) (H := itH items) (R := []) (fun i _ => by rw [List.append_nil]; exact hno i)
    rw [List.append_nil, List.append_nil] at this
    exact this
end
end Go.Abs
