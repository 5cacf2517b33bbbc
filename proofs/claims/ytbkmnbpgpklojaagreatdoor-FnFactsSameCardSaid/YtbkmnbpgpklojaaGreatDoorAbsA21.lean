/- The abstract layer, part A21. -/
import Derived.Test.YtbkmnbpgpklojaaGreatDoorAbsA20
namespace Go.Abs
open Go
section
variable {P : Program} {w0 : World} {M0 : Base} {F0 : Nat → Prop} {st : St} {w : World} {φ : Env} {F : Nat → Prop}
theorem load_rep {tm : Array Value} (h : Sat w0 M0 F0 st tm w φ F) {v : Value} {t : TypeId} {n : Nm} {r c k : Nat} {b : Bool} {E : Entry} {row : List V}
  (hr : Rep w F φ (.ptr n r c) v) (hE : st.hp n = some (some E)) (hrow : E.rows[r]? = some row) (ht : tyK P t = some (b, k)) (hk : c + k ≤ row.length) (hb : b = false → k = 1) :
  ∃ ad u, v = .pointer (some ad) ∧ (loadVar t ad).run P w = .ok u w ∧ Rep w F φ (loadV b ((row.drop c).take k)) u := by
 obtain ⟨loc, h1, h2, -⟩ := h.obj n E hE
 cases hr with
 | ptr h3 =>
  rename_i z bl cap
  rw [h1] at h3
  obtain ⟨rfl, rfl⟩ : E.z = z ∧ loc = Loc.at bl cap := by simpa using h3
  obtain ⟨arr, fz, g1, -, g2, g3, g4, g5, g6, g7⟩ := h2
  have hcell : ∀ j, j < k → ∃ x u, cellAt E.rows r (c + j) = some x ∧ ((row.drop c).take k)[j]? = some x ∧ arr[r * E.z + (c + j)]? = some u ∧ u.oneCell' = true ∧ Rep w F φ x u := by
   intro j hj
   obtain ⟨x, hx1, hx2⟩ := cells_of_cellAt hrow hk j hj
   obtain ⟨u, hu1, hu2, hu3⟩ := g7 r (c + j) x hx1
   exact ⟨x, u, hx1, hx2, hu1, hu2, hu3⟩
  have hsz : ∀ j, j < k → r * E.z + c + j < arr.size := fun j hj => by
   obtain ⟨x, u, _, _, hu, _⟩ := hcell j hj
   have := (Array.getElem?_eq_some_iff.1 hu).1
   omega
  let cs : List Value := (List.range k).map fun j => arr.getD (r * E.z + c + j) Go.undef
  have hcs : ∀ j v, cs[j]? = some v → j < k ∧ arr[r * E.z + c + j]? = some v := fun j v hv => by
   simp only [cs, List.getElem?_map, Option.map_eq_some_iff] at hv
   obtain ⟨j', hj', rfl⟩ := hv
   obtain ⟨hj1, hj2⟩ := List.getElem?_eq_some_iff.1 hj'
   simp at hj1 hj2
   subst hj2
   exact ⟨hj1, by simp [hsz j hj1]⟩
  have hlen : cs.length = k := by simp [cs]
  have hrun := run_loadVar_cells (P := P) (w := w) (a := ⟨bl, r * E.z + c, none⟩) (cs := cs) (by rw [hlen]; exact ht)
   (fun j v hv => by rw [addr_add, cell_of_row w bl _ arr E.e fz g1]; exact (hcs j v hv).2) (by rw [hlen]; exact hb)
  refine ⟨_, _, rfl, hrun, ?_⟩
  refine rep_load (cs := cs) (xs := (row.drop c).take k) (by rw [hlen, List.length_take, List.length_drop]; omega) (by rw [hlen]; exact hb) (fun i x v hx hv => ?_) (fun v hv => ?_)
  ·obtain ⟨hi, hv'⟩ := hcs i v hv
   obtain ⟨x', u, _, hx2, hu, _, hrep⟩ := hcell i hi
   rw [hx] at hx2
   rw [show r * E.z + (c + i) = r * E.z + c + i by omega, hv'] at hu
   cases hx2; cases hu
   exact hrep
  ·obtain ⟨i, hi, hv⟩ := List.getElem_of_mem hv
   have hv' : cs[i]? = some v := by rw [List.getElem?_eq_getElem hi, hv]
   obtain ⟨hi', hv''⟩ := hcs i v hv'
   obtain ⟨x', u, _, _, hu, ho, _⟩ := hcell i hi'
   rw [show r * E.z + (c + i) = r * E.z + c + i by omega, hv''] at hu
   cases hu
   exact ho
def ResV (P : Program) (st : St) : ResultVar → V → Prop
 | .tmp t, x => st.tm t = x
 | .cell a t, x => ∃ n r c E row b k, st.tm a = .ptr n r c ∧ st.hp n = some (some E) ∧ E.rows[r]? = some row ∧ tyK P t = some (b, k) ∧ c + k ≤ row.length ∧ (b = false → k = 1) ∧ loadV b ((row.drop c).take k) = x
def ResVs (P : Program) (st : St) : List ResultVar → List V → Prop
 | [], [] => True
 | a :: as, x :: xs => ResV P st a x ∧ ResVs P st as xs
 | _, _ => False
def oneOf (vs : List Value) : Value := match vs with | [v] => v | vs => .tuple vs.toArray
def readRes (tmps : Array Value) : ResultVar → Sem Value
 | .tmp t => pure (tmps.getD t Go.undef)
 | .cell a t => do loadVar t (← asAddr (tmps.getD a Go.undef))
theorem resV_run {tm : Array Value} (h : Sat w0 M0 F0 st tm w φ F) {a : ResultVar} {x : V} (hx : ResV P st a x) : ∃ u, (readRes tm a).run P w = .ok u w ∧ Rep w F φ x u := by
 cases a with
 | tmp t => exact ⟨_, by simp [readRes], hx ▸ h.rep t⟩
 | cell a t =>
  obtain ⟨n, r, c, E, row, b, k, h1, h2, h3, h4, h5, h6, rfl⟩ := hx
  obtain ⟨ad, u, g1, g2, g3⟩ := load_rep h (h1 ▸ h.rep a) h2 h3 h4 h5 h6
  refine ⟨u, ?_, g3⟩
  simp only [readRes, g1]
  simp [asAddr, g2]
theorem resVs_run {tm : Array Value} (h : Sat w0 M0 F0 st tm w φ F) : ∀ {rs : List ResultVar} {xs : List V}, ResVs P st rs xs → ∃ vs : List Value, (rs.mapM (readRes tm)).run P w = .ok vs w ∧ vs.length = xs.length ∧ ∀ (i : Nat) x v, xs[i]? = some x → vs[i]? = some v → Rep w F φ x v
 | [], [], _ => ⟨[], by simp, rfl, fun i x v hx => by simp at hx⟩
 | a :: as, x :: xs, hx => by
  obtain ⟨u, h1, h2⟩ := resV_run h hx.1
  obtain ⟨vs, h3, h4, h5⟩ := resVs_run h hx.2
  refine ⟨u :: vs, by rw [List.mapM_cons]; simp [h1, h3], by simp [h4], fun i y v hy hv => ?_⟩
  cases i with
  | zero => simp at hy hv; subst hy hv; exact h2
  | succ i => exact h5 i y v (by simpa using hy) (by simpa using hv)
 | [], _ :: _, hx => hx.elim
 | _ :: _, [], hx => hx.elim
def EndR (P : Program) (rs : List ResultVar) (r : V) (outs : List Entry) (st : St) : Prop :=
 ∃ xs, ResVs P st rs xs ∧ ∃ src D N, Re st (resHp outs r) src D N ∧ Cv st.hp src D N (resOne xs) (r.mat 2000)
theorem runs_ofR {f : FuncId} {fn : Func} {c : Code} {args : List V} {ins : List Entry} {r : V} {outs : List Entry} {rs : List ResultVar} (hf : P.funcs[f]? = some fn) (hb : fn.body = some c) (hres : fn.results = rs.toArray)
    (hn : args.length ≤ fn.ntmps) (hlen : outs.length = ins.length)
    (h : Tri P c (fun e st => match e with | .normal => EndR P rs r outs st | .ret => EndR P rs r outs st | _ => False) ⟨fn.ntmps, fun t => args.getD t .undef, argHp ins⟩) : Runs P f args ins r outs := by
  intro w argv φ F hs
  have hsz : argv.size = args.length := hs.slots
  refine calls_of_wp hf hb ?_
  have hs1 : Sat w ⟨Mset (argHp ins) φ, φ⟩ F ⟨fn.ntmps, fun t => args.getD t .undef, argHp ins⟩ (argv ++ Array.replicate (fn.ntmps - argv.size) undef) w φ F := by
    refine { hs with slots := by simp; omega, rep := fun t => ?_ }
    by_cases ht : t < argv.size
    · have := hs.rep t
      have e : (argv ++ Array.replicate (fn.ntmps - argv.size) undef).getD t undef = argv.getD t undef := by simp [Array.getElem?_append, ht]
      rw [e]; exact this
    · have e : args.getD t .undef = .undef := by simp [List.getD, List.getElem?_eq_none (show args.length ≤ t by omega)]
      show Rep w F φ (args.getD t .undef) _
      rw [e]; exact .undef
  refine wp_mono (h w ⟨Mset (argHp ins) φ, φ⟩ F { tmps := argv ++ Array.replicate (fn.ntmps - argv.size) undef, defers := [] } w φ F hs1 rfl) fun e a' w' hq => ?_
  have fin : ∀ {st' : St} {φ' : Env} {F' : Nat → Prop}, EndR P rs r outs st' → Sat w ⟨Mset (argHp ins) φ, φ⟩ F st' a'.tmps w' φ' F' → a'.defers = [] →
      a'.defers = [] ∧ ∃ v, (results fn a'.tmps).run P w' = .ok v w' ∧ ∃ u φ' F', (Ending.returned v) = .returned u ∧ Sat w ⟨Mset (argHp ins) φ, φ⟩ F (resSt r outs) #[u] w' φ' F' ∧ outs.length = ins.length := fun {st' φ' F'} he hs' hd => by
    obtain ⟨xs, hxs, src, D, N, h1, h2⟩ := he
    obtain ⟨vs, g1, g2, g3⟩ := resVs_run hs' hxs
    have hrun : (results fn a'.tmps).run P w' = .ok (oneOf vs) w' := by
      have e : results fn a'.tmps = (do
          let vs ← rs.toArray.mapM (readRes a'.tmps)
          pure (if h : vs.size = 1 then vs[0] else .tuple vs)) := by
        unfold results
        rw [hres]
        congr 1
      rw [e]
      simp only [List.mapM_toArray, Sem.run_bind, Sem.run_map, g1, Result.andThen_ok, Sem.run_pure]
      congr 1
      cases vs with
      | nil => simp [oneOf]
      | cons v vs => cases vs <;> simp [oneOf]
    refine ⟨hd, _, hrun, _, reEnv φ' src N, reF st'.hp φ' F' D, rfl, ?_, hlen⟩
    refine hs'.re (st' := resSt r outs) h1 rfl (fun t => ?_)
    show Rep w' _ _ (if t = 0 then r.mat 2000 else .undef) _
    split
    · rename_i ht
      subst ht
      show Rep w' _ _ (r.mat 2000) (oneOf vs)
      refine cv_rep hs' h1.new h2 _ ?_
      cases vs with
      | nil =>
        have : xs = [] := List.eq_nil_of_length_eq_zero g2.symm
        subst this
        exact .tup (xs := []) (vs := []) rfl (fun i x v hx => by simp at hx)
      | cons t ts =>
        cases ts with
        | nil =>
          obtain ⟨x, rfl⟩ := List.length_eq_one_iff.1 g2.symm
          exact g3 0 x t rfl rfl
        | cons t' ts =>
          cases xs with
          | nil => simp at g2
          | cons x xs =>
            cases xs with
            | nil => simp at g2
            | cons x' xs => exact Rep.tup (xs := x :: x' :: xs) (vs := t :: t' :: ts) g2.symm g3
    · exact .undef
  cases e with
  | normal => obtain ⟨st', φ', F', h1, h2, h3⟩ := hq; exact fin h1 h2 h3
  | ret => obtain ⟨st', φ', F', h1, h2, h3⟩ := hq; exact fin h1 h2 h3
  | exit id => obtain ⟨st', φ', F', h1, h2, h3⟩ := hq; exact h1.elim
  | goto l => obtain ⟨st', φ', F', h1, h2, h3⟩ := hq; exact h1.elim
  | panic c => exact hq.elim
  | outgrown => exact hq.elim
theorem runsR {f : FuncId} {fn : Func} {c : Code} {args : List V} {ins : List Entry} {r : V} {outs : List Entry} (rs : List ResultVar) (hf : P.funcs[f]? = some fn) (hb : fn.body = some c) (hres : fn.results = rs.toArray)
  (hn : Nat.ble args.length fn.ntmps = true) (hlen : outs.length = ins.length)
  (h : Tri P c (fun e st => match e with | .normal => EndR P rs r outs st | .ret => EndR P rs r outs st | _ => False) (mkT fn.ntmps (argT 0 args) (outsL 0 ins))) : Runs P f args ins r outs :=
 runs_ofR hf hb hres (Nat.le_of_ble_eq_true hn) hlen (by rw [start_eq]; exact h)
theorem resCell {n : Nat} {T : Tm} {H : Hp} {a : Nat} {t : TypeId} {nm : Nm} {e : TypeId} {z : Nat} {row : List V} {s m : Bool} (h1 : lkT T a = .ptr nm 0 0) (h2 : lkH H nm = some (some ⟨e, z, [row], s, m⟩)) (h3 : tyK P t = some (true, row.length)) :
  ResV P (mkT n T H) (.cell a t) (.agg row) := ⟨nm, 0, 0, _, row, true, row.length, h1, h2, rfl, h3, by omega, fun q => (by cases q), by simp [loadV]⟩
end
end Go.Abs
namespace Go.Abs
open Go
theorem relAgg {hp : Heap} {ns kb : List Nm} {xs : List V} (h : xs.all (·.free) = true) : ArgRel hp ns kb (.agg xs) (.agg xs) :=
 .agg rfl fun i x y hx hy => by
  rw [hx] at hy; cases hy
  exact .free (List.all_eq_true.1 h x (List.mem_of_getElem? hx))
theorem cvAgg {hp : Heap} {src : Nm → Option Nm} {D : List Nm} {N : Nm → Option Nat} {xs : List V} (h : xs.all (·.free) = true) : Cv hp src D N (.agg xs) (.agg xs) :=
 .agg rfl fun i x y hx hy => by
  rw [hx] at hy; cases hy
  exact .free (List.all_eq_true.1 h x (List.mem_of_getElem? hx))
end Go.Abs
