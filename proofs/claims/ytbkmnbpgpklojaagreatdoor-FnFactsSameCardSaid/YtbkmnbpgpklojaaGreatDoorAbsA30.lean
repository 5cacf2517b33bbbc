/- The abstract layer, part A30. -/
import Derived.Test.YtbkmnbpgpklojaaGreatDoorAbsA29
namespace Go.Abs
open Go
section
variable {α : Type} {a : Nat} {f : Nm → α → List V}
end
section
variable {a : Nat}
end
def EndG (P : Program) (rs : List ResultVar) (x : V) (own : List (Nat × Entry)) (outs : List Entry) (st : St) : Prop :=
 ∃ xs, ResVs P st rs xs ∧ ∃ src D N, Re st (addOwns 2000 own (argHp outs)) src D N ∧ Cv st.hp src D N (resOne xs) x
theorem runs_ofG {P : Program} {f : FuncId} {fn : Func} {c : Code} {args : List V} {ins : List Entry} {x : V} {own : List (Nat × Entry)} {outs : List Entry} {rs : List ResultVar} (hf : P.funcs[f]? = some fn) (hb : fn.body = some c) (hres : fn.results = rs.toArray)
    (hn : args.length ≤ fn.ntmps) (hlen : outs.length = ins.length)
    (h : Tri P c (fun e st => match e with | .normal => EndG P rs x own outs st | .ret => EndG P rs x own outs st | _ => False) ⟨fn.ntmps, fun t => args.getD t .undef, argHp ins⟩) : RunsG P f args ins x own outs := by
  intro w argv φ F hs
  have hsz : argv.size = args.length := hs.slots
  refine calls_of_wp hf hb ?_
  have hs1 : Sat w ⟨Mset (argHp ins) φ, φ⟩ F ⟨fn.ntmps, fun t => args.getD t .undef, argHp ins⟩ (argv ++ Array.replicate (fn.ntmps - argv.size) undef) w φ F := by
    refine { hs with slots := by simp; omega, rep := fun t => ?_ }
    by_cases ht : t < argv.size
    · have := hs.rep t
      have e : (argv ++ Array.replicate (fn.ntmps - argv.size) undef).getD t undef = argv.getD t undef := by simp [Array.getElem?_append, ht]
      rw [e]; exact this
    · have e : args.getD t .undef = .undef := by simp [List.getD, List.getElem?_eq_none (show args.length ≤ t by omega)]
      show Rep w F φ (args.getD t .undef) _
      rw [e]; exact .undef
  refine wp_mono (h w ⟨Mset (argHp ins) φ, φ⟩ F { tmps := argv ++ Array.replicate (fn.ntmps - argv.size) undef, defers := [] } w φ F hs1 rfl) fun e a' w' hq => ?_
  have fin : ∀ {st' : St} {φ' : Env} {F' : Nat → Prop}, EndG P rs x own outs st' → Sat w ⟨Mset (argHp ins) φ, φ⟩ F st' a'.tmps w' φ' F' → a'.defers = [] →
      a'.defers = [] ∧ ∃ v, (results fn a'.tmps).run P w' = .ok v w' ∧ ∃ u φ' F', (Ending.returned v) = .returned u ∧ Sat w ⟨Mset (argHp ins) φ, φ⟩ F ⟨1, fun t => if t = 0 then x else .undef, addOwns 2000 own (argHp outs)⟩ #[u] w' φ' F' ∧ outs.length = ins.length := fun {st' φ' F'} he hs' hd => by
    obtain ⟨xs, hxs, src, D, N, h1, h2⟩ := he
    obtain ⟨vs, g1, g2, g3⟩ := resVs_run hs' hxs
    have hrun : (results fn a'.tmps).run P w' = .ok (oneOf vs) w' := by
      have e : results fn a'.tmps = (do
          let vs ← rs.toArray.mapM (readRes a'.tmps)
          pure (if h : vs.size = 1 then vs[0] else .tuple vs)) := by
        unfold results
        rw [hres]
        congr 1
      rw [e]
      simp only [List.mapM_toArray, Sem.run_bind, Sem.run_map, g1, Result.andThen_ok, Sem.run_pure]
      congr 1
      cases vs with
      | nil => simp [oneOf]
      | cons v vs => cases vs <;> simp [oneOf]
    refine ⟨hd, _, hrun, _, reEnv φ' src N, reF st'.hp φ' F' D, rfl, ?_, hlen⟩
    refine hs'.re (st' := ⟨1, fun t => if t = 0 then x else .undef, addOwns 2000 own (argHp outs)⟩) h1 rfl (fun t => ?_)
    show Rep w' _ _ (if t = 0 then x else .undef) _
    split
    · rename_i ht
      subst ht
      show Rep w' _ _ x (oneOf vs)
      refine cv_rep hs' h1.new h2 _ ?_
      cases vs with
      | nil =>
        have : xs = [] := List.eq_nil_of_length_eq_zero g2.symm
        subst this
        exact .tup (xs := []) (vs := []) rfl (fun i x v hx => by simp at hx)
      | cons t ts =>
        cases ts with
        | nil =>
          obtain ⟨x, rfl⟩ := List.length_eq_one_iff.1 g2.symm
          exact g3 0 x t rfl rfl
        | cons t' ts =>
          cases xs with
          | nil => simp at g2
          | cons x xs =>
            cases xs with
            | nil => simp at g2
            | cons x' xs => exact Rep.tup (xs := x :: x' :: xs) (vs := t :: t' :: ts) g2.symm g3
    · exact .undef
  cases e with
  | normal => obtain ⟨st', φ', F', h1, h2, h3⟩ := hq; exact fin h1 h2 h3
  | ret => obtain ⟨st', φ', F', h1, h2, h3⟩ := hq; exact fin h1 h2 h3
  | exit id => obtain ⟨st', φ', F', h1, h2, h3⟩ := hq; exact h1.elim
  | goto l => obtain ⟨st', φ', F', h1, h2, h3⟩ := hq; exact h1.elim
  | panic c => exact hq.elim
  | outgrown => exact hq.elim
theorem runsG {P : Program} {f : FuncId} {fn : Func} {c : Code} {args : List V} {ins : List Entry} {x : V} {own : List (Nat × Entry)} {outs : List Entry} (rs : List ResultVar) (hf : P.funcs[f]? = some fn) (hb : fn.body = some c) (hres : fn.results = rs.toArray)
  (hn : Nat.ble args.length fn.ntmps = true) (hlen : outs.length = ins.length)
  (h : Tri P c (fun e st => match e with | .normal => EndG P rs x own outs st | .ret => EndG P rs x own outs st | _ => False) (mkT fn.ntmps (argT 0 args) (outsL 0 ins))) : RunsG P f args ins x own outs :=
 runs_ofG hf hb hres (Nat.le_of_ble_eq_true hn) hlen (by rw [start_eq]; exact h)
end Go.Abs
