/- The abstract layer, part A8. -/
import Derived.Test.YtbkmnbpgpklojaaGreatDoorAbsA7
namespace Go.Abs
open Go
def V.mat0 (d p : Nat) : V → V
 | .own _ _ rows => .ref (d, p) 0 rows.length
 | .obox _ _ => .ptr (d, p) 0 0
 | x => x
def matL (d : Nat) : Nat → List V → List V
 | _, [] => []
 | p, x :: xs => x.mat0 d p :: matL d (p + 1) xs
def V.mat1 (d p : Nat) : V → V
 | .agg xs => .agg (matL d p xs)
 | x => x.mat0 d p
def matT (d : Nat) : Nat → List V → List V
 | _, [] => []
 | i, x :: xs => x.mat1 d (100 * (i + 1)) :: matT d (i + 1) xs
def V.mat (d : Nat) : V → V
 | .tup xs => .tup (matT d 0 xs)
 | x => x.mat1 d 0
def V.own0 (p : Nat) : V → List (Nat × Entry)
 | .own e z rows => [(p, ⟨e, z, rows, false, true⟩)]
 | .obox e row => [(p, ⟨e, row.length, [row], false, true⟩)]
 | _ => []
def ownL : Nat → List V → List (Nat × Entry)
 | _, [] => []
 | p, x :: xs => x.own0 p ++ ownL (p + 1) xs
def V.own1 (p : Nat) : V → List (Nat × Entry)
 | .agg xs => ownL p xs
 | x => x.own0 p
def ownT : Nat → List V → List (Nat × Entry)
 | _, [] => []
 | i, x :: xs => x.own1 (100 * (i + 1)) ++ ownT (i + 1) xs
def V.owns : V → List (Nat × Entry)
 | .tup xs => ownT 0 xs
 | x => x.own1 0
def addOwns (d : Nat) (l : List (Nat × Entry)) (hp : Heap) : Heap := l.foldr (fun q h => upd h (d, q.1) (some q.2)) hp
def mineOf (hp : Heap) (n : Nm) : Bool := match hp n with | some (some E) => E.mine | _ => true
def setOuts : List Nm → List Entry → Heap → Heap
 | n :: ns, E :: Es, hp => setOuts ns Es (upd hp n (some { E with mine := mineOf hp n }))
 | _, _, hp => hp
def killAll (ks : List Nm) (hp : Heap) : Heap := fun m => if m ∈ ks then some none else hp m
def argHp (ins : List Entry) : Heap := fun m => if m.1 = 1000 then (ins[m.2]?).map some else none
def resHp (outs : List Entry) (r : V) : Heap := addOwns 2000 r.owns (argHp outs)
def argSt (args : List V) (ins : List Entry) : St := ⟨args.length, fun t => args.getD t .undef, argHp ins⟩
def resSt (r : V) (outs : List Entry) : St := ⟨1, fun t => if t = 0 then r.mat 2000 else .undef, resHp outs r⟩
def Runs (P : Program) (f : FuncId) (args : List V) (ins : List Entry) (r : V) (outs : List Entry) : Prop :=
 ∀ (w : World) (argv : Array Value) (φ : Env) (F : Nat → Prop), Sat w ⟨Mset (argHp ins) φ, φ⟩ F (argSt args ins) argv w φ F →
  Calls P f argv w fun e w' => ∃ v φ' F', e = .returned v ∧ Sat w ⟨Mset (argHp ins) φ, φ⟩ F (resSt r outs) #[v] w' φ' F' ∧ outs.length = ins.length
inductive ArgRel (hp : Heap) (ns kb : List Nm) : V → V → Prop where
 | free {x : V} (h : x.free = true) : ArgRel hp ns kb x x
 | nils {z : Nat} : ArgRel hp ns kb .nils (.lst z [])
 | refOwn {n : Nm} {i off len : Nat} (h : ns[i]? = some n) : ArgRel hp ns kb (.ref n off len) (.ref (1000, i) off len)
 | ptrOwn {n : Nm} {i r c : Nat} (h : ns[i]? = some n) : ArgRel hp ns kb (.ptr n r c) (.ptr (1000, i) r c)
 | refLst {n : Nm} {E : Entry} {off len : Nat} {rows' : List (List V)} (hn : hp n = some (some E)) (hk : n ∈ kb) (hl : off + len ≤ E.rows.length) (hlen : rows'.length = len) (hz : ∀ r, r ∈ rows' → r.length = E.z)
   (src : Nat → Nat → V) (h1 : ∀ i j x, cellAt rows' i j = some x → cellAt E.rows (off + i) j = some (src i j)) (h2 : ∀ i j x, cellAt rows' i j = some x → ArgRel hp ns kb (src i j) x)
   (h3 : ∀ i j x, cellAt rows' i j = some x → x.free = true) : ArgRel hp ns kb (.ref n off len) (.lst E.z rows')
 | ptrLst {n : Nm} {E : Entry} {r c : Nat} {rows' : List (List V)} (hn : hp n = some (some E)) (hk : n ∈ kb) (hz : ∀ r, r ∈ rows' → r.length = E.z)
   (src : Nat → Nat → V) (h1 : ∀ i j x, cellAt rows' i j = some x → cellAt E.rows i j = some (src i j)) (h2 : ∀ i j x, cellAt rows' i j = some x → ArgRel hp ns kb (src i j) x)
   (h3 : ∀ i j x, cellAt rows' i j = some x → x.free = true) : ArgRel hp ns kb (.ptr n r c) (.lptr E.z rows' r c)
 | agg {xs ys : List V} (hl : xs.length = ys.length) (h : ∀ (i : Nat) x y, xs[i]? = some x → ys[i]? = some y → ArgRel hp ns kb x y) : ArgRel hp ns kb (.agg xs) (.agg ys)
 | fn {f : FuncId} {xs ys : List V} (hl : xs.length = ys.length) (h : ∀ (i : Nat) x y, xs[i]? = some x → ys[i]? = some y → ArgRel hp ns kb x y) : ArgRel hp ns kb (.fn f xs) (.fn f ys)
 | tup {xs ys : List V} (hl : xs.length = ys.length) (h : ∀ (i : Nat) x y, xs[i]? = some x → ys[i]? = some y → ArgRel hp ns kb x y) : ArgRel hp ns kb (.tup xs) (.tup ys)
section
variable {P : Program} {w0 : World} {M0 : Base} {F0 : Nat → Prop} {st : St} {a : Act} {w : World} {φ : Env} {F : Nat → Prop} {o : Oper} {next : Act → World → Prop} {Q : Exit → Act → World → Prop}
def calleeEnv (φ : Env) (ns : List Nm) : Env := fun m => if m.1 = 1000 then (ns[m.2]?).bind φ else none
def calleeF (hp : Heap) (φ : Env) (F : Nat → Prop) (kb : List Nm) : Nat → Prop := fun b => F b ∨ ∃ n z cap E, n ∈ kb ∧ hp n = some (some E) ∧ φ n = some (z, .at b cap)
theorem argRel_rep {tm : Array Value} (h : Sat w0 M0 F0 st tm w φ F) {ns kb : List Nm} (_hns : ∀ n, n ∈ ns → ∃ E, st.hp n = some (some E)) {x y : V} (hr : ArgRel st.hp ns kb x y) :
    ∀ v, Rep w F φ x v → Rep w (calleeF st.hp φ F kb) (calleeEnv φ ns) y v := by
  have hF : ∀ c, F c → calleeF st.hp φ F kb c := fun c hc => .inl hc
  induction hr with
  | @free x hf => exact fun v hv => (hv.mono (w' := w) (fun _ _ => rfl) hF (fun _ _ h => h)).unname hf
  | nils =>
    intro v hv
    cases hv
    exact .lst (rows := []) 0 0 (fun _ _ => undef) (fun h => absurd rfl h) (Nat.zero_le _) (by decide) (by simp) (fun i j x hx => by simp [cellAt] at hx) (fun i j x hx => by simp [cellAt] at hx) (fun i j x hx => by simp [cellAt] at hx) (fun i j x hx => by simp [cellAt] at hx)
  | @refOwn n i off len hi =>
    intro v hv
    have e : calleeEnv φ ns (1000, i) = φ n := by simp [calleeEnv, hi]
    cases hv with
    | refNil h1 => exact .refNil (e.trans h1)
    | ref h1 hl hm ho => exact .ref (e.trans h1) hl hm ho
  | @ptrOwn n i r c hi =>
    intro v hv
    have e : calleeEnv φ ns (1000, i) = φ n := by simp [calleeEnv, hi]
    cases hv with
    | ptr h1 => exact .ptr (e.trans h1)
  | @refLst n E off len rows' hn hk hl hlen hz src h1 h2 h3 ih =>
    intro v hv
    obtain ⟨loc, g1, g2, -⟩ := h.obj n E hn
    subst hlen
    generalize hq : rows'.length = q at hv
    cases hv with
    | refNil h4 =>
      have hr0 : rows' = [] := List.eq_nil_of_length_eq_zero hq
      subst hr0
      exact .lst (rows := []) 0 0 (fun _ _ => undef) (fun h => absurd rfl h) (Nat.zero_le _) (by decide) (by simp) (fun i j x hx => by simp [cellAt] at hx) (fun i j x hx => by simp [cellAt] at hx) (fun i j x hx => by simp [cellAt] at hx) (fun i j x hx => by simp [cellAt] at hx)
    | ref h4 hle hm hoff =>
      rename_i z b cap o'
      rw [g1] at h4
      obtain ⟨rfl, rfl⟩ : E.z = z ∧ loc = Loc.at b cap := by simpa using h4
      obtain ⟨arr, fz, q1, qs, q2, q3, q4, q5, q6, q7⟩ := g2
      have hat : ∀ i j x, cellAt rows' i j = some x → i < rows'.length := fun i j x hx => by
        unfold cellAt at hx
        cases hr : rows'[i]? with
        | none => simp [hr] at hx
        | some r => exact (List.getElem?_eq_some_iff.1 hr).1
      have hget : ∀ i j x, cellAt rows' i j = some x → ∃ u, arr.getD ((off + i) * E.z + j) undef = u ∧ arr[(off + i) * E.z + j]? = some u ∧ u.oneCell' = true ∧ Rep w F φ (src i j) u := fun i j x hx => by
        obtain ⟨u, u1, u2, u3⟩ := q7 _ _ _ (h1 i j x hx)
        exact ⟨u, by simp [u1], u1, u2, u3⟩
      rw [← hq]
      refine .lst b o' (fun i j => arr.getD ((off + i) * E.z + j) undef) (fun _ => rfl) (by omega) (by omega) hz (fun i j x hx => .inr ⟨n, E.z, cap, E, hk, hn, g1⟩) (fun i j x hx => ?_) (fun i j x hx => ?_) (fun i j x hx => ?_)
      · obtain ⟨u, u1, u2, u3, u4⟩ := hget i j x hx
        have hi := hat i j x hx
        simp only [u1]
        rw [cell_of_row w b _ arr E.e fz q1, ← u2, hoff (by omega), Nat.add_mul]
      · obtain ⟨u, u1, u2, u3, u4⟩ := hget i j x hx
        simp only [u1]; exact u3
      · obtain ⟨u, u1, u2, u3, u4⟩ := hget i j x hx
        simp only [u1]; exact (ih i j x hx u u4).unname (h3 i j x hx)
  | @ptrLst n E r c rows' hn hk hz src h1 h2 h3 ih =>
    intro v hv
    obtain ⟨loc, g1, g2, -⟩ := h.obj n E hn
    cases hv with
    | ptr h4 =>
      rename_i z b cap
      rw [g1] at h4
      obtain ⟨rfl, rfl⟩ : E.z = z ∧ loc = Loc.at b cap := by simpa using h4
      obtain ⟨arr, fz, q1, qs, q2, q3, q4, q5, q6, q7⟩ := g2
      have hget : ∀ i j x, cellAt rows' i j = some x → ∃ u, arr.getD (i * E.z + j) undef = u ∧ arr[i * E.z + j]? = some u ∧ u.oneCell' = true ∧ Rep w F φ (src i j) u := fun i j x hx => by
        obtain ⟨u, u1, u2, u3⟩ := q7 _ _ _ (h1 i j x hx)
        exact ⟨u, by simp [u1], u1, u2, u3⟩
      have hh := Rep.lptr (w := w) (F := calleeF st.hp φ F kb) (φ := calleeEnv φ ns) (z := E.z) (rows := rows') (r := r) (c := c) b 0 (fun i j => arr.getD (i * E.z + j) undef) hz (fun i j x hx => .inr ⟨n, E.z, cap, E, hk, hn, g1⟩)
        (fun i j x hx => by
          obtain ⟨u, u1, u2, u3, u4⟩ := hget i j x hx
          simp only [u1]
          rw [cell_of_row w b _ arr E.e fz q1, ← u2]; congr 1; omega)
        (fun i j x hx => by obtain ⟨u, u1, u2, u3, u4⟩ := hget i j x hx; simp only [u1]; exact u3)
        (fun i j x hx => by obtain ⟨u, u1, u2, u3, u4⟩ := hget i j x hx; simp only [u1]; exact (ih i j x hx u u4).unname (h3 i j x hx))
      simpa using hh
  | @agg xs ys hl h ih =>
    intro v hv
    obtain ⟨vs, rfl, h1, h2, h3⟩ := hv.agg_inv
    refine .agg (by omega) (fun i y v hy hv => ?_) h3
    have hi : i < xs.length := by rw [hl]; exact (List.getElem?_eq_some_iff.1 hy).1
    exact ih i _ y (List.getElem?_eq_getElem hi) hy v (h2 i _ v (List.getElem?_eq_getElem hi) hv)
  | @fn f xs ys hl h ih =>
    intro v hv
    obtain ⟨vs, rfl, h1, h2⟩ := hv.fn_inv
    refine .fn (by omega) (fun i y v hy hv => ?_)
    have hi : i < xs.length := by rw [hl]; exact (List.getElem?_eq_some_iff.1 hy).1
    exact ih i _ y (List.getElem?_eq_getElem hi) hy v (h2 i _ v (List.getElem?_eq_getElem hi) hv)
  | @tup xs ys hl h ih =>
    intro v hv
    obtain ⟨vs, rfl, h1, h2⟩ := hv.tup_inv
    refine .tup (by omega) (fun i y v hy hv => ?_)
    have hi : i < xs.length := by rw [hl]; exact (List.getElem?_eq_some_iff.1 hy).1
    exact ih i _ y (List.getElem?_eq_getElem hi) hy v (h2 i _ v (List.getElem?_eq_getElem hi) hv)
def AllFree (rows : List (List V)) : Prop := ∀ i j x, cellAt rows i j = some x → x.free = true
theorem callee_sat {tm : Array Value} (h : Sat w0 M0 F0 st tm w φ F) {ns kb : List Nm} {ins : List Entry} {args : List V} {xs : List V} {argv : Array Value}
  (hlen : ins.length = ns.length) (hnd : ns.Nodup) (hin : ∀ (i : Nat) n, ns[i]? = some n → ∃ E', st.hp n = some (some E') ∧ ins[i]? = some { E' with mine := false })
  (hfree : ∀ E, E ∈ ins → AllFree E.rows) (hkb : ∀ n, n ∈ kb → n ∉ ns)
  (hxl : xs.length = args.length) (harg : ∀ (i : Nat) x y, xs[i]? = some x → args[i]? = some y → ArgRel st.hp ns kb x y)
  (hvl : argv.size = args.length) (hv : ∀ (i : Nat) x v, xs[i]? = some x → argv[i]? = some v → Rep w F φ x v) :
  Sat w ⟨Mset (argHp ins) (calleeEnv φ ns), calleeEnv φ ns⟩ (calleeF st.hp φ F kb) (argSt args ins) argv w (calleeEnv φ ns) (calleeF st.hp φ F kb) := by
 have hget : ∀ m E, argHp ins m = some (some E) → ∃ i n, m = (1000, i) ∧ ns[i]? = some n ∧ ins[i]? = some E := fun m E hm => by
  obtain ⟨m1, m2⟩ := m
  unfold argHp at hm
  split at hm
  ·rename_i h1
   simp only at h1
   subst h1
   cases hi : ins[m2]? with
   | none => simp [hi] at hm
   | some E' =>
    simp only [hi, Option.map_some, Option.some.injEq] at hm
    subst hm
    have hlt : m2 < ns.length := by rw [← hlen]; exact (List.getElem?_eq_some_iff.1 hi).1
    exact ⟨m2, ns[m2], rfl, List.getElem?_eq_getElem hlt, hi⟩
  ·cases hm
 have hlive : ∀ n, n ∈ ns → ∃ E, st.hp n = some (some E) := fun n hn => by
  obtain ⟨i, hi, rfl⟩ := List.getElem_of_mem hn
  obtain ⟨E, hE, _⟩ := hin i _ (List.getElem?_eq_getElem hi)
  exact ⟨_, hE⟩
 have hM : ∀ b, Mset (argHp ins) (calleeEnv φ ns) b → ∃ n z cap, n ∈ ns ∧ φ n = some (z, .at b cap) := fun b hb => by
  obtain ⟨m, E, z, cap, h1, h2⟩ := hb
  obtain ⟨i, n, rfl, hn, _⟩ := hget m E h1
  exact ⟨n, z, cap, List.mem_of_getElem? hn, by simpa [calleeEnv, hn] using h2⟩
 refine ⟨rfl, rfl, rfl, Nat.le_refl _, fun _ _ _ => rfl, fun b hb => .inl hb, fun n e he => ⟨?_, he⟩, fun b hb => .inl hb, fun b hb hm => ?_, fun b hb => ?_, hvl, fun t => ?_, fun n n' E E' z z' b cap cap' h1 h2 h3 h4 => ?_, fun n E hE => ?_, fun n hn => ?_⟩
 ·have he' : calleeEnv φ ns n = some e := he
  unfold calleeEnv at he'
  split at he'
  ·assumption
  ·cases he'
 ·obtain ⟨n, z, cap, hn, hφ⟩ := hM b hm
  obtain ⟨E, hE⟩ := hlive n hn
  rcases hb with hb | ⟨n', z', cap', E', hk, hE', hφ'⟩
  ·exact h.dis b hb ⟨n, E, z, cap, hE, hφ⟩
  ·have := h.inj n' n E' E z' z b cap' cap hE' hE hφ' hφ
   subst this
   exact hkb n' hk hn
 ·rcases hb with hb | ⟨n', z', cap', E', hk, hE', hφ'⟩
  ·exact h.flt b hb
  ·exact h.lt ⟨n', E', z', cap', hE', hφ'⟩
 ·show Rep w _ _ (args.getD t .undef) (argv.getD t undef)
  by_cases ht : t < args.length
  ·have e1 : args[t]? = some args[t] := List.getElem?_eq_getElem ht
   have hx : t < xs.length := by omega
   have ha : t < argv.size := by omega
   have e2 : args.getD t .undef = args[t] := by simp [List.getD, e1]
   have e3 : argv.getD t undef = argv[t] := by simp [ha]
   rw [e2, e3]
   exact argRel_rep h hlive (harg t _ _ (List.getElem?_eq_getElem hx) e1) _ (hv t _ _ (List.getElem?_eq_getElem hx) (Array.getElem?_eq_getElem ha))
  ·have e2 : args.getD t .undef = .undef := by simp [List.getD, List.getElem?_eq_none (show args.length ≤ t by omega)]
   rw [e2]
   exact .undef
 ·obtain ⟨i, m, rfl, hm, _⟩ := hget n E h1
  obtain ⟨i', m', rfl, hm', _⟩ := hget n' E' h2
  obtain ⟨E1, hE1⟩ := hlive m (List.mem_of_getElem? hm)
  obtain ⟨E2, hE2⟩ := hlive m' (List.mem_of_getElem? hm')
  have := h.inj m m' E1 E2 z z' b cap cap' hE1 hE2 (by simpa [calleeEnv, hm] using h3) (by simpa [calleeEnv, hm'] using h4)
  subst this
  have hi := (List.getElem?_eq_some_iff.1 hm).1
  have := (List.getElem?_inj hi hnd).1 (hm.trans hm'.symm)
  rw [this]
 ·obtain ⟨i, m, rfl, hm, hi⟩ := hget n E hE
  obtain ⟨E', hlv, hE'⟩ := hin i m hm
  rw [hi] at hE'
  cases hE'
  obtain ⟨loc, g1, g2, _⟩ := h.obj m _ hlv
  refine ⟨loc, by simpa [calleeEnv, hm] using g1, ?_, fun hh => by cases hh⟩
  cases loc with
  | nil => exact g2
  | «at» b cap =>
   obtain ⟨arr, fz, q1, qs, q2, q3, q4, q5, q6, q7⟩ := g2
   refine ⟨arr, fz, q1, qs, q2, q3, q4, q5, q6, fun i' j x hx => ?_⟩
   obtain ⟨u, u1, u2, u3⟩ := q7 i' j x hx
   exact ⟨u, u1, u2, (u3.mono (w' := w) (fun _ _ => rfl) (fun c hc => .inl hc) (fun _ _ h => h)).unname (hfree _ (List.mem_of_getElem? hi) i' j x hx)⟩
 ·obtain ⟨m1, m2⟩ := n
  have hn' : argHp ins (m1, m2) = none := hn
  unfold argHp at hn'
  unfold calleeEnv
  split
  ·rename_i h1
   simp only at h1
   subst h1
   simp only [if_true] at hn'
   have : ins[m2]? = none := by simpa using hn'
   have hle : ins.length ≤ m2 := List.getElem?_eq_none_iff.1 this
   simp [List.getElem?_eq_none (show ns.length ≤ m2 by omega)]
  ·rfl
end
end Go.Abs
