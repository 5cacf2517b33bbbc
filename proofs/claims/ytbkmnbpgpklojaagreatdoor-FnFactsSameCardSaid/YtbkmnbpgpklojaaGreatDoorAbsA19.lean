/- The abstract layer, part A19. -/
import Derived.Test.YtbkmnbpgpklojaaGreatDoorAbsA18
namespace Go.Abs
open Go
theorem wantA_like {ops : Array Oper} {st st' : St} {o : Oper} (h : ∀ t, t ∈ o.looksAt ops → st'.tm t = st.tm t) : wantA ops st' o = wantA ops st o := by
 unfold wantA
 cases hg : o.guard with
 | none => rfl
 | some jw =>
  obtain ⟨j, want⟩ := jw
  simp only
  cases hd : (ops[j]?).bind (·.dst) with
  | none => rfl
  | some g =>
   have : g ∈ o.looksAt ops := by unfold Oper.looksAt; simp [hg, hd]
   simp only [h g this]
theorem looks_operand {ops : Array Oper} {o : Oper} {t : Nat} (h : Operand.tmp t ∈ o.op.operands) : t ∈ o.looksAt ops := by
 unfold Oper.looksAt
 refine List.mem_append_left _ (List.mem_filterMap.2 ⟨.tmp t, by simpa using h, rfl⟩)
section
variable {P : Program} {Q : Exit → St → Prop} {st : St}
theorem indep_of {l : List Oper} {lg : Lg} (h : drawOk l lg = true) {S : Nat → Prop} (hcl : ∀ k o, S k → l[k]? = some o → ∀ e, e ∈ o.after → Region.binds .any e = true → S e.on)
  {i j : Nat} {oi oj : Oper} {ri rj : List Nm × List Nm} (hij : i < j) (hi : l[i]? = some oi) (hj : l[j]? = some oj) (hri : lg[i]? = some ri) (hrj : lg[j]? = some rj)
  (hp : ∀ e, e ∈ oj.after → Region.binds .any e = true → S e.on) (hS : ¬ S i) : indep l.toArray (oi, ri) (oj, rj) = true := by
 have hlt : j < l.length := (List.getElem?_eq_some_iff.1 hj).1
 have h1 := List.all_eq_true.1 h j (List.mem_range.2 hlt)
 simp only [hj, hrj, Bool.and_eq_true] at h1
 have h2 := List.all_eq_true.1 h1.2 i (List.mem_range.2 hij)
 simp only [hi, hri, Bool.or_eq_true] at h2
 rcases h2 with h2 | h2
 ·exact absurd (anc_mem hcl l [] [] rfl rfl (fun i o hi => by simp at hi) j oj hj hp i (by simpa using h2)) hS
 ·exact h2
theorem apartN_names {x y : Oper × (List Nm × List Nm)} (h : apartN x y = true) {m : Nm} (hm : m ∈ x.2.2 ∨ x.1.dst = some m.1) : m ∉ y.2.1 ∧ m ∉ y.2.2 ∧ (m ∈ x.2.2 → y.1.dst ≠ some m.1) := by
 simp only [apartN, Bool.and_eq_true, List.all_eq_true] at h
 have k1 : ∀ m, m ∈ x.2.2 → m ∉ y.2.1 ∧ m ∉ y.2.2 ∧ y.1.dst ≠ some m.1 := fun m hm => by
  have := h.1 m hm
  simp only [Bool.not_eq_true', bne_iff_ne, ne_eq] at this
  obtain ⟨⟨a, b⟩, c⟩ := this
  refine ⟨fun q => ?_, fun q => ?_, c⟩
  ·rw [List.any_eq_true.2 ⟨m, q, nmEq_iff.2 rfl⟩] at a; cases a
  ·rw [List.any_eq_true.2 ⟨m, q, nmEq_iff.2 rfl⟩] at b; cases b
 rcases hm with hm | hm
 ·exact ⟨(k1 m hm).1, (k1 m hm).2.1, fun _ => (k1 m hm).2.2⟩
 ·have h2 := h.2
  rw [hm] at h2
  simp only [List.all_eq_true, bne_iff_ne, ne_eq] at h2
  refine ⟨fun q => h2 m (List.mem_append_left _ q) rfl, fun q => h2 m (List.mem_append_right _ q) rfl, fun q => (k1 m q).2.2⟩
theorem tri_draw {id : Nat} {l : List Oper} (hm : P.follows .mixedOrders = true) (h : RegT P l.toArray (fun lg st => drawOk l lg = true ∧ Q .normal st) l st) : Tri P (.region id l.toArray true) Q st := by
  obtain ⟨es, lg, hel, hgl, ⟨hck, hfin⟩, hev⟩ := regT_ev h
  intro w0 M0 F0 a w φ F hsat hdef
  refine wp_region_any hm ?_
  have atE : ∀ {j o}, l[j]? = some o → ∃ e r, es[j]? = some e ∧ lg[j]? = some r := fun {j o} hj => by
    have hlt := (List.getElem?_eq_some_iff.1 hj).1
    exact ⟨_, _, List.getElem?_eq_getElem (by omega), List.getElem?_eq_getElem (by omega)⟩
  have atO : ∀ {j e}, es[j]? = some e → ∃ o r, l[j]? = some o ∧ lg[j]? = some r := fun {j e} hj => by
    have hlt := (List.getElem?_eq_some_iff.1 hj).1
    exact ⟨_, _, List.getElem?_eq_getElem (by omega), List.getElem?_eq_getElem (by omega)⟩
  -- the states: by what is listed
  let sb : Array Bool → Nat → Bool := fun L k => L.getD k false
  have key : ∀ (fuel : Nat) (L : Array Bool), L.size = l.length → unl L.toList ≤ fuel →
      (∀ k o, sb L k = true → l[k]? = some o → ∀ e, e ∈ o.after → Region.binds .any e = true → sb L e.on = true) →
      ∀ (a : Act) (w : World) (φ : Env) (F : Nat → Prop), Sat w0 M0 F0 (playF es 0 (sb L) st) a.tmps w φ F → a.defers = [] → wpAny P .any l.toArray (QT w0 M0 F0 Q) fuel L a w := by
    intro fuel
    -- all is listed: done
    have done : ∀ (L : Array Bool), L.size = l.length → (∀ k, k < l.length → sb L k = true) → ∀ (a : Act) (w : World) (φ : Env) (F : Nat → Prop), Sat w0 M0 F0 (playF es 0 (sb L) st) a.tmps w φ F → a.defers = [] → QT w0 M0 F0 Q .normal a w := by
      intro L hL hall a w φ F hs hd
      rw [playF_congr es 0 (sb L) (fun _ => true) st (fun j hj => by simpa using hall j (by omega))] at hs
      exact ⟨_, φ, F, hfin, hs, hd⟩
    have toAll : ∀ (L : Array Bool), L.size = l.length → Region.ready .any l.toArray L = [] → ∀ k, k < l.length → sb L k = true := by
      intro L hL hr k
      induction k using Nat.strongRecOn with
      | _ k ih =>
        intro hk
        cases hb : sb L k with
        | true => rfl
        | false =>
          exfalso
          have hj := List.getElem?_eq_getElem hk
          obtain ⟨e, r, he, hrr⟩ := atE hj
          have h1 := List.all_eq_true.1 hck k (List.mem_range.2 hk)
          simp only [hj, hrr, Bool.and_eq_true] at h1
          have hmem : k ∈ Region.ready .any l.toArray L := by
            unfold Region.ready
            refine List.mem_filter.2 ⟨List.mem_range.2 (by simpa using hk), ?_⟩
            have hbk : L[k]?.getD true = false := by
              have hlt : k < L.size := by omega
              have hb' : L.getD k false = false := hb
              simp [hlt] at hb' ⊢; exact hb'
            simp only [Array.getD_eq_getD_getElem?, hbk, Bool.not_false, Bool.true_and, List.getElem?_toArray, hj, Option.map_some, Option.getD_some]
            refine Array.all_eq_true_iff_forall_mem.2 fun e he => ?_
            have h2 := Array.all_eq_true_iff_forall_mem.1 h1.1 e he
            simp only [Bool.or_eq_true, decide_eq_true_eq] at h2 ⊢
            rcases h2 with h2 | h2
            · exact .inl h2
            · refine .inr ?_
              have := ih e.on h2 (by omega)
              simpa [sb, Array.getD_eq_getD_getElem?] using this
          rw [hr] at hmem; cases hmem
    induction fuel with
    | zero =>
      intro L hL hu hcl a w φ F hs hd
      have hall : ∀ k, k < l.length → sb L k = true := fun k hk => by
        have := unl_zero L.toList (by omega) k (L[k]'(by omega)) (by simp)
        simp [sb, show k < L.size by omega, this]
      refine ⟨?_, done L hL hall a w φ F hs hd⟩
      cases hr : Region.ready .any l.toArray L with
      | nil => rfl
      | cons x xs =>
        exfalso
        have hx : x ∈ Region.ready .any l.toArray L := by rw [hr]; exact .head _
        unfold Region.ready at hx
        obtain ⟨h1, h2⟩ := List.mem_filter.1 hx
        have h3 := List.mem_range.1 h1
        have h4 := hall x (by simpa using h3)
        have hlt : x < L.size := by simp at h3; omega
        simp [sb, hlt] at h4
        simp [hlt, h4] at h2
    | succ fuel ih =>
      intro L hL hu hcl a w φ F hs hd
      refine ⟨fun hr => done L hL (toAll L hL hr) a w φ F hs hd, fun i hi => ?_⟩
      unfold Region.ready at hi
      obtain ⟨h1, h2⟩ := List.mem_filter.1 hi
      have hil : i < l.length := by simpa using List.mem_range.1 h1
      have hiL : i < L.size := by omega
      have ho := List.getElem?_eq_getElem hil
      generalize l[i] = o at ho
      simp only [List.getElem?_toArray, ho, Option.map_some, Option.getD_some, Bool.and_eq_true] at h2
      have hni : sb L i = false := by have := h2.1; simp [hiL] at this; simp [sb, hiL, this]
      have hpre : ∀ e, e ∈ o.after → Region.binds .any e = true → sb L e.on = true := fun e he hb => by
        have := Array.all_eq_true_iff_forall_mem.1 h2.2 e he
        simpa [hb, sb] using this
      obtain ⟨e, r, he, hr⟩ := atE ho
      obtain ⟨e1, e2, e3, e4⟩ := hev i o e r ho he hr
      -- i and another operation k that does not lie where the text has it
      have ind : ∀ k ok rk, l[k]? = some ok → lg[k]? = some rk → sb L k ≠ decide (k < i) → k ≠ i → Oper.apart l.toArray ok o = true ∧ Oper.apart l.toArray o ok = true ∧ apartN (ok, rk) (o, r) = true ∧ apartN (o, r) (ok, rk) = true := fun k ok rk hk hrk hne hki => by
        rcases Nat.lt_or_gt_of_ne hki with hlt | hlt
        · have hnk : ¬ sb L k = true := fun q => hne (by rw [q]; simp [hlt])
          have := indep_of (S := fun k => sb L k = true) hck hcl hlt hk ho hrk hr hpre hnk
          simp only [indep, Bool.and_eq_true] at this
          refine ⟨this.1.1, ?_, this.1.2, this.2⟩
          have h3 := this.1.1
          obtain ⟨a1, a2, a3⟩ := Oper.apart_spec h3
          unfold Oper.apart
          cases hod : o.dst with
          | none =>
            cases hkd : ok.dst with
            | none => rfl
            | some d => simpa using a1 d hkd
          | some d' =>
            have b3 := a3 d' hod
            cases hkd : ok.dst with
            | none => simpa using b3
            | some d =>
              have b1 := a1 d hkd
              have b2 := a2 d hkd
              rw [hod] at b2
              simp only [ne_eq, Option.some.injEq] at b2
              simp [b1, b3]; exact fun q => b2 q.symm
        · have hk' : sb L k = true := by
            cases q : sb L k with
            | true => rfl
            | false => exact absurd (by rw [q]; simp; omega) hne
          have := indep_of (S := fun k => sb L k = true) hck hcl hlt ho hk hr hrk (fun e' he' hb' => hcl k ok hk' hk e' he' hb') (by simp [hni])
          simp only [indep, Bool.and_eq_true] at this
          refine ⟨?_, this.1.1, this.2, this.1.2⟩
          obtain ⟨a1, a2, a3⟩ := Oper.apart_spec this.1.1
          unfold Oper.apart
          cases hkd : ok.dst with
          | none =>
            cases hod : o.dst with
            | none => rfl
            | some d => simpa using a1 d hod
          | some d' =>
            have b3 := a3 d' hkd
            cases hod : o.dst with
            | none => simpa using b3
            | some d =>
              have b1 := a1 d hod
              have b2 := a2 d hod
              rw [hkd] at b2
              simp only [ne_eq, Option.some.injEq] at b2
              simp [b1, b3]; exact fun q => b2 q.symm
      have hEvD : ∀ (k : Nat) (ek : Ev), es[k]? = some ek → ∃ (ok : Oper) (rk : List Nm × List Nm), l[k]? = some ok ∧ lg[k]? = some rk ∧ ek.dst = ok.dst ∧ ∀ m : Nm, ek.ov m ≠ none → m ∈ rk.2 ∨ ok.dst = some m.1 := fun k ek hk => by
        obtain ⟨ok, rk, h3, h4⟩ := atO hk
        obtain ⟨f1, _, f3, _⟩ := hev k ok ek rk h3 hk h4
        exact ⟨ok, rk, h3, h4, f1, f3⟩
      -- what i looks at is as it is in the text's order
      have look : ∀ t, t ∈ o.looksAt l.toArray → (playF es 0 (sb L) st).tm t = (playF es 0 (fun k => decide (k < i)) st).tm t := fun t ht =>
        agree_tm es 0 _ _ st st rfl fun k ek hk => by
          simp only [Nat.zero_add]
          by_cases hne : sb L k = decide (k < i)
          · exact .inl hne
          · right
            obtain ⟨ok, rk, h3, h4, h5, _⟩ := hEvD k ek hk
            have hki : k ≠ i := fun q => by subst q; exact hne (by simp [hni])
            obtain ⟨a1, _, _⟩ := Oper.apart_spec (ind k ok rk h3 h4 hne hki).1
            rw [h5]; exact fun q => a1 t q ht
      have names : ∀ m, m ∈ r.1 ∨ o.dst = some m.1 → (playF es 0 (sb L) st).hp m = (playF es 0 (fun k => decide (k < i)) st).hp m := fun m hmm =>
        agree_hp es 0 _ _ st st rfl fun k ek hk => by
          simp only [Nat.zero_add]
          by_cases hne : sb L k = decide (k < i)
          · exact .inl hne
          · right
            obtain ⟨ok, rk, h3, h4, h5, h6⟩ := hEvD k ek hk
            have hki : k ≠ i := fun q => by subst q; exact hne (by simp [hni])
            obtain ⟨b1, b2, b3, b4⟩ := ind k ok rk h3 h4 hne hki
            cases hq : ek.ov m with
            | none => rfl
            | some x =>
              exfalso
              have hw := h6 m (by rw [hq]; simp)
              obtain ⟨c1, c2, c3⟩ := apartN_names b3 hw
              rcases hmm with hmm | hmm
              · exact c1 hmm
              · rcases hw with hw | hw
                · exact c3 hw hmm
                · obtain ⟨_, a2, _⟩ := Oper.apart_spec b1
                  exact a2 m.1 hw hmm
      have like : Like o r.1 (playF es 0 (fun k => decide (k < i)) st) (playF es 0 (sb L) st) := ⟨fun x hx => by
          cases x with
          | tmp t => exact look t (looks_operand hx)
          | const v => rfl
          | global g => rfl
          | func f => rfl, fun m hm' => names m (.inl hm'), fun d p hd' => names (d, p) (.inr hd')⟩
      -- the state behind
      have behind : e.app (playF es 0 (sb L) st) = playF es 0 (sb (L.setIfInBounds i true)) st := by
        have hset : ∀ k, sb (L.setIfInBounds i true) k = if k = i then true else sb L k := fun k => by
          by_cases hk : k = i
          · subst hk; simp [sb, hiL]
          · simp [sb, hk, Array.getElem?_setIfInBounds_ne (Ne.symm hk)]
        refine St.ext3 (by rw [app_n, playF_n, playF_n]) (fun t => ?_) (fun m => ?_)
        · rw [app_tm]
          split
          · rename_i hdt
            refine (last_tm es 0 i _ st e he (by simp [hset]) hdt fun k ek hk hik hbk => ?_).symm
            obtain ⟨ok, rk, h3, h4, h5, _⟩ := hEvD k ek hk
            have hki : k ≠ i := by omega
            simp only [Nat.zero_add, hset, hki, if_false] at hbk
            have hne : sb L k ≠ decide (k < i) := by rw [hbk]; simp; omega
            obtain ⟨_, a2, _⟩ := Oper.apart_spec (ind k ok rk h3 h4 hne hki).2.1
            rw [h5]; exact fun q => a2 t (e1 ▸ hdt) q
          · rename_i hdt
            refine agree_tm es 0 _ _ st st rfl fun k ek hk => ?_
            simp only [Nat.zero_add, hset]
            by_cases hk' : k = i
            · subst hk'; rw [hk] at he; cases he; exact .inr hdt
            · simp [hk']
        · rw [app_hp, over]
          split
          · rename_i x hx
            refine (last_hp es 0 i _ st e he (by simp [hset]) hx fun k ek hk hik hbk => ?_).symm
            obtain ⟨ok, rk, h3, h4, h5, h6⟩ := hEvD k ek hk
            have hki : k ≠ i := by omega
            simp only [Nat.zero_add, hset, hki, if_false] at hbk
            have hne : sb L k ≠ decide (k < i) := by rw [hbk]; simp; omega
            obtain ⟨b1, b2, b3, b4⟩ := ind k ok rk h3 h4 hne hki
            cases hq : ek.ov m with
            | none => rfl
            | some y =>
              exfalso
              have hw := h6 m (by rw [hq]; simp)
              have hw' := e3 m (by rw [hx]; simp)
              obtain ⟨c1, c2, c3⟩ := apartN_names b3 hw
              obtain ⟨d1, d2, d3⟩ := apartN_names b4 hw'
              rcases hw with hw | hw
              · exact d2 hw
              · rcases hw' with hw' | hw'
                · exact c2 hw'
                · obtain ⟨_, a2, _⟩ := Oper.apart_spec b1
                  exact a2 m.1 hw hw'
          · rename_i hx
            refine agree_hp es 0 _ _ st st rfl fun k ek hk => ?_
            simp only [Nat.zero_add, hset]
            by_cases hk' : k = i
            · subst hk'; rw [hk] at he; cases he; exact .inr hx
            · simp [hk']
      have next : ∀ (a' : Act) (w' : World) (φ' : Env) (F' : Nat → Prop), Sat w0 M0 F0 (e.app (playF es 0 (sb L) st)) a'.tmps w' φ' F' → a'.defers = [] → wpAny P .any l.toArray (QT w0 M0 F0 Q) fuel (L.setIfInBounds i true) a' w' := fun a' w' φ' F' hs' hd' => by
        have hset : ∀ k, sb (L.setIfInBounds i true) k = if k = i then true else sb L k := fun k => by
          by_cases hk : k = i
          · subst hk; simp [sb, hiL]
          · simp [sb, hk, Array.getElem?_setIfInBounds_ne (Ne.symm hk)]
        refine ih (L.setIfInBounds i true) (by simpa using hL) ?_ (fun k ok hk hok e' he' hb' => ?_) a' w' φ' F' (behind ▸ hs') hd'
        · have := unl_set L.toList i (by
            have : L.getD i false = false := hni
            simp [hiL] at this ⊢; exact this)
          rw [Array.toList_setIfInBounds]; omega
        · rw [hset]
          split
          · rfl
          · rw [hset] at hk
            split at hk
            · rename_i hki; subst hki; rw [hok] at ho; cases ho; exact hpre e' he' hb'
            · exact hcl k ok hk hok e' he' hb'
      unfold wpOp
      simp only [List.getElem?_toArray, ho]
      have hn2 : dstOk o.dst (playF es 0 (sb L) st).n = true := by rw [playF_n]; rwa [playF_n] at e2
      rcases e4 with ⟨hw, hst⟩ | ⟨hw, hv, hov⟩
      · rw [← wantA_like look] at hw
        rw [if_pos (wantA_ok hs hw)]
        refine .inl ((hst _ like).ok hs hn2 fun a' w' φ' F' hs' hd' => next a' w' φ' F' ?_ (hd'.trans hd))
        rw [← e1] at hs'
        exact hs'
      · rw [← wantA_like look] at hw
        rw [if_neg (by rw [wantA_ok hs hw]; simp)]
        refine next _ w φ F ?_ ((put_defers' _ _ _).trans hd)
        have hp := hs.put hn2 (v := Go.undef) (x := .tup []) rep_none
        have : e.app (playF es 0 (sb L) st) = (playF es 0 (sb L) st).put o.dst (.tup []) := by
          unfold Ev.app
          rw [hov, hv, e1, over_no]
          exact St.eta _ _ _
        rw [this]; exact hp
  have h0 : playF es 0 (sb (Array.replicate l.toArray.size false)) st = st := by
    have none_ : ∀ (es : List Ev) (i : Nat) (st : St), playF es i (fun _ => false) st = st := fun es => by
      induction es with
      | nil => intro i st; rfl
      | cons e es ih => intro i st; rw [playF]; simp only [Bool.false_eq_true, if_false]; exact ih _ _
    have e0 : sb (Array.replicate l.toArray.size false) = fun _ => false := by
      funext k
      by_cases hk : k < l.length <;> simp [sb, hk]
    rw [e0, none_]
  refine key _ (Array.replicate l.toArray.size false) (by simp) ?_ (fun k o hk => ?_) a _ φ F (h0.symm ▸ hsat.drew) hdef
  · have : ∀ n, unl (List.replicate n false) = n := fun n => by induction n with | zero => rfl | succ n ih => simp [List.replicate_succ, unl, ih]
    simp [this]
  · by_cases hk' : k < l.length <;> simp [sb, hk'] at hk
end
end Go.Abs
