/- The abstract layer, part A7. -/
import Derived.Test.YtbkmnbpgpklojaaGreatDoorAbsA6
import Derived.WalkSpells
namespace Go.Abs
open Go
section
variable {P : Program} {w0 : World} {M0 : Base} {F0 : Nat → Prop} {st : St} {a : Act} {w : World} {φ : Env} {F : Nat → Prop} {o : Oper} {next : Act → World → Prop} {Q : Exit → Act → World → Prop}
def byteRows (s : ByteArray) : List (List V) := s.data.toList.map fun b => [.sc (.int .u8 b.toNat)]
def isBytes (P : Program) (t : TypeId) : Option TypeId := match P.underlying t with | some (.slice e) => (match P.underlying e with | some (.int .u8) => some e | _ => none) | _ => none
def isStr (P : Program) (t : TypeId) : Bool := match P.underlying t with | some .string => true | _ => false
theorem isBytes_spec {P : Program} {t e : TypeId} (h : isBytes P t = some e) : P.underlying t = some (.slice e) ∧ P.underlying e = some (.int .u8) := by
 unfold isBytes at h
 split at h
 ·rename_i e' h1
  split at h
  ·rename_i h2
   simp only [Option.some.injEq] at h
   subst h
   exact ⟨h1, h2⟩
  ·cases h
 ·cases h
theorem isStr_spec {P : Program} {t : TypeId} (h : isStr P t = true) : P.underlying t = some .string := by
 unfold isStr at h
 split at h
 ·assumption
 ·cases h
theorem ok_toBytes (h : Sat w0 M0 F0 st a.tmps w φ F) {d : Nat} (_hdst : o.dst = some d) (hd : dstOk o.dst st.n = true) {src dst e : TypeId} {x : Operand} {s : ByteArray} (ho : o.op = .convert src dst x) (hnm : st.hp (d, 0) = none)
  (hx : st.ev x = .sc (.string s)) (hs : isStr P src = true) (ht : isBytes P dst = some e) (hlen : s.size ≤ 1099511627776)
  (hn : Next w0 M0 F0 ((st.put o.dst (.ref (d, 0) 0 s.size)).up (d, 0) (some ⟨e, 1, byteRows s, true, true⟩)) a.defers next) : o.wp P a w next Q := by
 have hxv := (hx ▸ h.ev x).sc_inv.1
 obtain ⟨h1, h2⟩ := isBytes_spec ht
 have hrun := Lib.run_convert_string_bytes (P := P) w src dst e s (isStr_spec hs) h1 h2
 have hge := grownCap_ge w s.size 0 e
 have hcm := grownCap_le_maxLen w s.size 0 e (by simp only [maxLen]; omega)
 have hsz : (Lib.bytesCells w e s).size = grownCap w s.size 0 e := by
  simp only [Lib.bytesCells, Array.size_append, Array.size_map, Array.size_replicate]
  have : s.data.size = s.size := rfl
  omega
 refine ok_new_ref (E := ⟨e, 1, byteRows s, true, true⟩) (arr := Lib.bytesCells w e s) (fz := ((Lib.bytesCells w e s).size, (Lib.bytesCells w e s).size + 1)) (len := s.size) (cap := grownCap w s.size 0 e) (w' := Lib.bytesWorld w e s) h hd hnm ?_ rfl rfl rfl
  (Lib.bytesWorld_size w e s) (fun c hc => Lib.bytesWorld_at_old w e s c hc) (Lib.bytesWorld_at_new w e s) (fun h => by cases h) (.inr (Nat.le_refl _)) (by rw [hsz]; simp) (by simp [byteRows]) hge hcm
  (fun r hr => by simp only [byteRows, List.mem_map] at hr; obtain ⟨b, _, rfl⟩ := hr; rfl) (fun i j x hx => ?_) hn
 ·simp only [execOp, ho, hxv, hrun, Sem.run_bind, Result.andThen_ok, Sem.run_pure]
 ·simp only [cellAt, byteRows, List.getElem?_map] at hx
  cases hb : s.data.toList[i]? with
  | none => simp [hb] at hx
  | some b =>
   simp only [hb, Option.map_some, Option.bind_some] at hx
   cases j with
   | zero =>
    simp only [List.getElem?_cons_zero, Option.some.injEq] at hx
    subst hx
    have hi : i < s.data.size := by have := (List.getElem?_eq_some_iff.1 hb).1; simpa using this
    refine ⟨.int .u8 b.toNat, ?_, rfl, .sc rfl⟩
    rw [Array.getElem?_toList] at hb
    show (Lib.bytesCells w e s)[i * 1 + 0]? = _
    have hi' : i < s.size := hi
    simp [Lib.bytesCells, Array.getElem?_append, hi']
    rw [(Array.getElem?_eq_some_iff.1 hb).2]
   | succ j => simp at hx
def numRows (ns : List Int) : List (List V) := ns.map fun n => [.sc (.int .u8 n)]
theorem ok_toString (h : Sat w0 M0 F0 st a.tmps w φ F) (hd : dstOk o.dst st.n = true) {src dst e : TypeId} {x : Operand} {ns : List Int} (ho : o.op = .convert src dst x)
    (hx : Src st (st.ev x) 1 (numRows ns)) (hs : isBytes P src = some e) (ht : isStr P dst = true)
    (hn : Next w0 M0 F0 (st.put o.dst (.sc (.string (strOfNums ns)))) a.defers next) : o.wp P a w next Q := by
  obtain ⟨ad, cap, news, hv, hlc, n1, n2, n3, n4, n5⟩ := src_cells h Nat.one_pos hx
  obtain ⟨h1, h2⟩ := isBytes_spec hs
  have hl : (numRows ns).length = ns.length := by simp [numRows]
  refine ok_val h hd (v := .string (strOfNums ns)) ?_ (.sc rfl) hn
  cases ad with
  | none =>
    have hr0 : numRows ns = [] := by
      by_cases hr0 : numRows ns = []
      · exact hr0
      · obtain ⟨b, o', hb, _⟩ := n2 hr0; cases hb
    have hns : ns = [] := by simpa [numRows] using hr0
    subst hns
    have hrun := run_convert_bytes_nil (P := P) w src e h1 h2 (numRows []).length cap dst (isStr_spec ht)
    simp only [execOp, ho, hv, hrun, Sem.run_bind, Result.andThen_ok, Sem.run_pure]
    rfl
  | some ad =>
    by_cases hr0 : numRows ns = []
    · have hns : ns = [] := by simpa [numRows] using hr0
      subst hns
      obtain ⟨b, o', sp⟩ := ad
      have hrun : (convert src dst (.slice (some ⟨b, o', sp⟩) 0 cap)).run P w = .ok (.string ByteArray.empty) w := by
        rw [run_convert_bytes_string w src dst e _ 0 cap h1 h2 (isStr_spec ht)]
        simp [Conv.bytesToString, loadCells, loadCellsFrom]
      have hv' : a.eval x = .slice (some ⟨b, o', sp⟩) 0 cap := hv
      simp only [execOp, ho, hv', hrun, Sem.run_bind, Result.andThen_ok, Sem.run_pure]
      rfl
    · obtain ⟨b, o', hb, hnc⟩ := n2 hr0
      cases hb
      have hrun := run_convert_bytes_arg (P := P) w src e h1 h2 b o' (numRows ns).length cap ns hl.symm (fun i hi => by
        rw [hl] at hi
        have hc : cellAt (numRows ns) i 0 = some (.sc (.int .u8 ns[i])) := by simp [cellAt, numRows, hi]
        obtain ⟨v, v1, v2, v3⟩ := n4 i 0 _ hc
        obtain ⟨rfl, _⟩ := v3.sc_inv
        have := hnc (i * 1 + 0) _ v1
        rw [addr_add] at this
        simp only [Nat.mul_one, Nat.add_zero] at this
        simp [this, hi]) dst (isStr_spec ht)
      simp only [execOp, ho, hv, hrun, Sem.run_bind, Result.andThen_ok, Sem.run_pure]
def kindD : TypeDesc → Option Nat
 | .bool => some 0
 | .int _ => some 1
 | .string => some 2
 | _ => none
def flatF (P : Program) : Nat → List Field → Option (List Nat)
 | _, [] => some []
 | k, f :: fs => if f.name ≠ "_" ∧ f.offset = k then (match (P.underlying f.type).bind kindD, flatF P (k + 1) fs with | some q, some r => some (q :: r) | _, _ => none) else none
def flatK (P : Program) (t : TypeId) : Option (List Nat) :=
 match P.underlying t with
 | some (.struct fs) => if P.stoodInHeld t = false ∧ P.eqGuardType P.depth t = false then flatF P 0 fs.toList else none
 | _ => none
theorem beq_str (a b : ByteArray) : (a.toList == b.toList) = decide (a = b) := by
 by_cases h : a = b
 ·simp [h]
 ·have : ¬ a.toList = b.toList := fun e => by
   rw [ByteArray.toList_eq, ByteArray.toList_eq] at e
   obtain ⟨⟨x⟩⟩ := a
   obtain ⟨⟨y⟩⟩ := b
   simp only at e
   subst e
   exact h rfl
  simp [h, this]
def eqC (k : Nat) (x y : V) : Option Bool :=
 match k, x, y with
 | 0, .sc (.bool a), .sc (.bool b) => some (a == b)
 | 1, .sc (.int k a), .sc (.int k' b) => if k = k' then some (decide (a = b)) else none
 | 2, .sc (.string a), .sc (.string b) => some (decide (a = b))
 | _, _, _ => none
def eqCs : List Nat → List V → List V → Option Bool
 | [], [], [] => some true
 | k :: ks, x :: xs, y :: ys => match eqC k x y, eqCs ks xs ys with | some a, some b => some (a && b) | _, _ => none
 | _, _, _ => none
theorem eqFields_run {d : Nat} : ∀ {fs : List Field} {k : Nat} {ks : List Nat} {xs ys : List V} {us vs : List Value} {r : Bool}, flatF P k fs = some ks → eqCs ks (xs.drop k) (ys.drop k) = some r →
  xs.length = us.length → ys.length = vs.length → (∀ (i : Nat) x v, xs[i]? = some x → us[i]? = some v → Rep w F φ x v) → (∀ (i : Nat) x v, ys[i]? = some x → vs[i]? = some v → Rep w F φ x v) →
  (Op.eqFields (d + 1) us.toArray vs.toArray fs).run P w = .ok r w
 | [], k, ks, xs, ys, us, vs, r, hf, he, _, _, _, _ => by
  simp only [flatF, Option.some.injEq] at hf
  subst hf
  cases hx : xs.drop k <;> cases hy : ys.drop k <;> simp [hx, hy, eqCs] at he
  subst he
  simp [Op.eqFields]
 | f :: fs, k, ks, xs, ys, us, vs, r, hf, he, hlx, hly, hrx, hry => by
  simp only [flatF] at hf
  split at hf
  ·rename_i hnm
   cases hq : (P.underlying f.type).bind kindD with
   | none => simp [hq] at hf
   | some q =>
    cases hr' : flatF P (k + 1) fs with
    | none => simp [hq, hr'] at hf
    | some ks' =>
     simp only [hq, hr', Option.some.injEq] at hf
     subst hf
     cases hx : xs.drop k with
     | nil => simp [hx, eqCs] at he
     | cons x xs' =>
      cases hy : ys.drop k with
      | nil => simp [hx, hy, eqCs] at he
      | cons y ys' =>
       rw [hx, hy] at he
       simp only [eqCs] at he
       cases hc : eqC q x y with
       | none => simp [hc] at he
       | some b =>
        cases hcs : eqCs ks' xs' ys' with
        | none => simp [hc, hcs] at he
        | some b' =>
         simp only [hc, hcs, Option.some.injEq] at he
         have hkx : xs[k]? = some x := by
          have := congrArg (fun l => l[0]?) hx
          simpa [List.getElem?_drop] using this
         have hky : ys[k]? = some y := by
          have := congrArg (fun l => l[0]?) hy
          simpa [List.getElem?_drop] using this
         have hux : k < us.length := hlx ▸ (List.getElem?_eq_some_iff.1 hkx).1
         have hvy : k < vs.length := hly ▸ (List.getElem?_eq_some_iff.1 hky).1
         have rx := hrx k x _ hkx (List.getElem?_eq_getElem hux)
         have ry := hry k y _ hky (List.getElem?_eq_getElem hvy)
         have hxs' : xs.drop (k + 1) = xs' := by rw [← List.drop_drop, hx]; rfl
         have hys' : ys.drop (k + 1) = ys' := by rw [← List.drop_drop, hy]; rfl
         have ih := eqFields_run (d := d) (fs := fs) (k := k + 1) (ks := ks') (xs := xs) (ys := ys) (us := us) (vs := vs) (r := b') hr' (by rw [hxs', hys']; exact hcs) hlx hly hrx hry
         cases hu : P.underlying f.type with
         | none => simp [hu] at hq
         | some dd =>
          have hplain : (isAgg f.type).run P w = .ok false w := by
           unfold isAgg
           rw [Sem.run_bind, run_underlying hu w]
           cases dd <;> simp [hu, kindD] at hq <;> simp
          have hp1 : (part f.type us.toArray f.offset).run P w = .ok us[k] w := by
           simp only [part, Sem.run_bind, hplain, Result.andThen_ok, Bool.false_eq_true, if_false, hnm.2]
           simp [hux]
          have hp2 : (part f.type vs.toArray f.offset).run P w = .ok vs[k] w := by
           simp only [part, Sem.run_bind, hplain, Result.andThen_ok, Bool.false_eq_true, if_false, hnm.2]
           simp [hvy]
          have heq : (Op.equalIn (d + 1) f.type us[k] vs[k]).run P w = .ok b w := by
           unfold eqC at hc
           split at hc
           ·obtain ⟨e1, _⟩ := rx.sc_inv
            obtain ⟨e2, _⟩ := ry.sc_inv
            simp only [Option.some.injEq] at hc
            rw [e1, e2, ← hc]
            cases dd <;> simp [hu, kindD] at hq
            exact run_equalIn_bool' w d f.type _ _ hu
           ·rename_i k1 n1 k2 n2
            obtain ⟨e1, _⟩ := rx.sc_inv
            obtain ⟨e2, _⟩ := ry.sc_inv
            split at hc
            ·rename_i hkk
             subst hkk
             simp only [Option.some.injEq] at hc
             rw [e1, e2, ← hc]
             cases dd <;> simp [hu, kindD] at hq
             rename_i kk
             exact (run_equalIn_int w d f.type _ kk _ _ hu).trans (by congr 1)
            ·cases hc
           ·obtain ⟨e1, _⟩ := rx.sc_inv
            obtain ⟨e2, _⟩ := ry.sc_inv
            simp only [Option.some.injEq] at hc
            rw [e1, e2, ← hc]
            cases dd <;> simp [hu, kindD] at hq
            rw [← beq_str]
            exact run_equalIn_string w d f.type _ _ hu
           ·cases hc
          simp only [Op.eqFields]
          rw [if_pos hnm.1]
          simp only [Sem.run_bind, hp1, hp2, heq, Result.andThen_ok, Sem.run_ite]
          cases b with
          | false => simp at he; subst he; simp
          | true => simp at he; subst he; simpa using ih
  ·cases hf
theorem ok_eqStruct (h : Sat w0 M0 F0 st a.tmps w φ F) (hd : dstOk o.dst st.n = true) {t u : TypeId} {x y : Operand} {op : BinOp} {ks : List Nat} {xs ys : List V} {r : Bool} (ho : o.op = .binOp op t x y u) (hop : op = .eql ∨ op = .neq)
  (hx : st.ev x = .agg xs) (hy : st.ev y = .agg ys) (ht : flatK P t = some ks) (he : eqCs ks xs ys = some r)
  (hn : Next w0 M0 F0 (st.put o.dst (.sc (.bool (if op = .eql then r else !r)))) a.defers next) : o.wp P a w next Q := by
 obtain ⟨us, hus, hlx, hrx, _⟩ := (hx ▸ h.ev x).agg_inv
 obtain ⟨vs, hvs, hly, hry, _⟩ := (hy ▸ h.ev y).agg_inv
 unfold flatK at ht
 cases hu : P.underlying t with
 | none => simp [hu] at ht
 | some dd =>
  cases dd <;> simp only [hu] at ht <;> try (cases ht; done)
  rename_i fs
  split at ht
  ·rename_i hg
   have hf : P.fieldsOf t = fs := by simp [Program.fieldsOf, hu]
   have hrun : (Op.equalIn 10000 t (.agg us.toArray) (.agg vs.toArray)).run P w = .ok r w := by
    rw [show (10000 : Nat) = 9998 + 1 + 1 from rfl, run_equalIn_agg w (9998 + 1) t us.toArray vs.toArray (by rw [hf]; exact hu) hg.1, hf]
    exact eqFields_run (xs := xs) (ys := ys) ht (by simpa using he) hlx hly hrx hry
   refine ok_val h hd (v := .bool (if op = .eql then r else !r)) ?_ (.sc rfl) hn
   rcases hop with rfl | rfl
   ·simp [execOp, ho, hus, hvs, run_eqGuard_agg w _ t x y us.toArray vs.toArray hg.2, run_eql_struct, hrun, Result.andThen]
   ·simp [execOp, ho, hus, hvs, run_eqGuard_agg w _ t x y us.toArray vs.toArray hg.2, run_neq_struct, hrun, Result.andThen]
  ·cases ht
theorem ok_eqNil (h : Sat w0 M0 F0 st a.tmps w φ F) (hd : dstOk o.dst st.n = true) {t u : TypeId} {x y : Operand} {n : Nat} {e : TypeId × Nat × Nat} (ho : o.op = .binOp .eql t x y u)
  (hx : (st.ev x).slen = some n) (hy : st.ev y = .nils) (ht : slTy P t = some e)
  (hn : ∀ b : Bool, (b = true → n = 0) → Next w0 M0 F0 (st.put o.dst (.sc (.bool b))) a.defers next) : o.wp P a w next Q := by
 obtain ⟨e, z, by_⟩ := e
 obtain ⟨inf, h1, -⟩ := slTy_spec ht
 have hr := h.ev x
 obtain ⟨ad, cap, hv, hcap, -⟩ := rep_slen hr hx
 have hyv : a.eval y = .slice none 0 0 := by
  have hr := h.ev y
  rw [hy] at hr
  generalize a.eval y = v at hr
  cases hr; rfl
 have hrun := Lib.run_eql_slice_nil (P := P) w t e ad n cap 0 0 h1
 refine ok_val h hd (v := .bool ad.isNone) ?_ (.sc rfl) (hn _ (fun hb => ?_))
 ·simp [execOp, ho, hv, hyv, hrun, eqGuard_at_slice]
 ·have had : ad = none := by cases ad <;> simp_all
  subst had
  rw [hv] at hr
  generalize hxv : st.ev x = xv at hr hx
  cases hr with
  | undef => simp [V.slen] at hx
  | nils => rfl
  | sc hs => simp [scalar] at hs
  | refNil => rfl
  | lst b o' g ha hc hm hz hM cell one sub =>
   rename_i z' rows
   cases rows with
   | nil => rfl
   | cons r rs => have := ha (by simp); cases this
end
end Go.Abs
