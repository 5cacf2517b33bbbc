/- The abstract layer, part A17. -/
import Derived.Test.YtbkmnbpgpklojaaGreatDoorAbsA16
namespace Go.Abs
open Go
def over (ov hp : Heap) : Heap := fun m => match ov m with | some e => some e | none => hp m
def noOv : Heap := fun _ => none
theorem over_no (hp : Heap) : over noOv hp = hp := rfl
theorem over_over (a b hp : Heap) : over a (over b hp) = over (over a b) hp := by
 funext m; unfold over; cases a m <;> rfl
def oneOv (n : Nm) (e : Option Entry) : Heap := upd noOv n e
theorem over_one (n : Nm) (e : Option Entry) (hp : Heap) : over (oneOv n e) hp = upd hp n e := by
 funext m; unfold over oneOv upd noOv; split <;> rename_i h <;> split at h <;> simp_all
def LocH (f : Heap → Heap) (hp : Heap) (N : Nm → Prop) (W : Nm → Prop) : Prop :=
 ∃ ov : Heap, (∀ hp', (∀ n, N n → hp' n = hp n) → f hp' = over ov hp') ∧ ∀ m, ov m ≠ none → W m
theorem LocH.id {hp : Heap} {N W : Nm → Prop} : LocH (fun h => h) hp N W := ⟨noOv, fun _ _ => rfl, fun _ h => absurd rfl h⟩
theorem LocH.comp {f g : Heap → Heap} {hp : Heap} {N W : Nm → Prop} (hf : LocH f hp N W) (hg : LocH g (f hp) N W) : LocH (fun h => g (f h)) hp N W := by
 obtain ⟨a, h1, h2⟩ := hf
 obtain ⟨b, h3, h4⟩ := hg
 refine ⟨over b a, fun hp' h => ?_, fun m hm => ?_⟩
 ·show g (f hp') = _
  rw [h3 (f hp') (fun n hn => ?_), h1 hp' h, over_over]
  rw [h1 hp' h, h1 hp (fun _ _ => rfl)]
  unfold over
  cases a n with
  | some e => rfl
  | none => exact h n hn
 ·unfold over at hm
  cases hb : b m with
  | some e => exact h4 m (by rw [hb]; simp)
  | none => rw [hb] at hm; exact h2 m hm
theorem LocH.upd {hp : Heap} {N W : Nm → Prop} {n : Nm} {e : Option Entry} (hw : W n) : LocH (fun h => upd h n e) hp N W :=
  ⟨oneOv n e, fun hp' _ => (over_one n e hp').symm, fun m hm => by
    unfold oneOv Abs.upd noOv at hm
    split at hm
    · rename_i h; rw [h]; exact hw
    · exact absurd rfl hm⟩
theorem LocH.kill {hp : Heap} {N W : Nm → Prop} {ks : List Nm} (hw : ∀ n, n ∈ ks → W n) : LocH (killAll ks) hp N W :=
  ⟨killAll ks noOv, fun hp' _ => by funext m; unfold killAll over noOv; by_cases h : m ∈ ks <;> simp [h], fun m hm => by
    unfold killAll noOv at hm
    by_cases h : m ∈ ks
    · exact hw m h
    · simp [h] at hm⟩
theorem LocH.owns {hp : Heap} {N W : Nm → Prop} {d : Nat} (hw : ∀ p, W (d, p)) : ∀ {l : List (Nat × Entry)}, LocH (addOwns d l) hp N W
 | [] => .id
 | q :: l => by
  have := LocH.comp (LocH.owns (hp := hp) (N := N) hw (l := l)) (LocH.upd (N := N) (n := (d, q.1)) (e := some q.2) (hw q.1))
  exact this
theorem LocH.outs {N W : Nm → Prop} : ∀ {ns : List Nm} {Es : List Entry} {hp : Heap}, (∀ n, n ∈ ns → W n) → (∀ n, n ∈ ns → N n) → LocH (setOuts ns Es) hp N W
  | [], Es, hp, _, _ => by
    have e : setOuts [] Es = fun h => h := by funext h; unfold setOuts; rfl
    rw [e]; exact .id
  | n :: ns, [], hp, _, _ => by
    have e : setOuts (n :: ns) [] = fun h => h := by funext h; unfold setOuts; rfl
    rw [e]; exact .id
  | n :: ns, E :: Es, hp, hw, hn => by
    have h1 : LocH (fun h => Abs.upd h n (some { E with mine := mineOf h n })) hp N W := ⟨oneOv n (some { E with mine := mineOf hp n }), fun hp' h => by
      rw [over_one]
      have : mineOf hp' n = mineOf hp n := by unfold mineOf; rw [h n (hn n (.head _))]
      show Abs.upd hp' n (some { E with mine := mineOf hp' n }) = _
      rw [this], fun m hm => by
      unfold oneOv Abs.upd noOv at hm
      split at hm
      · rename_i h; rw [h]; exact hw n (.head _)
      · exact absurd rfl hm⟩
    have h2 := LocH.outs (N := N) (W := W) (ns := ns) (Es := Es) (hp := Abs.upd hp n (some { E with mine := mineOf hp n })) (fun m hm => hw m (.tail _ hm)) (fun m hm => hn m (.tail _ hm))
    exact LocH.comp (f := fun h => Abs.upd h n (some { E with mine := mineOf h n })) (g := setOuts ns Es) h1 h2
section
variable {P : Program} {st : St} {o : Oper}
structure Like (o : Oper) (rs : List Nm) (st st' : St) : Prop where
 ev : ∀ x, x ∈ o.op.operands → st'.ev x = st.ev x
 hp : ∀ m, m ∈ rs → st'.hp m = st.hp m
 slot : ∀ d p, o.dst = some d → st'.hp (d, p) = st.hp (d, p)
theorem argRel_like {hp hp' : Heap} {ns kb : List Nm} (h : ∀ m, m ∈ kb → hp' m = hp m) {x y : V} (hr : ArgRel hp ns kb x y) : ArgRel hp' ns kb x y := by
 induction hr with
 | free h => exact .free h
 | nils => exact .nils
 | refOwn h => exact .refOwn h
 | ptrOwn h => exact .ptrOwn h
 | refLst hn hk hl hlen hz src h1 h2 h3 ih => exact .refLst ((h _ hk).trans hn) hk hl hlen hz src h1 ih h3
 | ptrLst hn hk hz src h1 h2 h3 ih => exact .ptrLst ((h _ hk).trans hn) hk hz src h1 ih h3
 | agg hl h ih => exact .agg hl ih
 | fn hl h ih => exact .fn hl ih
 | tup hl h ih => exact .tup hl ih
theorem partsV_like {st st' : St} : ∀ {l : List (Nat × Operand)}, (∀ p, p ∈ l → st'.ev p.2 = st.ev p.2) → partsV st' l = partsV st l
 | [], _ => rfl
 | (i, x) :: l, h => by simp only [partsV, h (i, x) (.head _), partsV_like fun p hp => h p (.tail _ hp)]
theorem bnd_like {st st' : St} {x : Option Operand} {d l : Nat} (h : ∀ y, x = some y → st'.ev y = st.ev y) (hb : bnd st x d l) : bnd st' x d l := by
 cases x with
 | none => exact hb
 | some y => obtain ⟨k, hk⟩ := hb; exact ⟨k, (h y rfl).trans hk⟩
theorem src_like {st st' : St} {x : V} {z : Nat} {rows : List (List V)} (h : ∀ n off len, x = .ref n off len → st'.hp n = st.hp n) (hs : Src st x z rows) : Src st' x z rows := by
 rcases hs with h1 | h1 | ⟨n, off, len, E, rfl, h2, h3⟩
 ·exact .inl h1
 ·exact .inr (.inl h1)
 ·exact .inr (.inr ⟨n, off, len, E, rfl, (h n off len rfl).trans h2, h3⟩)
theorem StepE.local_ {v : V} {hp' : Heap} {rs ws : List Nm} (hs : StepE P st o v hp' rs ws) :
    ∃ ov : Heap, hp' = over ov st.hp ∧ (∀ m, ov m ≠ none → m ∈ ws ∨ o.dst = some m.1) ∧ ∀ st', Like o rs st st' → StepE P st' o v (over ov st'.hp) rs ws := by
  have no : ∀ {ws : List Nm} (m : Nm), noOv m ≠ none → m ∈ ws ∨ o.dst = some m.1 := fun m h => absurd rfl h
  have own : ∀ {ws : List Nm} {d : Nat} {e : Option Entry}, o.dst = some d → ∀ m : Nm, oneOv (d, 0) e m ≠ none → m ∈ ws ∨ o.dst = some m.1 := fun {ws d e} hd m h => by
    unfold oneOv upd noOv at h
    split at h
    · rename_i q; rw [q]; exact .inr hd
    · exact absurd rfl h
  induction hs with
  | @mv x ho =>
    refine ⟨noOv, rfl, no, fun st' h => ?_⟩
    rw [← h.ev x (by rcases ho with ho | ho <;> simp [ho, Op.operands])]
    exact .mv ho
  | @pick c x y b ho hc =>
    refine ⟨noOv, rfl, no, fun st' h => ?_⟩
    rw [← h.ev x (by simp [ho, Op.operands]), ← h.ev y (by simp [ho, Op.operands])]
    exact .pick ho ((h.ev c (by simp [ho, Op.operands])).trans hc)
  | pure hu hrun => exact ⟨noOv, rfl, no, fun st' h => .pure hu fun ρ hf hρ w => hrun ρ hf (fun x hx u hu' => hρ x hx u ((h.ev x hx).trans hu')) w⟩
  | extract ho hx hy => exact ⟨noOv, rfl, no, fun st' h => .extract ho ((h.ev _ (by simp [ho, Op.operands])).trans hx) hy⟩
  | @nilCheck x ho hx =>
    refine ⟨noOv, rfl, no, fun st' h => ?_⟩
    have e := h.ev x (by simp [ho, Op.operands])
    rw [← e]; exact .nilCheck ho (by rw [e]; exact hx)
  | @makeFunc f cs ho =>
    refine ⟨noOv, rfl, no, fun st' h => ?_⟩
    have : cs.toList.map st.ev = cs.toList.map st'.ev := List.map_congr_left fun x hx => (h.ev x (by simp [ho, Op.operands]; simpa using hx)).symm
    rw [this]; exact .makeFunc ho
  | load ho hx hE hrow ht hk hb => exact ⟨noOv, rfl, no, fun st' h => .load ho ((h.ev _ (by simp [ho, Op.operands])).trans hx) ((h.hp _ (.head _)).trans hE) hrow ht hk hb⟩
  | loadF ho hx hrow ht hk hb => exact ⟨noOv, rfl, no, fun st' h => .loadF ho ((h.ev _ (by simp [ho, Op.operands])).trans hx) hrow ht hk hb⟩
  | fieldAddr ho hx ht hk => exact ⟨noOv, rfl, no, fun st' h => .fieldAddr ho ((h.ev _ (by simp [ho, Op.operands])).trans hx) ht hk⟩
  | fieldAddrF ho hx ht hk => exact ⟨noOv, rfl, no, fun st' h => .fieldAddrF ho ((h.ev _ (by simp [ho, Op.operands])).trans hx) ht hk⟩
  | field ho hx ht hk hb => exact ⟨noOv, rfl, no, fun st' h => .field ho ((h.ev _ (by simp [ho, Op.operands])).trans hx) ht hk hb⟩
  | indexAddr ho hx hy hE ht hz hi => exact ⟨noOv, rfl, no, fun st' h => .indexAddr ho ((h.ev _ (by simp [ho, Op.operands])).trans hx) ((h.ev _ (by simp [ho, Op.operands])).trans hy) ((h.hp _ (.head _)).trans hE) ht hz hi⟩
  | indexAddrF ho hx hy ht hi => exact ⟨noOv, rfl, no, fun st' h => .indexAddrF ho ((h.ev _ (by simp [ho, Op.operands])).trans hx) ((h.ev _ (by simp [ho, Op.operands])).trans hy) ht hi⟩
  | @len t x n e ho hx ht =>
    refine ⟨noOv, rfl, no, fun st' h => .len ho ?_ ht⟩
    rw [h.ev x (by simp [ho, Op.operands, Call.operands])]; exact hx
  | slice ho hx hE ht hz h1 h2 hl hhl => exact ⟨noOv, rfl, no, fun st' h => .slice ho ((h.ev _ (by simp [ho, Op.operands])).trans hx) ((h.hp _ (.head _)).trans hE) ht hz
      (bnd_like (fun y hy => h.ev y (by subst hy; simp [ho, Op.operands])) h1) (bnd_like (fun y hy => h.ev y (by subst hy; simp [ho, Op.operands])) h2) hl hhl⟩
  | sliceF ho hx ht h1 h2 hl hhl => exact ⟨noOv, rfl, no, fun st' h => .sliceF ho ((h.ev _ (by simp [ho, Op.operands])).trans hx) ht
      (bnd_like (fun y hy => h.ev y (by subst hy; simp [ho, Op.operands])) h1) (bnd_like (fun y hy => h.ev y (by subst hy; simp [ho, Op.operands])) h2) hl hhl⟩
  | alloc hdst ho hn hz h1 => exact ⟨_, (over_one _ _ _).symm, own hdst, fun st' h => by rw [over_one]; exact .alloc hdst ho ((h.slot _ _ hdst).trans hn) hz h1⟩
  | @box d hdst t x cs ho hn hx => exact ⟨_, (over_one _ _ _).symm, own hdst, fun st' h => by
      rw [over_one]
      exact .box hdst ho ((h.slot _ _ hdst).trans hn) (by rw [h.ev x (by simp [ho, Op.operands])]; exact hx)⟩
  | build ho ht h1 hp hf => exact ⟨noOv, rfl, no, fun st' h => .build ho ht h1 (by rw [partsV_like fun p hp => h.ev p.2 (by simp [ho, Op.operands]; exact ⟨p.1, by simpa using hp⟩)]; exact hp) hf⟩
  | buildSlice hdst ho hnm ht hz hzl hp hr hl hsm hz0 => exact ⟨_, (over_one _ _ _).symm, own hdst, fun st' h => by
      rw [over_one]
      exact .buildSlice hdst ho ((h.slot _ _ hdst).trans hnm) ht hz hzl (by rw [partsV_like fun p hp => h.ev p.2 (by simp [ho, Op.operands]; exact ⟨p.1, by simpa using hp⟩)]; exact hp) hr hl hsm hz0⟩
  | capNil ho hx ht => exact ⟨noOv, rfl, no, fun st' h => .capNil ho ((h.ev _ (by simp [ho, Op.operands, Call.operands])).trans hx) ht⟩
  | @sliceNil t e x lo hi z by_ ho hx ht h1 h2 => exact ⟨noOv, rfl, no, fun st' h => .sliceNil ho ((h.ev _ (by simp [ho, Op.operands])).trans hx) ht (bnd_like (fun y hy => h.ev y (by subst hy; simp [ho, Op.operands])) h1) (bnd_like (fun y hy => h.ev y (by subst hy; simp [ho, Op.operands])) h2)⟩
  | appendZ hdst hrow ho hnm hs hx hn0 ht htn hz hzl h1 hz0 hb hnb => exact ⟨_, (over_one _ _ _).symm, own hdst, fun st' h => by
      rw [over_one]
      exact .appendZ hdst hrow ho ((h.slot _ _ hdst).trans hnm) ((h.ev _ (by simp [ho, Op.operands, Call.operands])).trans hs) ((h.ev _ (by simp [ho, Op.operands, Call.operands])).trans hx) hn0 ht htn hz hzl h1 hz0 hb hnb⟩
  | makeSlice hdst hrow ho hnm hx hy ht hz hzl h1 hz0 hb hnb => exact ⟨_, (over_one _ _ _).symm, own hdst, fun st' h => by
      rw [over_one]
      exact .makeSlice hdst hrow ho ((h.slot _ _ hdst).trans hnm) ((h.ev _ (by simp [ho, Op.operands])).trans hx) ((h.ev _ (by simp [ho, Op.operands])).trans hy) ht hz hzl h1 hz0 hb hnb⟩
  | @store t x y n r c k b E row cs ho hx hE hrow ht hy hcs hk =>
    refine ⟨_, (over_one _ _ _).symm, fun m h => ?_, fun st' h => ?_⟩
    · unfold oneOv upd noOv at h
      split at h
      · rename_i q; rw [q]; exact .inl (.head _)
      · exact absurd rfl h
    · rw [over_one]
      exact .store ho ((h.ev _ (by simp [ho, Op.operands])).trans hx) ((h.hp _ (.head _)).trans hE) hrow ht (by rw [h.ev y (by simp [ho, Op.operands])]; exact hy) hcs hk
  | @append d hdst t e z by_ s x K rows rows2 zs rs' ws' ho hnm ht hz hzl hz0 hb hs hx hlen hrs1 hrs2 =>
    have hk : LocH (fun h => killed h K) st.hp (fun n => n ∈ rs') (fun m => m ∈ ws' ∨ o.dst = some m.1) := by
      cases K with
      | none => exact .id
      | some n => exact .upd (.inl (hrs1 n rfl).2)
    obtain ⟨ov, h1, h2⟩ := LocH.comp hk (LocH.upd (N := fun n => n ∈ rs') (W := fun m => m ∈ ws' ∨ o.dst = some m.1) (n := (d, 0)) (e := some ⟨e, z, rows ++ rows2, false, true⟩) (.inr hdst))
    refine ⟨ov, h1 st.hp (fun _ _ => rfl), h2, fun st' h => ?_⟩
    rw [← h1 st'.hp h.hp]
    have hxe := h.ev x (by simp [ho, Op.operands, Call.operands])
    have hse := h.ev s (by simp [ho, Op.operands, Call.operands])
    refine .append hdst ho ((h.slot _ _ hdst).trans hnm) ht hz hzl hz0 hb ?_ ?_ hlen hrs1 (by rw [hxe]; exact hrs2)
    · rw [hse]
      rcases hs with h3 | ⟨n, E, h3, h4, h5, h6, h7, h8, h9, h10⟩
      · exact .inl h3
      · exact .inr ⟨n, E, h3, (h.hp n (hrs1 n h10).1).trans h4, h5, h6, h7, h8, h9, h10⟩
    · rw [hxe]
      exact src_like (fun n off len hx' => h.hp n (hrs2 n off len hx')) hx
  | @appendS d hdst t u e z by_ s x K s0 rows rows2 zs rs' ws' hz1 hr2 hu0 ho hnm ht hz hzl hz0 hb hs hx hlen hrs1 =>
    have hk : LocH (fun h => killed h K) st.hp (fun n => n ∈ rs') (fun m => m ∈ ws' ∨ o.dst = some m.1) := by
      cases K with
      | none => exact .id
      | some n => exact .upd (.inl (hrs1 n rfl).2)
    obtain ⟨ov, h1, h2⟩ := LocH.comp hk (LocH.upd (N := fun n => n ∈ rs') (W := fun m => m ∈ ws' ∨ o.dst = some m.1) (n := (d, 0)) (e := some ⟨e, z, rows ++ rows2, false, true⟩) (.inr hdst))
    refine ⟨ov, h1 st.hp (fun _ _ => rfl), h2, fun st' h => ?_⟩
    rw [← h1 st'.hp h.hp]
    have hxe := h.ev x (by simp [ho, Op.operands, Call.operands])
    have hse := h.ev s (by simp [ho, Op.operands, Call.operands])
    refine .appendS hdst hz1 hr2 hu0 ho ((h.slot _ _ hdst).trans hnm) ht hz hzl hz0 hb ?_ (hxe.trans hx) hlen hrs1
    rw [hse]
    rcases hs with h3 | ⟨n, E, h3, h4, h5, h6, h7, h8, h9, h10⟩
    · exact .inl h3
    · exact .inr ⟨n, E, h3, (h.hp n (hrs1 n h10).1).trans h4, h5, h6, h7, h8, h9, h10⟩
  | toBytes hdst ho hnm hx hs ht hlen => exact ⟨_, (over_one _ _ _).symm, own hdst, fun st' h => by
      rw [over_one]
      exact .toBytes hdst ho ((h.slot _ _ hdst).trans hnm) ((h.ev _ (by simp [ho, Op.operands])).trans hx) hs ht hlen⟩
  | @toString src dst e x ns rs' ho hx hs ht hrs =>
    refine ⟨noOv, rfl, no, fun st' h => ?_⟩
    have hxe := h.ev x (by simp [ho, Op.operands])
    exact .toString ho (by rw [hxe]; exact src_like (fun n off len hx' => h.hp n (hrs n off len hx')) hx) hs ht (by rw [hxe]; exact hrs)
  | eqStruct ho hop hx hy ht he => exact ⟨noOv, rfl, no, fun st' h => .eqStruct ho hop ((h.ev _ (by simp [ho, Op.operands])).trans hx) ((h.ev _ (by simp [ho, Op.operands])).trans hy) ht he⟩
  | @call d hdst r ns ks kb outs hcb =>
    have hks : ∀ n, n ∈ ks → n ∈ kb := fun n hn => by
      obtain ⟨_, _, _, _, _, _, _, _, _, _, _, _, _, _, _, _, _, _, _, hm⟩ := hcb.by_
      rcases hm with ⟨h, -⟩ | ⟨h, -⟩
      · rw [← h]; exact hn
      · rw [h] at hn; cases hn
    have l1 : LocH (killAll ks) st.hp (fun n => n ∈ ns ++ kb) (fun m => m ∈ ns ++ ks ∨ o.dst = some m.1) := .kill fun n hn => .inl (by simp [hn])
    have l2 : LocH (setOuts ns outs) (killAll ks st.hp) (fun n => n ∈ ns ++ kb) (fun m => m ∈ ns ++ ks ∨ o.dst = some m.1) := .outs (fun n hn => .inl (by simp [hn])) (fun n hn => by simp [hn])
    have l3 : LocH (addOwns d r.owns) (setOuts ns outs (killAll ks st.hp)) (fun n => n ∈ ns ++ kb) (fun m => m ∈ ns ++ ks ∨ o.dst = some m.1) := .owns fun p => .inr hdst
    obtain ⟨ov, h1, h2⟩ := LocH.comp (LocH.comp l1 l2) l3
    refine ⟨ov, h1 st.hp (fun _ _ => rfl), h2, fun st' h => ?_⟩
    have e : over ov st'.hp = retHp st'.hp ns ks outs d r := (h1 st'.hp h.hp).symm
    rw [e]
    refine .call hdst ⟨?_⟩
    obtain ⟨fop, args, tys, f, caps, cargs, ins, ho, hf, hcl, hrun, hlen, hnd, hin, hfree, hkb, hxl, harg, hab, hmode⟩ := hcb.by_
    have he : args.toList.map st'.ev = args.toList.map st.ev := List.map_congr_left fun x hx => h.ev x (by simp [ho, Op.operands, Call.operands]; exact .inr (by simpa using hx))
    refine ⟨fop, args, tys, f, caps, cargs, ins, ho, (h.ev _ (by simp [ho, Op.operands, Call.operands])).trans hf, hcl, hrun, hlen, hnd, fun i n hi => ?_, hfree, hkb, by rw [he]; exact hxl, fun i x y hx hy => ?_, fun q E hq => (h.slot _ _ hdst).trans (hab q E hq), ?_⟩
    · obtain ⟨E', h3, h4⟩ := hin i n hi
      exact ⟨E', (h.hp n (by simp [List.mem_of_getElem? hi])).trans h3, h4⟩
    · rw [he] at hx
      exact argRel_like (fun m hm => h.hp m (by simp [hm])) (harg i x y hx hy)
    · rcases hmode with ⟨h3, h4, h5⟩ | h3
      · refine .inl ⟨h3, fun n hn => ?_, h5⟩
        obtain ⟨E, h6, h7⟩ := h4 n hn
        exact ⟨E, (h.hp n (by simp [hn])).trans h6, h7⟩
      · exact .inr h3
  | @callG d hdst y own' ns ks kb outs' hcb =>
    have hks : ∀ n, n ∈ ks → n ∈ kb := fun n hn => by
      obtain ⟨_, _, _, _, _, _, _, _, _, _, _, _, _, _, _, _, _, _, _, _, _, _, _, _, _, _, hm⟩ := hcb.by_
      rcases hm with ⟨h, -⟩ | ⟨h, -⟩
      · rw [← h]; exact hn
      · rw [h] at hn; cases hn
    have l1 : LocH (killAll ks) st.hp (fun n => n ∈ ns ++ kb) (fun m => m ∈ ns ++ ks ∨ o.dst = some m.1) := .kill fun n hn => .inl (by simp [hn])
    have l2 : LocH (setOuts ns outs') (killAll ks st.hp) (fun n => n ∈ ns ++ kb) (fun m => m ∈ ns ++ ks ∨ o.dst = some m.1) := .outs (fun n hn => .inl (by simp [hn])) (fun n hn => by simp [hn])
    have l3 : LocH (addOwns d own') (setOuts ns outs' (killAll ks st.hp)) (fun n => n ∈ ns ++ kb) (fun m => m ∈ ns ++ ks ∨ o.dst = some m.1) := .owns fun p => .inr hdst
    obtain ⟨ov, h1, h2⟩ := LocH.comp (LocH.comp l1 l2) l3
    refine ⟨ov, h1 st.hp (fun _ _ => rfl), h2, fun st' h => ?_⟩
    have e : over ov st'.hp = retHpG st'.hp ns ks outs' d own' := (h1 st'.hp h.hp).symm
    rw [e]
    refine .callG hdst ⟨?_⟩
    obtain ⟨fop, args, tys, f, caps, cargs, ins, outs, x, own, p, ho, hf, hcl, hrun, hlen, holen', hnd, hin, hkb, hxl, harg, hab, hrx, hro, hou, hmode⟩ := hcb.by_
    have he : args.toList.map st'.ev = args.toList.map st.ev := List.map_congr_left fun x hx => h.ev x (by simp [ho, Op.operands, Call.operands]; exact .inr (by simpa using hx))
    have hk : ∀ m, m ∈ kb → st'.hp m = st.hp m := fun m hm => h.hp m (by simp [hm])
    refine ⟨fop, args, tys, f, caps, cargs, ins, outs, x, own, p, ho, (h.ev _ (by simp [ho, Op.operands, Call.operands])).trans hf, hcl, hrun, hlen, holen', hnd, fun i n hi => ?_, hkb, by rw [he]; exact hxl, fun i x y hx hy => ?_, fun q E hq => (h.slot _ _ hdst).trans (hab q E hq), hrx, hro, hou, ?_⟩
    · obtain ⟨E', E, h3, h4, h5⟩ := hin i n hi
      exact ⟨E', E, (h.hp n (by simp [List.mem_of_getElem? hi])).trans h3, h4, ⟨h5.e, h5.z, h5.str, h5.mine, h5.len, h5.rz, fun i j y hy => by
        obtain ⟨x, hx, hxy⟩ := h5.cell i j y hy
        exact ⟨x, hx, argRel_like hk hxy⟩⟩⟩
    · rw [he] at hx
      exact argRel_like hk (harg i x y hx hy)
    · rcases hmode with ⟨h3, h4, h5⟩ | h3
      · refine .inl ⟨h3, fun n hn => ?_, h5⟩
        obtain ⟨E, h6, h7⟩ := h4 n hn
        exact ⟨E, (h.hp n (by simp [hn])).trans h6, h7⟩
      · exact .inr h3
  | @clear t e z by_ x n off len E zs ho hx hE ht hz hzl hEz h1 hl =>
    refine ⟨_, (over_one _ _ _).symm, fun m h => ?_, fun st' h => ?_⟩
    · unfold oneOv upd noOv at h
      split at h
      · rename_i q; rw [q]; exact .inl (.head _)
      · exact absurd rfl h
    · rw [over_one]
      exact .clear ho ((h.ev _ (by simp [ho, Op.operands, Call.operands])).trans hx) ((h.hp _ (.head _)).trans hE) ht hz hzl hEz h1 hl
  | @appendIn t e z by_ k s x n E rows2 rs' ws' ho ht hz0 hs hE hEs hEz hEe hx hk hrs1 hrs2 =>
    refine ⟨_, (over_one _ _ _).symm, fun m h => ?_, fun st' h => ?_⟩
    · unfold oneOv upd noOv at h
      split at h
      · rename_i q; rw [q]; exact .inl hrs1.2
      · exact absurd rfl h
    · rw [over_one]
      have hxe := h.ev x (by simp [ho, Op.operands, Call.operands])
      refine .appendIn ho ht hz0 ((h.ev _ (by simp [ho, Op.operands, Call.operands])).trans hs) ((h.hp _ hrs1.1).trans hE) hEs hEz hEe ?_ hk hrs1 (by rw [hxe]; exact hrs2)
      rw [hxe]
      exact src_like (fun n off len hx' => h.hp n (hrs2 n off len hx')) hx
  | sliceCap ho hx hE ht hz h1 h2 hl hhl => exact ⟨noOv, rfl, no, fun st' h => .sliceCap ho ((h.ev _ (by simp [ho, Op.operands])).trans hx) ((h.hp _ (.head _)).trans hE) ht hz
      ((h.ev _ (by simp [ho, Op.operands])).trans h1) ((h.ev _ (by simp [ho, Op.operands])).trans h2) hl hhl⟩
  | slice3 ho hx hE ht h1 h2 h3 hl hhm hml => exact ⟨noOv, rfl, no, fun st' h => .slice3 ho ((h.ev _ (by simp [ho, Op.operands])).trans hx) ((h.hp _ (.head _)).trans hE) ht
      ((h.ev _ (by simp [ho, Op.operands])).trans h1) ((h.ev _ (by simp [ho, Op.operands])).trans h2) ((h.ev _ (by simp [ho, Op.operands])).trans h3) hl hhm hml⟩
  | @frz d hdst v v' hp' rs ws D h1 hD hv ih =>
    obtain ⟨ov, e1, e2, e3⟩ := ih
    have hov : ∀ n, n ∈ D → ov n = hp' n := fun n hn => by
      obtain ⟨-, h3, E, h4, -⟩ := hD n hn
      rw [e1] at h4 ⊢
      unfold over at h4 ⊢
      cases ho : ov n with
      | some e => rfl
      | none => rw [ho] at h4; simp only [h3] at h4; cases h4
    have key : ∀ hp : Heap, killAll D (over ov hp) = over (killAll D ov) hp := fun hp => by
      funext m; unfold killAll over
      by_cases hm : m ∈ D <;> simp [hm]
    refine ⟨killAll D ov, by rw [e1]; exact key _, fun m hm => ?_, fun st' h => ?_⟩
    · unfold killAll at hm
      by_cases hk : m ∈ D
      · exact .inr (by rw [(hD m hk).1]; exact hdst)
      · rw [if_neg hk] at hm; exact e2 m hm
    · have hat : ∀ n, n ∈ D → over ov st'.hp n = hp' n := fun n hn => by
        have h5 := hov n hn
        obtain ⟨-, -, E, h4, -⟩ := hD n hn
        unfold over; rw [h5, h4]
      rw [← key]
      refine .frz hdst (e3 st' h) (fun n hn => ?_) (argRel_like hat hv)
      obtain ⟨h3, h4, E, h5, h6⟩ := hD n hn
      have h7 : n = (d, n.2) := by rw [← h3]
      refine ⟨h3, ?_, E, (hat n hn).trans h5, h6⟩
      rw [h7, h.slot d n.2 hdst, ← h7]; exact h4
end
end Go.Abs
