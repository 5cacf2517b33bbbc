/- The abstract layer, part C1. -/
import Derived.Test.YtbkmnbpgpklojaaGreatDoorAbsA37
import Derived.Lib.Join
import Derived.Below
namespace Go.Abs
open Go Go.RowKit
def joinB (l : List ByteArray) (sep : ByteArray) : ByteArray := ⟨(Lib.join (l.map (fun x => x.data.toList)) sep.data.toList).toArray⟩
theorem argHp_nil (m : Nm) : argHp [] m = none := by unfold argHp; split <;> simp
theorem no_mine {φ : Env} {x : Value} {b : Nat} : ¬ Mset (resSt (.sc x) []).hp φ b := by
 rintro ⟨n, E, z, cap, h1, -⟩
 have : (resSt (.sc x) []).hp n = argHp [] n := rfl
 rw [this, argHp_nil] at h1
 cases h1
theorem sat_below {w w' : World} {φ : Env} {F : Nat → Prop} {args : List V} {argv : Array Value} {x : Value} (hx : scalar x = true)
  (h : Sat w ⟨Mset (argHp []) φ, φ⟩ F (argSt args []) argv w φ F) (hb : Below w.heap.size w w') : Sat w ⟨Mset (argHp []) φ, φ⟩ F (resSt (.sc x) []) #[x] w' φ F where
 os := hb.os
 tape := hb.tape
 output := hb.output
 size := hb.size
 old := fun b hlt _ => hb.block b hlt
 mine := fun b hm => absurd hm no_mine
 bas := h.bas
 fr := fun b hF => .inl hF
 dis := fun b _ hm => no_mine hm
 flt := fun b hF => Nat.lt_of_lt_of_le (h.flt b hF) hb.size
 slots := rfl
 rep := fun t => by
  cases t with
  | zero => exact .sc hx
  | succ t => exact .undef
 inj := fun n n' E E' z z' b cap cap' h1 => by
  have : (resSt (.sc x) []).hp n = argHp [] n := rfl
  rw [this, argHp_nil] at h1; cases h1
 obj := fun n E h1 => by
  have : (resSt (.sc x) []).hp n = argHp [] n := rfl
  rw [this, argHp_nil] at h1; cases h1
 absent := h.absent
theorem runs_join {P : Program} {f : FuncId} {g : List ByteArray → ByteArray → ByteArray} {l : List ByteArray} {sep : ByteArray}
    (h0 : ∀ (a : Option Addr) (c : Nat) (w : World), l = [] → Calls P f #[.slice a 0 c, .string sep] w fun e w' => e = .returned (.string (g [] sep)) ∧ w' = w)
    (h1 : ∀ (bk o c : Nat) (w : World), (∀ (j : Nat) x, l[j]? = some x → w.cell? ⟨bk, o + j, none⟩ = some (.string x)) → bk < w.heap.size → l.length ≤ c → l ≠ [] →
      Calls P f #[.slice (some ⟨bk, o, none⟩) l.length c, .string sep] w fun e w' => e = .returned (.string (g l sep)) ∧ Below w.heap.size w w') :
    Runs P f [.lst 1 (l.map strV), .sc (.string sep)] [] (.sc (.string (g l sep))) [] := by
  intro w argv φ F hs
  have hsz : argv.size = 2 := hs.slots
  have r0 : Rep w F φ (.lst 1 (l.map strV)) (argv.getD 0 undef) := hs.rep 0
  have r1 : Rep w F φ (.sc (.string sep)) (argv.getD 1 undef) := hs.rep 1
  have e : argv = #[argv.getD 0 undef, argv.getD 1 undef] := by
    apply Array.ext
    · simpa using hsz
    · intro i hi _
      match i, hi with
      | 0, hi => simp [hi]
      | 1, hi => simp [hi]
      | i + 2, hi => omega
  generalize argv.getD 0 undef = v0 at r0 e
  generalize argv.getD 1 undef = v1 at r1 e
  cases r1
  cases r0 with
  | @lst _ z rows a cap b o gg ha hc hm hz hM cell one sub =>
    have hl : (l.map strV).length = l.length := List.length_map ..
    rw [e, hl]
    cases c : l with
    | nil =>
      subst c
      refine (h0 a cap w rfl).mono fun e' w' ⟨q1, q2⟩ => ?_
      subst q2
      exact ⟨_, φ, F, q1, sat_below rfl hs (Below.refl _ _), rfl⟩
    | cons x t =>
      rw [← c]
      have hne : l ≠ [] := by rw [c]; simp
      have hne2 : l.map strV ≠ [] := by simpa using hne
      rw [ha hne2]
      have hcells : ∀ (j : Nat) y, l[j]? = some y → w.cell? ⟨b, o + j, none⟩ = some (.string y) := by
        intro j y hj
        have hcell : cellAt (l.map strV) j 0 = some (.sc (.string y)) := by unfold cellAt; simp [hj, strV]
        have k1 := cell j 0 _ hcell
        have k2 := sub j 0 _ hcell
        rw [Nat.mul_one, Nat.add_zero] at k1
        rw [k1]
        generalize gg j 0 = v at k2
        cases k2
        rfl
      have hb : b < w.heap.size := hs.flt b (hM 0 0 (.sc (.string x)) (by rw [c]; rfl))
      refine (h1 b o cap w hcells hb (by rw [hl] at hc; exact hc) hne).mono fun e' w' ⟨q1, q2⟩ => ?_
      exact ⟨_, φ, F, q1, sat_below rfl hs q2, rfl⟩
end Go.Abs
