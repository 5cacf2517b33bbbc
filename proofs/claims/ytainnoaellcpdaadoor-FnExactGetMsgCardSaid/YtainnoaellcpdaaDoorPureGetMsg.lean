/- The pure law of GetMsg: its pure function answers true. -/
import Derived.Test.YtainnoaellcpdaaDoorFnsGetMsg
set_option linter.unusedSimpArgs false
set_option linter.unusedVariables false
namespace Go.Abs.M
open Go Go.Abs
theorem idx_nat {α : Type} {l : List α} {n : Nat} : idx l (n : Int) = l[n]? := by simp [idx]

theorem w_eqRecord_self {a : Rec} : w_eqRecord a a = some true := by unfold w_eqRecord; simp

theorem w_eqRecordS_l0_self : ∀ (t pre : List Rec), w_eqRecordS_l0 (pre ++ t) t pre.length = some true
  | [], pre => rfl
  | r :: t, pre => by
    rw [w_eqRecordS_l0]
    have := w_eqRecordS_l0_self t (pre ++ [r])
    simp only [idx_nat]
    simp [w_eqRecord_self] at this ⊢
    exact this

theorem w_eqRecordS_self {l : List Rec} : w_eqRecordS l l = some true := by
  unfold w_eqRecordS
  have := w_eqRecordS_l0_self l []
  simpa using this

def zrec : Rec := ⟨⟨#[]⟩, 0, 0, 0, ⟨#[]⟩, ⟨#[]⟩⟩

def first (p : Rec → Bool) (l : List Rec) : Rec := (l.find? p).getD zrec

theorem w_eqQuest_self {q : Quest} : w_eqQuest q q = some true := by unfold w_eqQuest; simp

theorem w_eqMsg_self {m : MMsg} : w_eqMsg m m = some true := by unfold w_eqMsg; simp [w_eqRecordS_self, w_eqQuest_self]

def Rec.sm (r : Rec) : Prop := r.name.size ≤ 1048576 ∧ r.host.size ≤ 1048576 ∧ r.text.size ≤ 1048576

def smL (l : List Rec) : Prop := l.length ≤ 1048576 ∧ ∀ r, r ∈ l → r.sm

def Quest.sm (q : Quest) : Prop := q.name.size ≤ 1048576

def MMsg.sm (m : MMsg) : Prop := m.q.sm ∧ smL m.an ∧ smL m.au ∧ smL m.ad

def mkB (l : List UInt8) : ByteArray := ⟨l.toArray⟩

def bts (s : ByteArray) : List UInt8 := s.data.toList

theorem bts_mkB (l : List UInt8) : bts (mkB l) = l := rfl

theorem mkB_bts (s : ByteArray) : mkB (bts s) = s := rfl

theorem bts_len (s : ByteArray) : (bts s).length = s.size := rfl

theorem bts_inj {a b : ByteArray} : bts a = bts b ↔ a = b := ⟨fun h => by rw [← mkB_bts a, ← mkB_bts b, h], fun h => by rw [h]⟩

theorem bts_nil_iff (s : ByteArray) : s = ⟨#[]⟩ ↔ bts s = [] := ⟨fun h => by subst h; rfl, fun h => bts_inj.1 (by rw [h]; rfl)⟩

theorem bts_extract (s : ByteArray) (a b : Nat) : bts (s.extract a b) = ((bts s).drop a).take (b - a) := by
  unfold bts
  rw [ByteArray.data_extract, Array.toList_extract, List.extract_eq_take_drop]

theorem extract_mkB (s : ByteArray) (a b : Nat) : s.extract a b = mkB (((bts s).drop a).take (b - a)) := by
  rw [← mkB_bts (s.extract a b), bts_extract]

theorem sidx_nat {s : ByteArray} {n : Nat} {b : UInt8} (h : (bts s)[n]? = some b) : sidx s (n : Int) = some (b.toNat : Int) := by
  obtain ⟨h1, h2⟩ := List.getElem?_eq_some_iff.1 h
  have h3 : n < s.size := h1
  unfold sidx
  rw [dif_pos ⟨by omega, by simpa using h3⟩]
  subst h2
  rfl

/-- The parts of bytes between the dots. -/
def segs : List UInt8 → List UInt8 → List (List UInt8)
  | cur, [] => [cur]
  | cur, b :: l => if b = 46 then cur :: segs [] l else segs (cur ++ [b]) l

def labels (s : ByteArray) : List ByteArray := if bts s = [] then [] else (segs [] (bts s)).map mkB

theorem segs_len : ∀ (l cur : List UInt8), (segs cur l).length ≤ l.length + 1
  | [], cur => by simp [segs]
  | b :: l, cur => by
    unfold segs
    split
    · have := segs_len l []; simp; omega
    · have := segs_len l (cur ++ [b]); simp; omega

theorem u8_eq46 (b : UInt8) : ((b.toNat : Int) = 46) ↔ b = 46 := by
  constructor
  · intro h
    have : b.toNat = 46 := by omega
    exact UInt8.toNat_inj.1 this
  · intro h; subst h; rfl

/-- The loop of the reference's Labels: from the place i on, the part having begun at the place f. -/
theorem s_Labels_l0_eq (s : ByteArray) (hs : s.size ≤ 1048576) (hne : s ≠ ⟨#[]⟩) : ∀ (k : Nat) (i f fl : Nat) (out : List ByteArray), s.size - i = k → f ≤ i → i ≤ s.size → out.length ≤ f → k + 1 < fl →
    s_Labels_l0 s fl out (f : Int) (i : Int) = some (out ++ (segs (((bts s).drop f).take (i - f)) ((bts s).drop i)).map mkB)
  | 0, i, f, fl, out, hk, hfi, hi, ho, hfl => by
    obtain ⟨fl, rfl⟩ : ∃ q, fl = q + 1 := ⟨fl - 1, by omega⟩
    obtain ⟨fl, rfl⟩ : ∃ q, fl = q + 1 := ⟨fl - 1, by omega⟩
    have hie : i = s.size := by omega
    rw [s_Labels_l0]
    have e1 : (bts s).drop i = [] := List.drop_eq_nil_of_le (by rw [bts_len]; omega)
    rw [e1]
    simp only [segs, List.map_cons, List.map_nil]
    have c1 : decide ((i : Int) ≤ (s.size : Int)) = true := by simpa using hi
    have c2 : (!decide (s = (⟨#[]⟩ : ByteArray))) = true := by simpa using hne
    rw [c1, c2, cond_true, s_Labels_j1, cond_true]
    have c3 : decide ((i : Int) = (s.size : Int)) = true := by simp [hie]
    rw [c3, cond_true, s_Labels_j2, cond_true, grd_pos (by omega), grd_pos (by simp; omega), grd_pos (by simp only [i64]; omega), grd_pos (by simp only [i64]; omega), s_Labels_l0]
    have c4 : decide ((i : Int) + 1 ≤ (s.size : Int)) = false := by simp; omega
    rw [c4, cond_false, s_Labels_j1, cond_false, extract_mkB]
    simp
  | k + 1, i, f, fl, out, hk, hfi, hi, ho, hfl => by
    obtain ⟨fl, rfl⟩ : ∃ q, fl = q + 1 := ⟨fl - 1, by omega⟩
    have hlt : i < (bts s).length := by rw [bts_len]; omega
    rw [s_Labels_l0]
    have c1 : decide ((i : Int) ≤ (s.size : Int)) = true := by simpa using hi
    have c2 : (!decide (s = (⟨#[]⟩ : ByteArray))) = true := by simpa using hne
    rw [c1, c2, cond_true, s_Labels_j1, cond_true]
    have c3 : decide ((i : Int) = (s.size : Int)) = false := by simp; omega
    have hb : (bts s)[i]? = some (bts s)[i] := List.getElem?_eq_getElem hlt
    rw [c3, cond_false, sidx_nat hb, bnd1_mk, List.drop_eq_getElem_cons hlt, segs]
    have e2 : ((i : Int) + 1) = ((i + 1 : Nat) : Int) := by omega
    by_cases c : (bts s)[i] = 46
    · rw [if_pos c]
      have c5 : decide ((((bts s)[i]).toNat : Int) = 46) = true := by simpa using (u8_eq46 _).2 c
      rw [c5, s_Labels_j2, cond_true, grd_pos (by omega), grd_pos (by simp; omega), grd_pos (by simp only [i64]; omega), grd_pos (by simp only [i64]; omega), e2,
        s_Labels_l0_eq s hs hne k (i + 1) (i + 1) fl _ (by omega) (by omega) (by omega) (by simp; omega) (by omega), extract_mkB]
      simp
    · rw [if_neg c]
      have c5 : decide ((((bts s)[i]).toNat : Int) = 46) = false := by
        have := fun h => c ((u8_eq46 _).1 h)
        simpa using this
      rw [c5, s_Labels_j2, cond_false, grd_pos (by simp only [i64]; omega), e2, s_Labels_l0_eq s hs hne k (i + 1) f fl _ (by omega) (by omega) (by omega) ho (by omega)]
      have e3 : ((bts s).drop f).take (i + 1 - f) = ((bts s).drop f).take (i - f) ++ [(bts s)[i]] := by
        rw [show i + 1 - f = (i - f) + 1 by omega, List.take_add_one]
        congr 1
        rw [List.getElem?_drop, show f + (i - f) = i by omega, hb]
        rfl
      rw [e3]

theorem s_Labels_eq {s : ByteArray} (hs : s.size ≤ 1048576) : s_Labels s = some (labels s) := by
  unfold s_Labels
  by_cases hne : s = ⟨#[]⟩
  · subst hne
    have : fuel0 = 4611686018427387903 + 1 := rfl
    rw [this, s_Labels_l0]
    rfl
  · have h := s_Labels_l0_eq s hs hne s.size 0 0 fuel0 [] (by omega) (by omega) (by omega) (by simp) (by unfold fuel0; omega)
    have e : bts s ≠ [] := fun h => hne ((bts_nil_iff s).2 h)
    simpa [labels, e] using h

theorem indexByte_none : ∀ {l : List UInt8}, Lib.indexByte l 46 = -1 → ∀ cur, segs cur l = [cur ++ l]
  | [], _, cur => by simp [segs]
  | b :: l, h, cur => by
    unfold Lib.indexByte at h
    by_cases c : b = 46
    · subst c; simp at h
    · have hb : (b == (46 : UInt8)) = false := by simpa using c
      rw [hb] at h
      simp only [Bool.false_eq_true, if_false] at h
      by_cases c' : Lib.indexByte l 46 = -1
      · rw [segs, if_neg c, indexByte_none c']; simp
      · have h1 := Lib.indexByte_ge l 46
        rw [if_neg (by simpa using c')] at h
        omega

theorem indexByte_some : ∀ {l : List UInt8} {k : Nat}, Lib.indexByte l 46 = (k : Int) → k < l.length ∧ ∀ cur, segs cur l = (cur ++ l.take k) :: segs [] (l.drop (k + 1))
  | [], k, h => by simp [Lib.indexByte] at h
  | b :: l, k, h => by
    unfold Lib.indexByte at h
    by_cases c : b = 46
    · subst c
      simp at h
      have : k = 0 := by omega
      subst this
      exact ⟨by simp, fun cur => by simp [segs]⟩
    · have hb : (b == (46 : UInt8)) = false := by simpa using c
      rw [hb] at h
      simp only [Bool.false_eq_true, if_false] at h
      have h1 := Lib.indexByte_ge l 46
      by_cases c' : Lib.indexByte l 46 = -1
      · rw [if_pos (by simpa using c')] at h; omega
      · rw [if_neg (by simpa using c')] at h
        obtain ⟨q, rfl⟩ : ∃ q, k = q + 1 := ⟨k - 1, by omega⟩
        obtain ⟨h2, h3⟩ := indexByte_some (l := l) (k := q) (by omega)
        exact ⟨by simp; omega, fun cur => by rw [segs, if_neg c, h3]; simp⟩

theorem count_segs : ∀ (l cur : List UInt8), (segs cur l).length = Lib.countByte l 46 + 1
  | [], cur => by simp [segs, Lib.countByte]
  | b :: l, cur => by
    unfold segs
    by_cases c : b = 46
    · subst c; rw [if_pos rfl, List.length_cons, count_segs l []]; simp [Lib.countByte]
    · rw [if_neg c, count_segs l]; simp [Lib.countByte, c]

theorem dotB : (⟨#[46]⟩ : ByteArray).size = 1 := rfl

theorem dot_sidx : sidx (⟨#[46]⟩ : ByteArray) 0 = some 46 := rfl

theorem strings_Index_dot {s : ByteArray} : strings_Index s ⟨#[46]⟩ = some (if s = ⟨#[46]⟩ then 0 else Lib.indexByte (bts s) 46) := by
  unfold strings_Index internal_stringslite_Index
  rw [dotB]
  by_cases c : s = ⟨#[46]⟩
  · subst c; simp [internal_stringslite_Index_j0]
  · have c' : ¬ ((⟨#[46]⟩ : ByteArray) = s) := fun h => c h.symm
    simp [internal_stringslite_Index_j0, c, c', dotB, dot_sidx, internal_stringslite_IndexByte]
    rfl

theorem strings_Index_dot' {s : ByteArray} : strings_Index s ⟨#[46]⟩ = some (Lib.indexByte (bts s) 46) := by
  rw [strings_Index_dot]
  by_cases c : s = ⟨#[46]⟩
  · subst c; rfl
  · rw [if_neg c]

theorem segs_pos (cur l : List UInt8) : 1 ≤ (segs cur l).length := by rw [count_segs]; omega

theorem idx_cases (l : List UInt8) : Lib.indexByte l 46 = -1 ∨ ∃ k : Nat, Lib.indexByte l 46 = (k : Int) := by
  have h := Lib.indexByte_ge l 46
  rcases Int.lt_or_le (Lib.indexByte l 46) 0 with h1 | h1
  · exact .inl (by omega)
  · exact .inr ⟨(Lib.indexByte l 46).toNat, by omega⟩

theorem genSplit_j1_eq {r : ByteArray} {a : List ByteArray} {i : Nat} (hi : i < a.length) (ha : a.length ≤ 1099511627776) : strings_genSplit_j1 r a (i : Int) = some (a.take i ++ [r]) := by
  unfold strings_genSplit_j1
  rw [idx_nat, List.getElem?_eq_getElem hi, bnd1_mk, grd_pos (by simp only [i64]; omega), grd_pos (by omega)]
  congr 1
  have e : ((i : Int) + 1).toNat - ((0 : Nat) : Int).toNat = i + 1 := by omega
  have e2 : (0 + ((0 : Nat) : Int).toNat) = 0 := by omega
  rw [e, e2, List.drop_zero, Int.toNat_natCast, List.take_add_one, List.take_set_of_le (Nat.le_refl i), List.getElem?_set_self hi]
  rfl

theorem genSplit_l2_eq (p0 : ByteArray) (j : Int) (n : Nat) (hj : (if (p0.size : Int) + 1 < j then (p0.size : Int) + 1 else j) - 1 = (n : Int)) : ∀ (k i fl : Nat) (r : ByteArray) (a : List ByteArray), n - i = k → i ≤ n → k < fl → a.length = n + 1 → a.length ≤ 1099511627776 → (segs [] (bts r)).length = n + 1 - i → r.size ≤ 1048576 →
    strings_genSplit_l2 p0 ⟨#[46]⟩ 0 j fl r a (i : Int) = some (a.take i ++ (segs [] (bts r)).map mkB)
  | 0, i, fl, r, a, hk, hi, hf, ha, ha', hs, hr => by
    obtain ⟨fl, rfl⟩ : ∃ q, fl = q + 1 := ⟨fl - 1, by omega⟩
    have hin : i = n := by omega
    rw [strings_genSplit_l2, hj]
    have c : decide ((i : Int) < (n : Int)) = false := by simp; omega
    rw [c, cond_false, genSplit_j1_eq (by omega) ha']
    rcases idx_cases (bts r) with h | ⟨q, h⟩
    · rw [indexByte_none h]; rfl
    · have h1 := (indexByte_some h).2 []
      have h2 := segs_pos [] ((bts r).drop (q + 1))
      rw [h1] at hs
      simp only [List.length_cons] at hs
      omega
  | k + 1, i, fl, r, a, hk, hi, hf, ha, ha', hs, hr => by
    obtain ⟨fl, rfl⟩ : ∃ q, fl = q + 1 := ⟨fl - 1, by omega⟩
    rw [strings_genSplit_l2, hj]
    have c : decide ((i : Int) < (n : Int)) = true := by simp; omega
    rw [c, cond_true, strings_Index_dot', bnd1_mk]
    rcases idx_cases (bts r) with h | ⟨q, h⟩
    · rw [indexByte_none h] at hs
      simp at hs
      omega
    · obtain ⟨h1, h2⟩ := indexByte_some h
      have h2 := h2 []
      rw [bts_len] at h1
      have hi' : i < a.length := by omega
      rw [h, dotB]
      have c' : decide ((q : Int) < 0) = false := by simp
      have e1 : ((i : Int) + 1) = ((i + 1 : Nat) : Int) := by omega
      rw [c', cond_false, grd_pos (by simp only [i64]; omega), grd_pos (by omega), idx_nat, List.getElem?_eq_getElem hi', bnd1_mk, grd_pos (by simp only [i64]; omega), grd_pos (by omega), grd_pos (by simp only [i64]; omega), e1]
      have e2 : bts (r.extract ((q : Int) + ((1 : Nat) : Int)).toNat (r.size : Int).toNat) = (bts r).drop (q + 1) := by
        rw [bts_extract]
        have e3 : ((q : Int) + ((1 : Nat) : Int)).toNat = q + 1 := by omega
        rw [e3, List.take_of_length_le (by rw [List.length_drop, bts_len]; omega)]
      rw [h2, List.length_cons] at hs
      rw [genSplit_l2_eq p0 j n hj k (i + 1) fl _ _ (by omega) (by omega) (by omega) (by simp [ha]) (by simp [ha']) (by rw [e2]; omega) (by rw [ByteArray.size_extract]; omega), e2, h2]
      congr 1
      rw [Int.toNat_natCast, List.take_add_one, List.take_set_of_le (Nat.le_refl i), List.getElem?_set_self hi', extract_mkB]
      have e4 : ((q : Int) + 0).toNat - ((0 : Nat) : Int).toNat = q := by omega
      rw [e4]
      simp

theorem strings_Count_dot {s : ByteArray} : strings_Count s ⟨#[46]⟩ = some ((Lib.countByte (bts s) 46 : Nat) : Int) := by
  unfold strings_Count
  have c1 : decide (((⟨#[46]⟩ : ByteArray).size : Int) = 0) = false := by rw [dotB]; decide
  have c2 : decide (((⟨#[46]⟩ : ByteArray).size : Int) = 1) = true := by rw [dotB]; decide
  have h46 : (46 : Int).toNat.toUInt8 = 46 := by decide
  rw [c1, cond_false, c2, cond_true, dot_sidx, bnd1_mk, h46]
  rfl

theorem i_Labels_eq {s : ByteArray} (hs : s.size ≤ 1048576) : i_Labels s = some (labels s) := by
  unfold i_Labels
  by_cases hne : s = ⟨#[]⟩
  · subst hne
    have e : bts (⟨#[]⟩ : ByteArray) = [] := rfl
    simp [labels, e]
  · have e : bts s ≠ [] := fun h => hne ((bts_nil_iff s).2 h)
    have hne' : ¬ ((⟨#[46]⟩ : ByteArray) = ⟨#[]⟩) := by decide
    have hc := count_segs (bts s) []
    have hl := segs_len (bts s) []
    rw [bts_len] at hl
    have e0 := strings_Count_dot (s := s)
    have hjj : (if (s.size : Int) + 1 < ((Lib.countByte (bts s) 46 : Nat) : Int) + 1 then (s.size : Int) + 1 else ((Lib.countByte (bts s) 46 : Nat) : Int) + 1) = ((Lib.countByte (bts s) 46 : Nat) : Int) + 1 := by rw [if_neg (by omega)]
    have hloop := genSplit_l2_eq s (((Lib.countByte (bts s) 46 : Nat) : Int) + 1) (Lib.countByte (bts s) 46) (by rw [hjj]; omega) (Lib.countByte (bts s) 46) 0 fuel0 s (List.replicate (((Lib.countByte (bts s) 46 : Nat) : Int) + 1).toNat ⟨#[]⟩) (by omega) (by omega) (by unfold fuel0; omega) (by simp) (by simp; omega) (by omega) hs
    have g0 : decide ((-1 : Int) = 0) = false := by decide
    have g1 : decide ((⟨#[46]⟩ : ByteArray) = ⟨#[]⟩) = false := decide_eq_false hne'
    have g2 : decide ((-1 : Int) < 0) = true := by decide
    rw [decide_eq_false hne, cond_false, strings_Split, strings_genSplit, g0, g1, g2, cond_false, cond_false, cond_true, e0, bnd1_mk, grd_pos (by simp only [i64]; omega), strings_genSplit_j0, hjj, grd_pos (by simp only [i64]; omega), grd_pos (by omega), grd_pos (by simp only [i64]; omega)]
    rw [Int.natCast_zero] at hloop
    rw [hloop, bnd1_mk, bnd1_mk]
    unfold labels
    rw [if_neg e, List.take_zero, List.nil_append]

theorem w_markText_l0_some : ∀ (k fl : Nat) (n : Int) (s : ByteArray), 0 ≤ n → n.toNat ≤ k → k < fl → (s.size : Int) + n ≤ 4611686018427387904 → ∃ t, w_markText_l0 fl n s = some t
  | k, fl, n, s, h0, hk, hf, hs => by
    obtain ⟨fl, rfl⟩ : ∃ q, fl = q + 1 := ⟨fl - 1, by omega⟩
    rw [w_markText_l0]
    have e1 : (⟨#[109]⟩ : ByteArray).size = 1 := rfl
    by_cases c : 0 < n
    · have e2 : ∀ x, (strOfNums [x]).size = 1 := fun _ => rfl
      have e3 : Int.tmod n 10 = n % 10 := Int.tmod_eq_emod_of_nonneg h0
      have e4 : Int.tdiv n 10 = n / 10 := Int.tdiv_eq_ediv_of_nonneg h0
      rw [decide_eq_true c, cond_true, grd_pos (by simp only [i64]; omega), grd_pos (by rw [e2]; omega), e4, wrap_id (by omega)]
      cases k with
      | zero => omega
      | succ k => exact w_markText_l0_some k fl (n / 10) _ (by omega) (by omega) (by omega) (by rw [ByteArray.size_append, e2]; omega)
    · rw [decide_eq_false c, cond_false, grd_pos (by rw [e1]; omega)]
      exact ⟨_, rfl⟩

def mkT (n : Int) : ByteArray := (w_markText n).getD ⟨#[]⟩

theorem w_markText_eq {n : Int} (h : n ≤ 4611686018427387900) : w_markText n = some (mkT n) := by
  have : ∃ t, w_markText n = some t := by
    unfold w_markText
    by_cases c : n ≤ 0
    · rw [decide_eq_true c]; exact ⟨_, rfl⟩
    · rw [decide_eq_false c, cond_false]
      exact w_markText_l0_some n.toNat fuel0 n _ (by omega) (Nat.le_refl _) (by unfold fuel0; omega) (by have : (⟨#[]⟩ : ByteArray).size = 0 := rfl; rw [this]; omega)
  obtain ⟨t, h1⟩ := this
  unfold mkT
  rw [h1]; rfl

theorem set_app {α : Type} (pre t : List α) (x y : α) : (pre ++ x :: t).set pre.length y = pre ++ y :: t := by simp

theorem get_app {α : Type} (pre t : List α) (x : α) : (pre ++ x :: t)[pre.length]? = some x := by simp

def mkR (n : Int) : Rec := ⟨mkT n, n + 1, n + 1 + 1, n + 1 + 1 + 1, mkT (n + 1 + 1 + 1 + 1), mkT (n + 1 + 1 + 1 + 1 + 1)⟩

def mkL : List Rec → Int → List Rec
  | [], _ => []
  | _ :: l, n => mkR n :: mkL l (n + 1 + 1 + 1 + 1 + 1 + 1)

theorem mkL_len : ∀ (l : List Rec) (n : Int), (mkL l n).length = l.length
  | [], _ => rfl
  | _ :: l, n => by simp [mkL, mkL_len l]

theorem w_markRecordS_l0_eq : ∀ (t pre : List Rec) (n : Int) (fl : Nat), t.length < fl → 0 ≤ n → n + 6 * t.length ≤ 4611686018427387800 → pre.length + t.length ≤ 1099511627776 →
    w_markRecordS_l0 fl (pre ++ t) n (pre.length : Int) = some (n + 6 * t.length, pre ++ mkL t n)
  | [], pre, n, fl, hf, h0, hn, hl => by
    obtain ⟨fl, rfl⟩ : ∃ q, fl = q + 1 := ⟨fl - 1, by simp at hf; omega⟩
    rw [w_markRecordS_l0]
    simp [mkL]
  | r :: t, pre, n, fl, hf, h0, hn, hl => by
    simp only [List.length_cons] at hf hn hl
    obtain ⟨fl, rfl⟩ : ∃ q, fl = q + 1 := ⟨fl - 1, by omega⟩
    have c : decide ((pre.length : Int) < ((pre ++ r :: t).length : Int)) = true := by simp; omega
    have e : ((pre.length : Int) + 1) = (((pre ++ [mkR n]).length : Nat) : Int) := by simp
    rw [w_markRecordS_l0, c, cond_true, w_markText_eq (by omega), bnd1_mk, idx_nat, get_app, bnd1_mk, grd_pos (by simp only [i64]; omega), grd_pos (by simp only [i64]; omega), grd_pos (by simp only [i64]; omega), grd_pos (by simp only [i64]; omega),
      w_markText_eq (by omega), bnd1_mk, grd_pos (by simp only [i64]; omega), w_markText_eq (by omega), bnd1_mk, grd_pos (by simp only [i64]; omega), grd_pos (by simp only [i64]; omega), Int.toNat_natCast]
    simp only [set_app]
    have h := w_markRecordS_l0_eq t (pre ++ [mkR n]) (n + 1 + 1 + 1 + 1 + 1 + 1) fl (by omega) (by omega) (by omega) (by simp; omega)
    rw [List.append_assoc, List.singleton_append] at h
    rw [e]
    unfold mkR at h ⊢
    rw [h, mkL]
    simp only [List.append_assoc, List.singleton_append, List.length_cons]
    congr 2
    omega

theorem w_markRecordS_eq {l : List Rec} {n : Int} (h0 : 0 ≤ n) (hn : n + 6 * l.length ≤ 4611686018427387800) (hl : l.length ≤ 1099511627776) : w_markRecordS l n = some (n + 6 * l.length, mkL l n) := by
  have := w_markRecordS_l0_eq l [] n fuel0 (by unfold fuel0; omega) h0 hn (by simpa using hl)
  simpa [w_markRecordS] using this

theorem w_heldRecordS_l0_eq : ∀ (t : List Rec) (n : Int) (i : Nat), 0 ≤ n → n + 6 * t.length ≤ 4611686018427387800 → w_heldRecordS_l0 (mkL t n) n i = some (n + 6 * t.length)
  | [], n, i, _, _ => by simp [mkL, w_heldRecordS_l0]
  | r :: t, n, i, h0, hn => by
    simp only [List.length_cons] at hn
    have h := w_heldRecordS_l0_eq t (n + 1 + 1 + 1 + 1 + 1 + 1) (i + 1) (by omega) (by omega)
    rw [mkL, w_heldRecordS_l0, w_markText_eq (by omega), bnd1_mk]
    simp only [mkR, decide_true, Bool.not_true, cond_false]
    rw [grd_pos (by simp only [i64]; omega), grd_pos (by simp only [i64]; omega), grd_pos (by simp only [i64]; omega), grd_pos (by simp only [i64]; omega), w_markText_eq (by omega), bnd1_mk]
    simp only [decide_true, Bool.not_true, cond_false]
    rw [grd_pos (by simp only [i64]; omega), w_markText_eq (by omega), bnd1_mk]
    simp only [decide_true, Bool.not_true, cond_false]
    rw [grd_pos (by simp only [i64]; omega), h]
    congr 1
    simp only [List.length_cons]
    omega

theorem w_heldRecordS_eq {l : List Rec} {n : Int} (h0 : 0 ≤ n) (hn : n + 6 * l.length ≤ 4611686018427387800) : w_heldRecordS (mkL l n) n = some (n + 6 * l.length) := w_heldRecordS_l0_eq l n 0 h0 hn

theorem w_markMsg_at {m : MMsg} {n : Int} (h0 : 0 ≤ n ∧ n ≤ 1099511627776) (h1 : m.an.length ≤ 1048576) (h2 : m.au.length ≤ 1048576) (h3 : m.ad.length ≤ 1048576) :
    w_markMsg m n = some (n + 6 * m.an.length + 6 * m.au.length + 6 * m.ad.length, mkL m.an n, mkL m.au (n + 6 * m.an.length), mkL m.ad (n + 6 * m.an.length + 6 * m.au.length)) := by
  unfold w_markMsg
  rw [w_markRecordS_eq (by omega) (by omega) (by omega), bnd2_mk, grd_pos (mkL_len _ _), w_markRecordS_eq (by omega) (by omega) (by omega), bnd2_mk, grd_pos (mkL_len _ _), w_markRecordS_eq (by omega) (by omega) (by omega), bnd2_mk, grd_pos (mkL_len _ _)]

theorem w_heldMsg_at {m : MMsg} {n : Int} {a b c d e : Bool} {i k : Int} {q : Quest} (h0 : 0 ≤ n ∧ n ≤ 1099511627776) (h1 : m.an.length ≤ 1048576) (h2 : m.au.length ≤ 1048576) (h3 : m.ad.length ≤ 1048576) :
    w_heldMsg (MMsg.mk i a b c d e k q (mkL m.an n) (mkL m.au (n + 6 * m.an.length)) (mkL m.ad (n + 6 * m.an.length + 6 * m.au.length))) n = some (n + 6 * m.an.length + 6 * m.au.length + 6 * m.ad.length) := by
  unfold w_heldMsg
  simp only
  have c1 : ¬ (n + 6 * (m.an.length : Int) < 0) := by omega
  have c2 : ¬ (n + 6 * (m.an.length : Int) + 6 * (m.au.length : Int) < 0) := by omega
  have c3 : ¬ (n + 6 * (m.an.length : Int) + 6 * (m.au.length : Int) + 6 * (m.ad.length : Int) < 0) := by omega
  rw [w_heldRecordS_eq (by omega) (by omega), bnd1_mk, decide_eq_false c1, cond_false, w_heldRecordS_eq (by omega) (by omega), bnd1_mk, decide_eq_false c2, cond_false, w_heldRecordS_eq (by omega) (by omega), bnd1_mk, decide_eq_false c3, cond_false]

theorem segs_mem : ∀ (l cur x : List UInt8), x ∈ segs cur l → x.length ≤ cur.length + l.length
  | [], cur, x, h => by
    unfold segs at h
    rw [List.mem_singleton] at h
    subst h; simp
  | b :: l, cur, x, h => by
    unfold segs at h
    split at h
    · rcases List.mem_cons.1 h with h | h
      · subst h; simp
      · have := segs_mem l [] x h
        simp at this ⊢; omega
    · have := segs_mem l (cur ++ [b]) x h
      simp at this ⊢; omega

theorem labels_mem {s x : ByteArray} (h : x ∈ labels s) : x.size ≤ s.size := by
  unfold labels at h
  split at h
  · cases h
  · obtain ⟨y, hy, e⟩ := List.mem_map.1 h
    have h1 := segs_mem _ _ _ hy
    subst e
    rw [← bts_len, bts_mkB, ← bts_len s]
    simpa using h1

def chP (n : Int) : Bool := (decide (97 ≤ n) && decide (n ≤ 122)) || ((decide (48 ≤ n) && decide (n ≤ 57)) || (decide (n = 45) || decide (n = 95)))

def labelP (s : ByteArray) : Bool := ((bts s).all fun b => chP b.toNat) && (decide (1 ≤ (s.size : Int)) && decide ((s.size : Int) ≤ 12))

theorem s_l1In_eq {a b c : Int} : s_l1In a b c = some (decide (b ≤ a) && decide (a ≤ c)) := by
  unfold s_l1In; cases decide (b ≤ a) <;> rfl

theorem s_l2Byte_eq {b : UInt8} : s_l2Byte (b.toNat : Int) = some (chP b.toNat) := by
  have h := b.toNat_lt
  unfold s_l2Byte chP
  rw [wrap_id (by omega), s_l1In_eq, bnd1_mk, s_l1In_eq, bnd1_mk]
  cases decide (97 ≤ (b.toNat : Int)) && decide ((b.toNat : Int) ≤ 122) <;> cases decide (48 ≤ (b.toNat : Int)) && decide ((b.toNat : Int) ≤ 57) <;> cases decide ((b.toNat : Int) = 45) <;> rfl

theorem drop_all {s : ByteArray} {i : Nat} {b : UInt8} {p : UInt8 → Bool} (h : (bts s)[i]? = some b) : ((bts s).drop i).all p = (p b && ((bts s).drop (i + 1)).all p) := by
  obtain ⟨h1, h2⟩ := List.getElem?_eq_some_iff.1 h
  rw [List.drop_eq_getElem_cons h1, List.all_cons, h2]

theorem bts_get {s : ByteArray} {i : Nat} (h : i < s.size) : ∃ b, (bts s)[i]? = some b := ⟨(bts s)[i]'h, List.getElem?_eq_getElem h⟩

theorem s_LabelOk_l1_eq {s : ByteArray} (hs : s.size ≤ 1048576) : ∀ (k i fl : Nat), s.size - i = k → i ≤ s.size → k < fl → s_LabelOk_l1 s fl (i : Int) = some (((bts s).drop i).all (fun b => chP b.toNat) && (decide (1 ≤ (s.size : Int)) && decide ((s.size : Int) ≤ 12)))
  | 0, i, fl, hk, hi, hf => by
    obtain ⟨fl, rfl⟩ : ∃ q, fl = q + 1 := ⟨fl - 1, by omega⟩
    have c : ¬ ((i : Int) < (s.size : Int)) := by omega
    have e : (bts s).drop i = [] := List.drop_eq_nil_of_le (by rw [bts_len]; omega)
    rw [s_LabelOk_l1, decide_eq_false c, cond_false, e]
    unfold s_LabelOk_j0
    rw [s_l1In_eq]; rfl
  | k + 1, i, fl, hk, hi, hf => by
    obtain ⟨fl, rfl⟩ : ∃ q, fl = q + 1 := ⟨fl - 1, by omega⟩
    have c : (i : Int) < (s.size : Int) := by omega
    obtain ⟨b, hb⟩ := bts_get (s := s) (i := i) (by omega)
    have h := s_LabelOk_l1_eq hs k (i + 1) fl (by omega) (by omega) (by omega)
    rw [s_LabelOk_l1, decide_eq_true c, cond_true, sidx_nat hb, bnd1_mk, s_l2Byte_eq, bnd1_mk, grd_pos (by simp only [i64]; omega)]
    have e : ((i : Int) + 1) = ((i + 1 : Nat) : Int) := by omega
    rw [e, h, drop_all hb]
    cases chP b.toNat <;> rfl

theorem fuel_lt {k : Nat} (h : k ≤ 1048576) : k < fuel0 := by unfold fuel0; omega

theorem s_LabelOk_eq {s : ByteArray} (hs : s.size ≤ 1048576) : s_LabelOk s = some (labelP s) := by
  have h := s_LabelOk_l1_eq hs s.size 0 fuel0 (by omega) (by omega) (fuel_lt hs)
  unfold s_LabelOk
  exact h

theorem i_LabelOk_l1_eq {s : ByteArray} (hs : s.size ≤ 1048576) : ∀ (k i fl : Nat), s.size - i = k → i ≤ s.size → k < fl → i_LabelOk_l1 s fl (i : Int) = some (((bts s).drop i).all (fun b => chP b.toNat) && (decide (1 ≤ (s.size : Int)) && decide ((s.size : Int) ≤ 12)))
  | 0, i, fl, hk, hi, hf => by
    obtain ⟨fl, rfl⟩ : ∃ q, fl = q + 1 := ⟨fl - 1, by omega⟩
    have c : ¬ ((i : Int) < (s.size : Int)) := by omega
    have e : (bts s).drop i = [] := List.drop_eq_nil_of_le (by rw [bts_len]; omega)
    rw [i_LabelOk_l1, decide_eq_false c, cond_false, e]
    unfold i_LabelOk_j0
    cases decide (1 ≤ (s.size : Int)) <;> rfl
  | k + 1, i, fl, hk, hi, hf => by
    obtain ⟨fl, rfl⟩ : ∃ q, fl = q + 1 := ⟨fl - 1, by omega⟩
    have c : (i : Int) < (s.size : Int) := by omega
    obtain ⟨b, hb⟩ := bts_get (s := s) (i := i) (by omega)
    have h := i_LabelOk_l1_eq hs k (i + 1) fl (by omega) (by omega) (by omega)
    rw [i_LabelOk_l1, decide_eq_true c, cond_true, sidx_nat hb, bnd1_mk]
    have e : ((i : Int) + 1) = ((i + 1 : Nat) : Int) := by omega
    have hj : ∀ y : Bool, i_LabelOk_j2 (i : Int) (i_LabelOk_l1 s fl) y = some (!y && (((bts s).drop (i + 1)).all (fun b => chP b.toNat) && (decide (1 ≤ (s.size : Int)) && decide ((s.size : Int) ≤ 12)))) := by
      intro y
      unfold i_LabelOk_j2
      rw [grd_pos (by simp only [i64]; omega), e, h]
      cases y <;> rfl
    simp only [hj]
    rw [drop_all hb]
    have hc : chP b.toNat = !(((decide ((b.toNat : Int) < 97)) || decide (122 < (b.toNat : Int))) && ((decide ((b.toNat : Int) < 48) || decide (57 < (b.toNat : Int))) && ((!decide ((b.toNat : Int) = 45)) && !decide ((b.toNat : Int) = 95)))) := by
      have e1 : decide (97 ≤ (b.toNat : Int)) = !decide ((b.toNat : Int) < 97) := by by_cases c : (b.toNat : Int) < 97 <;> simp [c] <;> omega
      have e2 : decide ((b.toNat : Int) ≤ 122) = !decide (122 < (b.toNat : Int)) := by by_cases c : 122 < (b.toNat : Int) <;> simp [c] <;> omega
      have e3 : decide (48 ≤ (b.toNat : Int)) = !decide ((b.toNat : Int) < 48) := by by_cases c : (b.toNat : Int) < 48 <;> simp [c] <;> omega
      have e4 : decide ((b.toNat : Int) ≤ 57) = !decide (57 < (b.toNat : Int)) := by by_cases c : 57 < (b.toNat : Int) <;> simp [c] <;> omega
      unfold chP
      rw [e1, e2, e3, e4]
      cases decide ((b.toNat : Int) < 97) <;> cases decide (122 < (b.toNat : Int)) <;> cases decide ((b.toNat : Int) < 48) <;> cases decide (57 < (b.toNat : Int)) <;> cases decide ((b.toNat : Int) = 45) <;> cases decide ((b.toNat : Int) = 95) <;> rfl
    rw [hc]
    rw [Bool.and_assoc]
    generalize (((bts s).drop (i + 1)).all (fun b => chP b.toNat) && (decide (1 ≤ (s.size : Int)) && decide ((s.size : Int) ≤ 12))) = R
    cases decide ((b.toNat : Int) < 97) <;> cases decide (122 < (b.toNat : Int)) <;> cases decide ((b.toNat : Int) < 48) <;> cases decide (57 < (b.toNat : Int)) <;> cases decide ((b.toNat : Int) = 45) <;> cases decide ((b.toNat : Int) = 95) <;> rfl

theorem i_LabelOk_eq {s : ByteArray} (hs : s.size ≤ 1048576) : i_LabelOk s = some (labelP s) := by
  have h := i_LabelOk_l1_eq hs s.size 0 fuel0 (by omega) (by omega) (fuel_lt hs)
  unfold i_LabelOk
  exact h

def nameP (s : ByteArray) : Bool := (labels s).all labelP && (decide ((s.size : Int) ≤ 50) && decide (((labels s).length : Int) ≤ 6))

theorem s_NameOk_l1_eq {s : ByteArray} : ∀ (l : List ByteArray) (i : Nat), (∀ x, x ∈ l → x.size ≤ 1048576) → s_NameOk_l1 s (labels s) l i = some (l.all labelP && (decide ((s.size : Int) ≤ 50) && decide (((labels s).length : Int) ≤ 6)))
  | [], i, _ => by
    rw [s_NameOk_l1]; unfold s_NameOk_j0
    cases decide ((s.size : Int) ≤ 50) <;> rfl
  | x :: l, i, h => by
    rw [s_NameOk_l1, s_LabelOk_eq (h x (.head _)), bnd1_mk, s_NameOk_l1_eq l (i + 1) fun y hy => h y (.tail _ hy), List.all_cons]
    cases labelP x <;> rfl

theorem s_NameOk_eq {s : ByteArray} (hs : s.size ≤ 1048576) : s_NameOk s = some (nameP s) := by
  unfold s_NameOk
  rw [s_Labels_eq hs, bnd1_mk, s_NameOk_l1_eq _ _ fun x hx => Nat.le_trans (labels_mem hx) hs]; rfl

theorem slices_IndexFunc_string_l0_eq {g : ByteArray → Option Bool} {p : ByteArray → Bool} : ∀ (l : List ByteArray) (i : Nat), (∀ r, r ∈ l → g r = some (p r)) → ∃ v, slices_IndexFunc_string_l0 g l i = some v ∧ decide (0 ≤ v) = l.any p
  | [], i, _ => ⟨-1, rfl, rfl⟩
  | r :: l, i, h => by
    rw [slices_IndexFunc_string_l0, h r (.head _), bnd1_mk]
    cases c : p r with
    | true => exact ⟨i, rfl, by simp [c]⟩
    | false =>
      obtain ⟨v, h1, h2⟩ := slices_IndexFunc_string_l0_eq l (i + 1) fun q hq => h q (.tail _ hq)
      exact ⟨v, h1, by simp [c, h2]⟩

theorem slices_ContainsFunc_string_eq {g : ByteArray → Option Bool} {p : ByteArray → Bool} {l : List ByteArray} (h : ∀ r, r ∈ l → g r = some (p r)) : slices_ContainsFunc_string l g = some (l.any p) := by
  obtain ⟨v, h1, h2⟩ := slices_IndexFunc_string_l0_eq l 0 h
  unfold slices_ContainsFunc_string slices_IndexFunc_string
  rw [h1, bnd1_mk, h2]

theorem any_not_all {α : Type} (p : α → Bool) : ∀ l : List α, (!l.any fun x => !p x) = l.all p
  | [] => rfl
  | x :: l => by rw [List.any_cons, List.all_cons, ← any_not_all p l]; cases p x <;> simp

theorem i_NameOk_eq {s : ByteArray} (hs : s.size ≤ 1048576) : i_NameOk s = some (nameP s) := by
  unfold i_NameOk nameP
  rw [i_Labels_eq hs, bnd1_mk, slices_ContainsFunc_string_eq (p := fun x => !labelP x) fun r hr => by unfold i_NameOk_1; rw [i_LabelOk_eq (Nat.le_trans (labels_mem hr) hs)]; rfl, bnd1_mk, any_not_all]
  cases decide ((s.size : Int) ≤ 50) <;> cases decide (((labels s).length : Int) ≤ 6) <;> cases (labels s).all labelP <;> rfl

def typeP (k : Int) : Bool := decide (k = 1) || (decide (k = 2) || (decide (k = 5) || (decide (k = 6) || decide (k = 16))))

theorem s_TypeOk_eq {k : Int} : s_TypeOk k = some (typeP k) := by
  unfold s_TypeOk typeP
  cases decide (k = 1) <;> cases decide (k = 2) <;> cases decide (k = 5) <;> cases decide (k = 6) <;> rfl

theorem i_TypeOk_eq {k : Int} : i_TypeOk k = some (typeP k) := by
  have e : ∀ a : ByteArray, bnd1 (some a) (fun x1 => some (!decide (x1 = (⟨#[]⟩ : ByteArray)))) = some (!decide (a = (⟨#[]⟩ : ByteArray))) := fun _ => rfl
  unfold i_TypeOk i_TypeText typeP
  cases decide (k = 1) <;> cases decide (k = 2) <;> cases decide (k = 5) <;> cases decide (k = 6) <;> cases decide (k = 16) <;> rfl

def questP (q : Quest) : Bool := nameP q.name && typeP q.ty

theorem s_QuestOk_eq {q : Quest} (h : q.sm) : s_QuestOk q = some (questP q) := by
  unfold s_QuestOk questP
  rw [s_NameOk_eq h, bnd1_mk, s_TypeOk_eq]
  cases nameP q.name <;> rfl

theorem i_QuestOk_eq {q : Quest} (h : q.sm) : i_QuestOk q = some (questP q) := by
  unfold i_QuestOk questP
  rw [i_NameOk_eq h, bnd1_mk, i_TypeOk_eq]
  cases nameP q.name <;> rfl

theorem textTail {s : ByteArray} {i : Nat} (h : ¬ ((i : Int) < (s.size : Int))) : (bts s).drop i = [] := List.drop_eq_nil_of_le (by rw [bts_len]; omega)

def txP (n : Int) : Bool := decide (33 ≤ n) && decide (n ≤ 126)

def textP (s : ByteArray) : Bool := ((bts s).all fun b => txP b.toNat) && decide ((s.size : Int) ≤ 12)

theorem s_l5Text_l1_eq {s : ByteArray} (hs : s.size ≤ 1048576) : ∀ (k i fl : Nat), s.size - i = k → i ≤ s.size → k < fl → s_l5Text_l1 s fl (i : Int) = some (((bts s).drop i).all (fun b => txP b.toNat) && decide ((s.size : Int) ≤ 12))
  | 0, i, fl, hk, hi, hf => by
    obtain ⟨fl, rfl⟩ : ∃ q, fl = q + 1 := ⟨fl - 1, by omega⟩
    have c : ¬ ((i : Int) < (s.size : Int)) := by omega
    rw [s_l5Text_l1, decide_eq_false c, cond_false, textTail c]
    rfl
  | k + 1, i, fl, hk, hi, hf => by
    obtain ⟨fl, rfl⟩ : ∃ q, fl = q + 1 := ⟨fl - 1, by omega⟩
    have c : (i : Int) < (s.size : Int) := by omega
    obtain ⟨b, hb⟩ := bts_get (s := s) (i := i) (by omega)
    have hl := b.toNat_lt
    have h := s_l5Text_l1_eq hs k (i + 1) fl (by omega) (by omega) (by omega)
    have e : ((i : Int) + 1) = ((i + 1 : Nat) : Int) := by omega
    rw [s_l5Text_l1, decide_eq_true c, cond_true, sidx_nat hb, bnd1_mk, wrap_id (by omega), s_l1In_eq, bnd1_mk, grd_pos (by simp only [i64]; omega), e, h, drop_all hb, Bool.and_assoc]
    unfold txP
    cases decide (33 ≤ (b.toNat : Int)) && decide ((b.toNat : Int) ≤ 126) <;> rfl

theorem s_l5Text_eq {s : ByteArray} (hs : s.size ≤ 1048576) : s_l5Text s = some (textP s) := by
  have h := s_l5Text_l1_eq hs s.size 0 fuel0 (by omega) (by omega) (fuel_lt hs)
  unfold s_l5Text
  exact h

theorem i_isText_l1_eq {s : ByteArray} (hs : s.size ≤ 1048576) : ∀ (k i fl : Nat), s.size - i = k → i ≤ s.size → k < fl → i_isText_l1 s fl (i : Int) = some (((bts s).drop i).all (fun b => txP b.toNat) && decide ((s.size : Int) ≤ 12))
  | 0, i, fl, hk, hi, hf => by
    obtain ⟨fl, rfl⟩ : ∃ q, fl = q + 1 := ⟨fl - 1, by omega⟩
    have c : ¬ ((i : Int) < (s.size : Int)) := by omega
    rw [i_isText_l1, decide_eq_false c, cond_false, textTail c]
    rfl
  | k + 1, i, fl, hk, hi, hf => by
    obtain ⟨fl, rfl⟩ : ∃ q, fl = q + 1 := ⟨fl - 1, by omega⟩
    have c : (i : Int) < (s.size : Int) := by omega
    obtain ⟨b, hb⟩ := bts_get (s := s) (i := i) (by omega)
    have h := i_isText_l1_eq hs k (i + 1) fl (by omega) (by omega) (by omega)
    have e : ((i : Int) + 1) = ((i + 1 : Nat) : Int) := by omega
    have hj : ∀ y : Bool, i_isText_j2 (i : Int) (i_isText_l1 s fl) y = some (!y && (((bts s).drop (i + 1)).all (fun b => txP b.toNat) && decide ((s.size : Int) ≤ 12))) := by
      intro y
      unfold i_isText_j2
      rw [grd_pos (by simp only [i64]; omega), e, h]
      cases y <;> rfl
    rw [i_isText_l1, decide_eq_true c, cond_true, sidx_nat hb, bnd1_mk, bnd1_mk, hj, hj, drop_all hb, Bool.and_assoc]
    have e1 : decide (33 ≤ (b.toNat : Int)) = !decide ((b.toNat : Int) < 33) := by by_cases c : (b.toNat : Int) < 33 <;> simp [c] <;> omega
    have e2 : decide ((b.toNat : Int) ≤ 126) = !decide (126 < (b.toNat : Int)) := by by_cases c : 126 < (b.toNat : Int) <;> simp [c] <;> omega
    unfold txP
    rw [e1, e2]
    generalize (((bts s).drop (i + 1)).all (fun b => decide (33 ≤ (b.toNat : Int)) && decide ((b.toNat : Int) ≤ 126)) && decide ((s.size : Int) ≤ 12)) = R
    cases decide ((b.toNat : Int) < 33) <;> cases decide (126 < (b.toNat : Int)) <;> rfl

theorem i_isText_eq {s : ByteArray} (hs : s.size ≤ 1048576) : i_isText s = some (textP s) := by
  have h := i_isText_l1_eq hs s.size 0 fuel0 (by omega) (by omega) (fuel_lt hs)
  unfold i_isText
  exact h

def inP (a b c : Int) : Bool := decide (b ≤ a) && decide (a ≤ c)

theorem i_isTtl_eq {a : Int} : i_isTtl a = some (inP a 0 100000) := by
  unfold i_isTtl inP; cases decide (0 ≤ a) <;> rfl

theorem i_isFour_eq {a : Int} : i_isFour a = some (inP a 0 2147483647) := by
  unfold i_isFour inP; cases decide (0 ≤ a) <;> rfl

def nilP (s : ByteArray) : Bool := decide (s = (⟨#[]⟩ : ByteArray))

def recP (r : Rec) : Bool :=
  nameP r.name && (inP r.ttl 0 100000 && (bif decide (r.ty = 1) then inP r.n 0 2147483647 && (nilP r.host && nilP r.text) else (bif decide (r.ty = 2) || decide (r.ty = 5) then decide (r.n = 0) && (nameP r.host && nilP r.text)
    else (bif decide (r.ty = 6) then inP r.n 0 100000 && (nameP r.host && nilP r.text) else decide (r.ty = 16) && (decide (r.n = 0) && (nilP r.host && textP r.text))))))

theorem s_RecordOk_eq {r : Rec} (h : r.sm) : s_RecordOk r = some (recP r) := by
  obtain ⟨h1, h2, h3⟩ := h
  unfold s_RecordOk s_RecordOk_j0 s_RecordOk_j1 recP nilP
  rw [s_NameOk_eq h1, bnd1_mk, s_l1In_eq, bnd1_mk, s_l1In_eq, bnd1_mk, s_l1In_eq, bnd1_mk, s_NameOk_eq h2, bnd1_mk, s_l5Text_eq h3, bnd1_mk]
  unfold inP
  generalize (decide (0 ≤ r.ttl) && decide (r.ttl ≤ 100000)) = a
  generalize (decide (0 ≤ r.n) && decide (r.n ≤ 2147483647)) = b
  generalize (decide (0 ≤ r.n) && decide (r.n ≤ 100000)) = d
  cases nameP r.name <;> cases a <;> cases decide (r.ty = 1) <;> cases decide (r.ty = 2) <;> cases decide (r.ty = 5) <;> cases decide (r.ty = 6) <;> cases decide (r.ty = 16) <;> try rfl
  all_goals (cases b <;> cases d <;> cases decide (r.n = 0) <;> cases nameP r.host <;> cases decide (r.host = (⟨#[]⟩ : ByteArray)) <;> rfl)

theorem i_RecordOk_eq {r : Rec} (h : r.sm) : i_RecordOk r = some (recP r) := by
  obtain ⟨h1, h2, h3⟩ := h
  unfold i_RecordOk i_RecordOk_j0 i_RecordOk_j1 recP nilP
  rw [i_NameOk_eq h1, bnd1_mk, i_isTtl_eq, bnd1_mk, i_isFour_eq, bnd1_mk, i_isTtl_eq, bnd1_mk, i_NameOk_eq h2, bnd1_mk, i_isText_eq h3, bnd1_mk]
  generalize inP r.ttl 0 100000 = a
  generalize inP r.n 0 2147483647 = b
  generalize inP r.n 0 100000 = d
  cases nameP r.name <;> cases a <;> cases decide (r.ty = 1) <;> cases decide (r.ty = 2) <;> cases decide (r.ty = 5) <;> cases decide (r.ty = 6) <;> cases decide (r.ty = 16) <;> try rfl
  all_goals (cases b <;> cases d <;> cases decide (r.n = 0) <;> cases nameP r.host <;> cases decide (r.host = (⟨#[]⟩ : ByteArray)) <;> rfl)

def foldC (x : Int) : Int := if 65 ≤ x ∧ x ≤ 90 then x + 32 else x

theorem wrap8 {x : Int} (h : 0 ≤ x ∧ x < 256) : IntKind.u8.wrap x = x := by
  simp [IntKind.wrap, IntKind.signed, IntKind.bits]; omega

theorem s_Fold_l1_eq : ∀ (t pre : List Int) (fl : Nat), t.length < fl → pre.length + t.length ≤ 1099511627776 → (∀ x, x ∈ t → 0 ≤ x ∧ x < 256) → s_Fold_l1 fl (pre ++ t) (pre.length : Int) = some (strOfNums (pre ++ t.map foldC))
  | [], pre, fl, hf, hl, _ => by
    obtain ⟨fl, rfl⟩ : ∃ q, fl = q + 1 := ⟨fl - 1, by simp at hf; omega⟩
    have c : ¬ ((pre.length : Int) < ((pre ++ ([] : List Int)).length : Int)) := by simp
    rw [s_Fold_l1, decide_eq_false c, cond_false]
    rfl
  | x :: t, pre, fl, hf, hl, hx => by
    simp only [List.length_cons] at hf hl
    obtain ⟨fl, rfl⟩ : ∃ q, fl = q + 1 := ⟨fl - 1, by omega⟩
    have c : (pre.length : Int) < ((pre ++ x :: t).length : Int) := by simp; omega
    have hb := hx x (.head _)
    have h := s_Fold_l1_eq t (pre ++ [foldC x]) fl (by omega) (by simp; omega) (fun y hy => hx y (.tail _ hy))
    have e : (pre.length : Int) + 1 = ((pre ++ [foldC x]).length : Int) := by simp
    rw [s_Fold_l1, decide_eq_true c, cond_true, idx_nat, get_app, bnd1_mk, wrap_id (by omega), s_l1In_eq, bnd1_mk, grd_pos (by simp only [i64]; omega), grd_pos (by simp only [i64]; omega), e, Int.toNat_natCast, set_app]
    simp only [List.append_assoc, List.singleton_append] at h
    rw [List.map_cons]
    by_cases d : 65 ≤ x ∧ x ≤ 90
    · have f : foldC x = x + 32 := if_pos d
      rw [decide_eq_true d.1, decide_eq_true d.2, Bool.and_self, cond_true, wrap8 (by omega), ← f, h]
    · have f : foldC x = x := if_neg d
      have d2 : (decide (65 ≤ x) && decide (x ≤ 90)) = false := by
        by_cases d1 : 65 ≤ x
        · have d3 : ¬ (x ≤ 90) := fun q => d ⟨d1, q⟩
          simp [d3]
        · simp [d1]
      rw [f] at h
      rw [d2, cond_false, f, h]

theorem i_Fold_l1_eq : ∀ (t pre : List Int), (∀ x, x ∈ t → 0 ≤ x ∧ x < 256) → i_Fold_l1 t (pre ++ t) pre.length = some (strOfNums (pre ++ t.map foldC))
  | [], pre, _ => by rw [i_Fold_l1]; rfl
  | x :: t, pre, hx => by
    have hb := hx x (.head _)
    have h := i_Fold_l1_eq t (pre ++ [foldC x]) (fun y hy => hx y (.tail _ hy))
    simp only [List.append_assoc, List.singleton_append, List.length_append, List.length_singleton] at h
    rw [i_Fold_l1, idx_nat, get_app, bnd1_mk, List.map_cons]
    unfold i_Fold_j2
    rw [Int.toNat_natCast, set_app]
    by_cases d1 : 65 ≤ x
    · rw [decide_eq_true d1, cond_true]
      by_cases d2 : x ≤ 90
      · have f : foldC x = x + 32 := if_pos ⟨d1, d2⟩
        have w : IntKind.u8.wrap (IntKind.u8.wrap (x + 97) - 65) = foldC x := by rw [f, wrap8 (x := x + 97) (by omega), wrap8 (by omega)]; omega
        rw [decide_eq_true d2, cond_true, w, h]
      · have f : foldC x = x := if_neg fun q => d2 q.2
        rw [f] at h
        rw [decide_eq_false d2, cond_false, f, h]
    · have f : foldC x = x := if_neg fun q => d1 q.1
      rw [f] at h
      rw [decide_eq_false d1, cond_false, cond_false, f, h]

theorem bytesOf_rng {s : ByteArray} {x : Int} (h : x ∈ bytesOf s) : 0 ≤ x ∧ x < 256 := by
  unfold bytesOf at h
  obtain ⟨b, -, e⟩ := List.mem_map.1 h
  have := b.toNat_lt
  omega

def fold (s : ByteArray) : ByteArray := strOfNums ((bytesOf s).map foldC)

theorem s_Fold_eq {s : ByteArray} (h : s.size ≤ 1048576) : s_Fold s = some (fold s) := by
  unfold s_Fold fold
  rw [grd_pos (by omega)]
  have := s_Fold_l1_eq (bytesOf s) [] fuel0 (fuel_lt (by rw [bytesOf_len]; exact h)) (by rw [bytesOf_len]; simp; omega) (fun x hx => bytesOf_rng hx)
  exact this

theorem i_Fold_eq {s : ByteArray} (h : s.size ≤ 1048576) : i_Fold s = some (fold s) := by
  unfold i_Fold fold
  rw [grd_pos (by omega)]
  exact i_Fold_l1_eq (bytesOf s) [] (fun x hx => bytesOf_rng hx)

theorem strOfNums_size (l : List Int) : (strOfNums l).size = l.length := by
  unfold strOfNums
  rw [← bts_len]
  unfold bts
  simp

def getLabel (b : List Int) (i : Int) : ByteArray × Int × Bool :=
  if 0 ≤ i ∧ i < (b.length : Int) then
    (match b[i.toNat]? with
    | none => (⟨#[]⟩, 0, false)
    | some n => if 12 < n ∨ (b.length : Int) - i ≤ n then (⟨#[]⟩, 0, false)
      else (bif labelP (fold (strOfNums ((b.drop (i + 1).toNat).take n.toNat))) then (fold (strOfNums ((b.drop (i + 1).toNat).take n.toNat)), i + 1 + n, true) else (⟨#[]⟩, 0, false)))
  else (⟨#[]⟩, 0, false)

theorem labelP_nil : labelP (fold (strOfNums [])) = false := by decide

theorem s_GetLabel_eq {b : List Int} {i : Int} (hb : ∀ x, x ∈ b → 0 ≤ x ∧ x < 256) (hl : b.length ≤ 1048576) (hi : i64 i) : s_GetLabel b i = some (getLabel b i) := by
  simp only [i64] at hi
  unfold s_GetLabel s_GetLabel_j0 getLabel
  by_cases c1 : i < 0
  · rw [decide_eq_true c1, cond_true, cond_true, if_neg (by omega)]
  rw [decide_eq_false c1, cond_false]
  by_cases c2 : (b.length : Int) ≤ i
  · rw [decide_eq_true c2, cond_true, if_neg (by omega)]
  rw [decide_eq_false c2, cond_false, if_pos (by omega)]
  have hlt : i.toNat < b.length := by omega
  have e1 : idx b i = some b[i.toNat] := by unfold idx; rw [if_pos (by omega), List.getElem?_eq_getElem hlt]
  have hx := hb _ (List.getElem_mem hlt)
  rw [e1, bnd1_mk, List.getElem?_eq_getElem hlt]
  generalize b[i.toNat] = n at hx
  unfold s_GetLabel_j1
  rw [wrap_id (by omega), s_l1In_eq, bnd1_mk]
  simp only
  by_cases c3 : 1 ≤ n ∧ n ≤ 12
  · rw [decide_eq_true c3.1, decide_eq_true c3.2]
    rw [show (!(true && true)) = false from rfl, cond_false, grd_pos (by simp only [i64]; omega), grd_pos (by simp only [i64]; omega)]
    by_cases c4 : (b.length : Int) - i - 1 < n
    · rw [decide_eq_true c4, cond_true, if_pos (.inr (by omega))]
    · have e2 : (i + 1 + n).toNat - (i + 1).toNat = n.toNat := by omega
      rw [decide_eq_false c4, cond_false, if_neg (by omega), grd_pos (by simp only [i64]; omega), grd_pos (by simp only [i64]; omega), grd_pos (by simp only [i64]; omega), grd_pos (by omega), e2]
      have hs : (strOfNums ((b.drop (i + 1).toNat).take n.toNat)).size ≤ 1048576 := by rw [strOfNums_size, List.length_take]; omega
      generalize strOfNums ((b.drop (i + 1).toNat).take n.toNat) = s at hs
      have hf : (fold s).size ≤ 1048576 := by unfold fold; rw [strOfNums_size, List.length_map, bytesOf_len]; exact hs
      rw [s_Fold_eq hs, bnd1_mk, s_LabelOk_eq hf, bnd1_mk]
      cases labelP (fold s)
      · rfl
      · rw [Bool.not_true, cond_false, cond_true, grd_pos (by simp only [i64]; omega), grd_pos (by simp only [i64]; omega)]
  · have d : (decide (1 ≤ n) && decide (n ≤ 12)) = false := by
      by_cases d1 : 1 ≤ n
      · have d3 : ¬ (n ≤ 12) := fun q => c3 ⟨d1, q⟩
        simp [d3]
      · simp [d1]
    rw [d, Bool.not_false, cond_true, cond_true]
    by_cases c5 : 12 < n ∨ (b.length : Int) - i ≤ n
    · rw [if_pos c5]
    · have n0 : n = 0 := by omega
      subst n0
      rw [if_neg c5]
      have e3 : ((b.drop (i + 1).toNat).take (0 : Int).toNat) = [] := by simp
      rw [e3, labelP_nil, cond_false]

theorem i_GetLabel_eq {b : List Int} {i : Int} (hb : ∀ x, x ∈ b → 0 ≤ x ∧ x < 256) (hl : b.length ≤ 1048576) (hi : i64 i) : i_GetLabel b i = some (getLabel b i) := by
  simp only [i64] at hi
  unfold i_GetLabel getLabel
  by_cases c1 : i < 0
  · rw [decide_eq_true c1, cond_true, if_neg (by omega)]; rfl
  rw [decide_eq_false c1, cond_false]
  by_cases c2 : (b.length : Int) ≤ i
  · rw [decide_eq_true c2, cond_true, if_neg (by omega)]; rfl
  rw [decide_eq_false c2, cond_false, if_pos (by omega)]
  have hlt : i.toNat < b.length := by omega
  have e1 : idx b i = some b[i.toNat] := by unfold idx; rw [if_pos (by omega), List.getElem?_eq_getElem hlt]
  have hx := hb _ (List.getElem_mem hlt)
  unfold i_GetLabel_j0
  rw [e1, bnd1_mk, bnd1_mk, List.getElem?_eq_getElem hlt]
  generalize b[i.toNat] = n at hx
  rw [wrap_id (by omega)]
  simp only
  by_cases c3 : 12 < n
  · rw [decide_eq_true c3, cond_true, cond_true, if_pos (.inl c3)]
  rw [decide_eq_false c3, cond_false, grd_pos (by simp only [i64]; omega)]
  by_cases c4 : (b.length : Int) - i ≤ n
  · rw [decide_eq_true c4, cond_true, if_pos (.inr c4)]
  have e2 : (i + 1 + n).toNat - (i + 1).toNat = n.toNat := by omega
  rw [decide_eq_false c4, cond_false, if_neg (by omega), grd_pos (by simp only [i64]; omega), grd_pos (by simp only [i64]; omega), grd_pos (by simp only [i64]; omega), grd_pos (by omega), e2]
  have hs : (strOfNums ((b.drop (i + 1).toNat).take n.toNat)).size ≤ 1048576 := by rw [strOfNums_size, List.length_take]; omega
  generalize strOfNums ((b.drop (i + 1).toNat).take n.toNat) = s at hs
  have hf : (fold s).size ≤ 1048576 := by unfold fold; rw [strOfNums_size, List.length_map, bytesOf_len]; exact hs
  rw [i_Fold_eq hs, bnd1_mk, i_LabelOk_eq hf, bnd1_mk]
  cases labelP (fold s) <;> rfl

theorem ba_ext {a b : ByteArray} (h : a.data.toList = b.data.toList) : a = b := by
  cases a; cases b; simp only at h; congr 1; exact Array.toList_inj.1 h

theorem ba_app (a b : ByteArray) : (a ++ b).data.toList = a.data.toList ++ b.data.toList := by
  rw [ByteArray.data_append, Array.toList_append]

theorem joinB_list (l : List ByteArray) (s : ByteArray) : (joinB l s).data.toList = Lib.join (l.map fun x => x.data.toList) s.data.toList := by
  unfold joinB; simp

theorem joinB_nil (s : ByteArray) : joinB [] s = ⟨#[]⟩ := ba_ext (by rw [joinB_list]; rfl)

theorem joinB_one (p s : ByteArray) : joinB [p] s = p := ba_ext (by rw [joinB_list]; simp [Lib.join_one])

theorem joinB_snoc {l : List ByteArray} (p s : ByteArray) (h : l ≠ []) : joinB (l ++ [p]) s = (joinB l s ++ s) ++ p := by
  cases l with
  | nil => exact absurd rfl h
  | cons x t =>
    apply ba_ext
    rw [ba_app, ba_app, joinB_list, joinB_list]
    simp only [List.cons_append, List.map_cons, List.map_append, List.map_nil, Lib.join_cons, Lib.joinTail]
    simp [List.append_assoc]

theorem joinB_cons {l : List ByteArray} (p s : ByteArray) (h : l ≠ []) : joinB (p :: l) s = p ++ (s ++ joinB l s) := by
  cases l with
  | nil => exact absurd rfl h
  | cons x t =>
    apply ba_ext
    rw [ba_app, ba_app, joinB_list, joinB_list]
    simp only [List.map_cons, Lib.join_cons, Lib.joinTail]
    simp [List.append_assoc]

theorem ofInt_nat (a : Nat) : BitVec.ofInt 64 (a : Int) = BitVec.ofNat 64 a := BitVec.ofInt_natCast 64 a

theorem ior_add {a b : Int} (k : Nat) (hk : k ≤ 40) (ha : 0 ≤ a) (ha2 : a < 4294967296) (hb : 0 ≤ b) (hb2 : b < 2 ^ k) (hd : a % 2 ^ k = 0) : ior .i64 a b = a + b := by
  obtain ⟨m, rfl⟩ : ∃ n : Nat, a = (n : Int) := ⟨a.toNat, by omega⟩
  obtain ⟨n, rfl⟩ : ∃ n : Nat, b = (n : Int) := ⟨b.toNat, by omega⟩
  have hm : m < 2 ^ 64 := by omega
  have hn1 : n < 2 ^ k := by exact_mod_cast hb2
  have hn : n < 2 ^ 64 := Nat.lt_of_lt_of_le hn1 (Nat.pow_le_pow_right (by decide) (by omega))
  have hn2 : n < 2 ^ 40 := Nat.lt_of_lt_of_le hn1 (Nat.pow_le_pow_right (by decide) hk)
  have hd' : m % 2 ^ k = 0 := by exact_mod_cast hd
  have hmk : m = (m / 2 ^ k) <<< k := by
    rw [Nat.shiftLeft_eq]
    have := Nat.div_add_mod m (2 ^ k)
    rw [hd', Nat.add_zero, Nat.mul_comm] at this
    exact this.symm
  unfold ior
  have e : (BitVec.ofInt (IntKind.i64).bits (m : Int) ||| BitVec.ofInt (IntKind.i64).bits (n : Int)).toNat = m + n := by
    show (BitVec.ofInt 64 (m : Int) ||| BitVec.ofInt 64 (n : Int)).toNat = m + n
    rw [ofInt_nat, ofInt_nat, BitVec.toNat_or, BitVec.toNat_ofNat, BitVec.toNat_ofNat, Nat.mod_eq_of_lt hm, Nat.mod_eq_of_lt hn]
    have h2 := Nat.shiftLeft_add_eq_or_of_lt hn1 (m / 2 ^ k)
    rw [← hmk] at h2
    exact h2.symm
  rw [e, wrap_id (by omega)]
  omega

/-- How a name is read: the place, what is read, the place behind it, the bound of jumps, the number of jumps. -/
def walkF (b : List Int) : Nat → Int → ByteArray → Int → Int → Int → ByteArray × Int × Int × Int
  | 0, _, _, _, _, _ => (⟨#[]⟩, 0, 0, 0)
  | f + 1, at', s, nx, bg, j =>
    if at' < 0 ∨ (b.length : Int) ≤ at' then (⟨#[]⟩, 0, 1, j) else
    if b.getD at'.toNat 0 = 0 then (s, if nx < 0 then at' + 1 else nx, 0, j) else
    if 192 ≤ b.getD at'.toNat 0 then
      (if (b.length : Int) ≤ at' + 1 then (⟨#[]⟩, 0, 1, j) else
       if bg ≤ 256 * (b.getD at'.toNat 0 - 192) + b.getD (at' + 1).toNat 0 then (⟨#[]⟩, 0, 3, j) else
       walkF b f (256 * (b.getD at'.toNat 0 - 192) + b.getD (at' + 1).toNat 0) s (if nx < 0 then at' + 2 else nx) (256 * (b.getD at'.toNat 0 - 192) + b.getD (at' + 1).toNat 0) (j + 1)) else
    if 12 < b.getD at'.toNat 0 then (⟨#[]⟩, 0, 2, j) else
    if (b.length : Int) - at' ≤ b.getD at'.toNat 0 then (⟨#[]⟩, 0, 1, j) else
    if (getLabel b at').2.2 = false then (⟨#[]⟩, 0, 2, j) else
    if nameP (if s = ⟨#[]⟩ then (getLabel b at').1 else (s ++ ⟨#[46]⟩) ++ (getLabel b at').1) then walkF b f (getLabel b at').2.1 (if s = ⟨#[]⟩ then (getLabel b at').1 else (s ++ ⟨#[46]⟩) ++ (getLabel b at').1) nx bg j else (⟨#[]⟩, 0, 4, j)

theorem idx_gd {b : List Int} {i : Int} (h0 : 0 ≤ i) (h1 : i < (b.length : Int)) : idx b i = some (b.getD i.toNat 0) := by
  unfold idx
  rw [if_pos h0, List.getD_eq_getElem?_getD, List.getElem?_eq_getElem (by omega)]; rfl

theorem getD_rng {b : List Int} (hb : ∀ x, x ∈ b → 0 ≤ x ∧ x < 256) (n : Nat) : 0 ≤ b.getD n 0 ∧ b.getD n 0 < 256 := by
  rw [List.getD_eq_getElem?_getD]
  cases h : b[n]? with
  | none => simp
  | some x => exact hb x (List.mem_of_getElem? h)

theorem getLabel_ok {b : List Int} {i : Int} (hb : ∀ x, x ∈ b → 0 ≤ x ∧ x < 256) (h : (getLabel b i).2.2 = true) : labelP (getLabel b i).1 = true ∧ (getLabel b i).2.1 = i + 1 + b.getD i.toNat 0 ∧ 0 ≤ i ∧ i + 1 + b.getD i.toNat 0 ≤ (b.length : Int) := by
  unfold getLabel at h ⊢
  by_cases c : 0 ≤ i ∧ i < (b.length : Int)
  · rw [if_pos c] at h ⊢
    have e : b[i.toNat]? = some (b.getD i.toNat 0) := by
      rw [List.getD_eq_getElem?_getD, List.getElem?_eq_getElem (by omega)]; rfl
    have hr := getD_rng hb i.toNat
    rw [e] at h ⊢
    generalize b.getD i.toNat 0 = n at h hr
    simp only at h ⊢
    by_cases c2 : 12 < n ∨ (b.length : Int) - i ≤ n
    · rw [if_pos c2] at h; cases h
    · rw [if_neg c2] at h ⊢
      cases hl : labelP (fold (strOfNums ((b.drop (i + 1).toNat).take n.toNat))) with
      | true => rw [cond_true]; exact ⟨hl, rfl, c.1, by omega⟩
      | false => rw [hl, cond_false] at h; cases h
  · rw [if_neg c] at h; cases h

theorem labelP_size {s : ByteArray} (h : labelP s = true) : 1 ≤ s.size ∧ s.size ≤ 12 := by
  unfold labelP at h
  simp only [Bool.and_eq_true, decide_eq_true_eq] at h
  omega

theorem nameP_size {s : ByteArray} (h : nameP s = true) : s.size ≤ 50 := by
  unfold nameP at h
  simp only [Bool.and_eq_true, decide_eq_true_eq] at h
  omega

theorem size_app (a b : ByteArray) : (a ++ b).size = a.size + b.size := ByteArray.size_append

/-- What is put together is longer. -/
theorem putS_size {s p : ByteArray} : (if s = ⟨#[]⟩ then p else (s ++ ⟨#[46]⟩) ++ p).size ≥ s.size + p.size := by
  by_cases c : s = ⟨#[]⟩
  · rw [if_pos c, c]; show p.size ≥ 0 + p.size; omega
  · rw [if_neg c, size_app, size_app]; omega

theorem putS_le {s p : ByteArray} : (if s = ⟨#[]⟩ then p else (s ++ ⟨#[46]⟩) ++ p).size ≤ s.size + p.size + 1 := by
  by_cases c : s = ⟨#[]⟩
  · rw [if_pos c]; omega
  · rw [if_neg c, size_app, size_app]; show s.size + 1 + p.size ≤ _; omega

theorem s_walk_eq {b : List Int} (hb : ∀ x, x ∈ b → 0 ≤ x ∧ x < 256) (hl : b.length ≤ 1048576) : ∀ (fl m : Nat) (at' : Int) (s : ByteArray) (nx bg j : Int), m < fl → (at' < 0 ∨ (b.length : Int) ≤ at' ∨ bg.toNat + (60 - s.size) ≤ m) → s.size ≤ 50 → i64 at' → 0 ≤ j → j + m ≤ 100000000 →
    s_l4Walk_l0 b fl at' s nx bg j = some (walkF b fl at' s nx bg j)
  | 0, m, at', s, nx, bg, j, hm, _, _, _, _, _ => by omega
  | fl + 1, m, at', s, nx, bg, j, hm, hbg, hs, hi, hj, hjm => by
    rw [s_l4Walk_l0, walkF]
    simp only [i64] at hi
    by_cases c1 : at' < 0
    · rw [decide_eq_true c1, cond_true]
      unfold s_l4Walk_j1
      rw [cond_true, if_pos (.inl c1)]
    rw [decide_eq_false c1, cond_false]
    unfold s_l4Walk_j1
    by_cases c2 : (b.length : Int) ≤ at'
    · rw [decide_eq_true c2, cond_true, if_pos (.inr c2)]
    have hn := getD_rng hb at'.toNat
    have hy := getD_rng hb (at' + 1).toNat
    have hmm : bg.toNat + (60 - s.size) ≤ m := by omega
    rw [decide_eq_false c2, cond_false, if_neg (by omega), idx_gd (by omega) (by omega), bnd1_mk]
    have hg := @getLabel_ok b at' hb
    have hge := s_GetLabel_eq hb hl (i := at') (by simp only [i64]; omega)
    generalize hnn : b.getD at'.toNat 0 = n at hn hg ⊢
    rw [wrap_id (by omega)]
    by_cases c3 : n = 0
    · rw [decide_eq_true c3, cond_true, if_pos c3]
      by_cases c4 : nx < 0
      · rw [decide_eq_true c4, cond_true, grd_pos (by simp only [i64]; omega), if_pos c4]; rfl
      · rw [decide_eq_false c4, cond_false, if_neg c4]; rfl
    rw [decide_eq_false c3, cond_false, if_neg c3]
    by_cases c5 : 192 ≤ n
    · rw [decide_eq_true c5, cond_true, if_pos c5, grd_pos (by simp only [i64]; omega)]
      by_cases c6 : (b.length : Int) ≤ at' + 1
      · rw [decide_eq_true c6, cond_true, if_pos c6]
      rw [decide_eq_false c6, cond_false, if_neg c6, grd_pos (by simp only [i64]; omega), grd_pos (by simp only [i64]; omega), grd_pos (by simp only [i64]; omega), idx_gd (by omega) (by omega), bnd1_mk]
      generalize b.getD (at' + 1).toNat 0 = y at hy ⊢
      rw [wrap_id (by omega), grd_pos (by simp only [i64]; omega)]
      by_cases c7 : bg ≤ 256 * (n - 192) + y
      · rw [decide_eq_true c7, cond_true, if_pos c7]
      rw [decide_eq_false c7, cond_false, if_neg c7]
      have ih : ∀ nx', s_l4Walk_l0 b fl (256 * (n - 192) + y) s nx' (256 * (n - 192) + y) (j + 1) = some (walkF b fl (256 * (n - 192) + y) s nx' (256 * (n - 192) + y) (j + 1)) := fun nx' =>
        s_walk_eq hb hl fl (m - 1) _ _ _ _ _ (by omega) (.inr (.inr (by omega))) hs (by simp only [i64]; omega) (by omega) (by omega)
      unfold s_l4Walk_j3
      rw [wrap_id (by omega), wrap_id (by omega)]
      by_cases c8 : nx < 0
      · rw [decide_eq_true c8, cond_true, if_pos c8, grd_pos (by simp only [i64]; omega), grd_pos (by simp only [i64]; omega)]; exact ih _
      · rw [decide_eq_false c8, cond_false, if_neg c8, grd_pos (by simp only [i64]; omega)]; exact ih _
    rw [decide_eq_false c5, cond_false, if_neg c5]
    have hkey : s_l4Walk_j4 b at' s nx bg j (s_l4Walk_l0 b fl) false = some (if (getLabel b at').2.2 = false then (⟨#[]⟩, 0, 2, j) else
        if nameP (if s = ⟨#[]⟩ then (getLabel b at').1 else (s ++ ⟨#[46]⟩) ++ (getLabel b at').1) then walkF b fl (getLabel b at').2.1 (if s = ⟨#[]⟩ then (getLabel b at').1 else (s ++ ⟨#[46]⟩) ++ (getLabel b at').1) nx bg j else (⟨#[]⟩, 0, 4, j)) := by
      unfold s_l4Walk_j4
      rw [cond_false, hge]
      generalize getLabel b at' = g at hg
      obtain ⟨p, to, ok⟩ := g
      rw [bnd3_mk]
      cases ok with
      | false => rfl
      | true =>
        obtain ⟨g1, g2, g3, g4⟩ := hg rfl
        have gs := labelP_size g1
        simp only at g1 g2 gs ⊢
        have h1 := @putS_size s p
        have h2 := @putS_le s p
        rw [Bool.not_true, cond_false, if_neg (by simp)]
        have e : ∀ t : ByteArray, t = (if s = ⟨#[]⟩ then p else (s ++ ⟨#[46]⟩) ++ p) → bnd1 (s_NameOk t) (fun x26 => bif !x26 then (some ((⟨#[]⟩ : ByteArray), 0, 4, j)) else (s_l4Walk_l0 b fl to t nx bg j)) = some (if nameP t = true then walkF b fl to t nx bg j else (⟨#[]⟩, 0, 4, j)) := fun t ht => by
          rw [← ht] at h1 h2
          rw [s_NameOk_eq (by omega), bnd1_mk]
          cases hn : nameP t with
          | false => rfl
          | true =>
            have h3 := nameP_size hn
            rw [Bool.not_true, cond_false, if_pos rfl]
            exact s_walk_eq hb hl fl (m - 1) _ _ _ _ _ (by omega) (.inr (.inr (by omega))) (by omega) (by simp only [i64]; omega) (by omega) (by omega)
        by_cases c9 : s = ⟨#[]⟩
        · rw [decide_eq_true c9, Bool.not_true, cond_false]
          unfold s_l4Walk_j5
          have e9 : s ++ p = p := by rw [c9]; apply ba_ext; rw [ba_app]; rfl
          rw [grd_pos (by omega), e9, if_pos c9]
          exact e p (by rw [if_pos c9])
        · rw [decide_eq_false c9, Bool.not_false, cond_true]
          unfold s_l4Walk_j5
          rw [grd_pos (by show s.size + 1 ≤ _; omega), grd_pos (by rw [size_app]; show s.size + 1 + p.size ≤ _; omega), if_neg c9]
          exact e _ (by rw [if_neg c9])
    by_cases c10 : n ≤ 12
    · rw [decide_eq_true c10, cond_true, if_neg (by omega), grd_pos (by simp only [i64]; omega), grd_pos (by simp only [i64]; omega)]
      by_cases c11 : (b.length : Int) - at' ≤ n
      · rw [decide_eq_true (show (b.length : Int) - at' - 1 < n by omega), if_pos c11]; unfold s_l4Walk_j4; rfl
      · rw [decide_eq_false (show ¬ (b.length : Int) - at' - 1 < n by omega), if_neg c11]; exact hkey
    · rw [decide_eq_false c10, cond_false, if_pos (by omega), hkey]
      have : (getLabel b at').2.2 = false := by
        unfold getLabel
        rw [if_pos (by omega)]
        have e : b[at'.toNat]? = some n := by
          rw [← hnn, List.getD_eq_getElem?_getD, List.getElem?_eq_getElem (by omega)]; rfl
        rw [e]
        simp only
        rw [if_pos (.inl (by omega))]
      rw [if_pos this]

theorem joinB_pos {l : List ByteArray} (h : ∀ x, x ∈ l → 1 ≤ x.size) : l.length ≤ (joinB l ⟨#[46]⟩).size := by
  induction l with
  | nil => exact Nat.zero_le _
  | cons x t ih =>
    have hx := h x (.head _)
    have ih := ih fun y hy => h y (.tail _ hy)
    cases t with
    | nil => rw [joinB_one]; simpa using hx
    | cons y u =>
      rw [joinB_cons x _ (by simp), size_app, size_app]
      simp only [List.length_cons] at ih ⊢
      omega

theorem joinB_empty {l : List ByteArray} (h : ∀ x, x ∈ l → 1 ≤ x.size) : joinB l ⟨#[46]⟩ = ⟨#[]⟩ ↔ l = [] := by
  constructor
  · intro e
    have := joinB_pos h
    rw [e] at this
    have h0 : (⟨#[]⟩ : ByteArray).size = 0 := rfl
    exact List.length_eq_zero_iff.1 (by omega)
  · intro e; rw [e, joinB_nil]

theorem joinB_put {l : List ByteArray} {p : ByteArray} (h : ∀ x, x ∈ l → 1 ≤ x.size) : joinB (l ++ [p]) ⟨#[46]⟩ = (if joinB l ⟨#[46]⟩ = ⟨#[]⟩ then p else (joinB l ⟨#[46]⟩ ++ ⟨#[46]⟩) ++ p) := by
  by_cases c : l = []
  · rw [if_pos ((joinB_empty h).2 c), c, List.nil_append, joinB_one]
  · rw [if_neg fun e => c ((joinB_empty h).1 e), joinB_snoc _ _ c]

theorem i_JoinLabels_eq {l : List ByteArray} (h : l.length ≤ 10000000) (h2 : (joinB l ⟨#[46]⟩).size ≤ 10000000) : i_JoinLabels l = some (joinB l ⟨#[46]⟩) := by
  unfold i_JoinLabels strings_Join
  have h3 : (Lib.join (l.map fun x => x.data.toList) (⟨#[46]⟩ : ByteArray).data.toList).length = (joinB l ⟨#[46]⟩).size := by rw [← joinB_list]; rfl
  rw [grd_pos ⟨by omega, by rw [h3]; omega⟩, bnd1_mk]

theorem i_walk_eq {b : List Int} (hb : ∀ x, x ∈ b → 0 ≤ x ∧ x < 256) (hl : b.length ≤ 1048576) : ∀ (fl m : Nat) (ls : List ByteArray) (nx bg j at' : Int), m < fl → (at' < 0 ∨ (b.length : Int) ≤ at' ∨ bg.toNat + (60 - (joinB ls ⟨#[46]⟩).size) ≤ m) → (∀ x, x ∈ ls → 1 ≤ x.size) → (joinB ls ⟨#[46]⟩).size ≤ 50 → i64 at' → 0 ≤ j → j + m ≤ 100000000 →
    i_read_l0 b fl ls nx bg j at' = some (walkF b fl at' (joinB ls ⟨#[46]⟩) nx bg j)
  | 0, m, ls, nx, bg, j, at', hm, _, _, _, _, _, _ => by omega
  | fl + 1, m, ls, nx, bg, j, at', hm, hbg, hls, hs, hi, hj, hjm => by
    have hlen := joinB_pos hls
    have hput := fun p => @joinB_put ls p hls
    have hjoin := @i_JoinLabels_eq ls (by omega) (by omega)
    rw [i_read_l0, walkF]
    generalize hsn : joinB ls ⟨#[46]⟩ = s at hs hbg hlen hput hjoin ⊢
    simp only [i64] at hi
    by_cases c1 : at' < 0
    · rw [decide_eq_true c1, cond_true]
      unfold i_read_j1
      rw [cond_true, if_pos (.inl c1)]
    rw [decide_eq_false c1, cond_false]
    unfold i_read_j1
    by_cases c2 : (b.length : Int) ≤ at'
    · rw [decide_eq_true c2, cond_true, if_pos (.inr c2)]
    have hn := getD_rng hb at'.toNat
    have hy := getD_rng hb (at' + 1).toNat
    have hmm : bg.toNat + (60 - s.size) ≤ m := by omega
    rw [decide_eq_false c2, cond_false, if_neg (by omega), idx_gd (by omega) (by omega), bnd1_mk]
    have hg := @getLabel_ok b at' hb
    have hge := i_GetLabel_eq hb hl (i := at') (by simp only [i64]; omega)
    generalize hnn : b.getD at'.toNat 0 = n at hn hg ⊢
    rw [wrap_id (by omega)]
    by_cases c3 : n = 0
    · rw [decide_eq_true c3, cond_true, if_pos c3]
      unfold i_read_j2
      rw [hjoin, bnd1_mk, bnd1_mk]
      by_cases c4 : nx < 0
      · rw [decide_eq_true c4, cond_true, grd_pos (by simp only [i64]; omega), if_pos c4]
      · rw [decide_eq_false c4, cond_false, if_neg c4]
    rw [decide_eq_false c3, cond_false, if_neg c3]
    by_cases c5 : 192 ≤ n
    · rw [decide_eq_true c5, cond_true, if_pos c5, grd_pos (by simp only [i64]; omega)]
      by_cases c6 : (b.length : Int) ≤ at' + 1
      · rw [decide_eq_true c6, cond_true, if_pos c6]
      rw [decide_eq_false c6, cond_false, if_neg c6, grd_pos (by simp only [i64]; omega), grd_pos (by simp only [i64]; omega), grd_pos (by simp only [i64]; omega), idx_gd (by omega) (by omega), bnd1_mk]
      generalize b.getD (at' + 1).toNat 0 = y at hy ⊢
      rw [wrap_id (by omega), grd_pos (by simp only [i64]; omega)]
      by_cases c7 : bg ≤ 256 * (n - 192) + y
      · rw [decide_eq_true c7, cond_true, if_pos c7]
      rw [decide_eq_false c7, cond_false, if_neg c7]
      have ih : ∀ nx', i_read_l0 b fl ls nx' (256 * (n - 192) + y) (j + 1) (256 * (n - 192) + y) = some (walkF b fl (256 * (n - 192) + y) s nx' (256 * (n - 192) + y) (j + 1)) := fun nx' => by
        have := i_walk_eq hb hl fl (m - 1) ls nx' (256 * (n - 192) + y) (j + 1) (256 * (n - 192) + y) (by omega) (.inr (.inr (by rw [hsn]; omega))) hls (by rw [hsn]; omega) (by simp only [i64]; omega) (by omega) (by omega)
        rw [hsn] at this
        exact this
      unfold i_read_j3
      rw [wrap_id (by omega), wrap_id (by omega)]
      by_cases c8 : nx < 0
      · rw [decide_eq_true c8, cond_true, if_pos c8, grd_pos (by simp only [i64]; omega), grd_pos (by simp only [i64]; omega)]; exact ih _
      · rw [decide_eq_false c8, cond_false, if_neg c8, grd_pos (by simp only [i64]; omega)]; exact ih _
    rw [decide_eq_false c5, cond_false, if_neg c5]
    by_cases c10 : 12 < n
    · rw [decide_eq_true c10, cond_true, if_pos c10]
    rw [decide_eq_false c10, cond_false, if_neg c10, grd_pos (by simp only [i64]; omega)]
    by_cases c11 : (b.length : Int) - at' ≤ n
    · rw [decide_eq_true c11, cond_true, if_pos c11]
    rw [decide_eq_false c11, cond_false, if_neg c11, hge]
    generalize getLabel b at' = g at hg
    obtain ⟨p, to, ok⟩ := g
    rw [bnd3_mk]
    cases ok with
    | false => rfl
    | true =>
      obtain ⟨g1, g2, g3, g4⟩ := hg rfl
      have gs := labelP_size g1
      have h1 := @putS_size s p
      have h2 := @putS_le s p
      simp only at g1 g2 gs ⊢
      have hp := hput p
      have hls' : ∀ x, x ∈ ls ++ [p] → 1 ≤ x.size := fun x hx => by
        rcases List.mem_append.1 hx with hx | hx
        · exact hls x hx
        · rw [List.mem_singleton] at hx; rw [hx]; exact gs.1
      rw [Bool.not_true, cond_false, if_neg (by simp), ← hp, grd_pos (by simp; omega), i_JoinLabels_eq (by simp; omega) (by rw [hp]; omega), bnd1_mk]
      rw [← hp] at h1 h2
      rw [i_NameOk_eq (by omega), bnd1_mk]
      cases hn : nameP (joinB (ls ++ [p]) ⟨#[46]⟩) with
      | false => rfl
      | true =>
        have h3 := nameP_size hn
        rw [Bool.not_true, cond_false, if_pos rfl]
        exact i_walk_eq hb hl fl (m - 1) _ _ _ _ _ (by omega) (.inr (.inr (by omega))) hls' (by omega) (by simp only [i64]; omega) (by omega) (by omega)

/-- What is read at a place. -/
def readF (b : List Int) (i : Int) : ByteArray × Int × Int × Int := walkF b fuel0 i ⟨#[]⟩ (-1) i 0

theorem s_l4Walk_eq {b : List Int} {i : Int} (hb : ∀ x, x ∈ b → 0 ≤ x ∧ x < 256) (hl : b.length ≤ 1048576) (hi : i64 i) : s_l4Walk b i = some (readF b i) := by
  unfold s_l4Walk readF
  have h0 : (⟨#[]⟩ : ByteArray).size = 0 := rfl
  exact s_walk_eq hb hl fuel0 1048700 i _ _ _ _ (by unfold fuel0; omega) (by omega) (by omega) hi (by omega) (by omega)

theorem i_read_eq {b : List Int} {i : Int} (hb : ∀ x, x ∈ b → 0 ≤ x ∧ x < 256) (hl : b.length ≤ 1048576) (hi : i64 i) : i_read b i = some (readF b i) := by
  unfold i_read readF
  have h0 : (joinB [] ⟨#[46]⟩).size = 0 := by rw [joinB_nil]; rfl
  have := i_walk_eq hb hl fuel0 1048700 [] (-1) i 0 i (by unfold fuel0; omega) (by omega) (fun x hx => by cases hx) (by omega) hi (by omega) (by omega)
  rw [joinB_nil] at this
  exact this

def nameAt (b : List Int) (i : Int) : ByteArray × Int × Int := ((readF b i).1, (readF b i).2.1, (readF b i).2.2.1)

theorem s_GetName_eq {b : List Int} {i : Int} (hb : ∀ x, x ∈ b → 0 ≤ x ∧ x < 256) (hl : b.length ≤ 1048576) (hi : i64 i) : s_GetName b i = some (nameAt b i) := by
  unfold s_GetName nameAt
  rw [s_l4Walk_eq hb hl hi]; rfl

theorem i_GetName_eq {b : List Int} {i : Int} (hb : ∀ x, x ∈ b → 0 ≤ x ∧ x < 256) (hl : b.length ≤ 1048576) (hi : i64 i) : i_GetName b i = some (nameAt b i) := by
  unfold i_GetName nameAt
  rw [i_read_eq hb hl hi]; rfl

/-- What is read is short, and its end is no place beyond. -/
theorem walkF_p {b : List Int} (hb : ∀ x, x ∈ b → 0 ≤ x ∧ x < 256) (hl : b.length ≤ 1048576) : ∀ (fl : Nat) (at' : Int) (s : ByteArray) (nx bg j : Int), s.size ≤ 50 → (-1 ≤ nx ∧ nx ≤ (b.length : Int)) → (walkF b fl at' s nx bg j).1.size ≤ 50 ∧ 0 ≤ (walkF b fl at' s nx bg j).2.1 ∧ (walkF b fl at' s nx bg j).2.1 ≤ (b.length : Int)
  | 0, at', s, nx, bg, j, hs, hn => ⟨by show (0 : Nat) ≤ 50; omega, by show (0 : Int) ≤ 0; omega, by show (0 : Int) ≤ _; omega⟩
  | fl + 1, at', s, nx, bg, j, hs, hn => by
    have z : ∀ k : Int, ((⟨#[]⟩ : ByteArray), (0 : Int), k, j).1.size ≤ 50 ∧ 0 ≤ ((⟨#[]⟩ : ByteArray), (0 : Int), k, j).2.1 ∧ ((⟨#[]⟩ : ByteArray), (0 : Int), k, j).2.1 ≤ (b.length : Int) := fun k => ⟨by show (0 : Nat) ≤ 50; omega, by show (0 : Int) ≤ 0; omega, by show (0 : Int) ≤ _; omega⟩
    rw [walkF]
    by_cases c1 : at' < 0 ∨ (b.length : Int) ≤ at'
    · rw [if_pos c1]; exact z 1
    rw [if_neg c1]
    have hg := @getLabel_ok b at' hb
    by_cases c3 : b.getD at'.toNat 0 = 0
    · rw [if_pos c3]
      refine ⟨hs, ?_, ?_⟩ <;> (show _ ≤ _; simp only; split <;> omega)
    rw [if_neg c3]
    by_cases c5 : 192 ≤ b.getD at'.toNat 0
    · rw [if_pos c5]
      by_cases c6 : (b.length : Int) ≤ at' + 1
      · rw [if_pos c6]; exact z 1
      rw [if_neg c6]
      by_cases c7 : bg ≤ 256 * (b.getD at'.toNat 0 - 192) + b.getD (at' + 1).toNat 0
      · rw [if_pos c7]; exact z 3
      rw [if_neg c7]
      exact walkF_p hb hl fl _ _ _ _ _ hs (by split <;> omega)
    rw [if_neg c5]
    by_cases c10 : 12 < b.getD at'.toNat 0
    · rw [if_pos c10]; exact z 2
    rw [if_neg c10]
    by_cases c11 : (b.length : Int) - at' ≤ b.getD at'.toNat 0
    · rw [if_pos c11]; exact z 1
    rw [if_neg c11]
    by_cases c12 : (getLabel b at').2.2 = false
    · rw [if_pos c12]; exact z 2
    rw [if_neg c12]
    by_cases c13 : nameP (if s = ⟨#[]⟩ then (getLabel b at').1 else (s ++ ⟨#[46]⟩) ++ (getLabel b at').1) = true
    · rw [if_pos c13]
      exact walkF_p hb hl fl _ _ _ _ _ (nameP_size c13) hn
    · rw [if_neg c13]; exact z 4

theorem nameAt_p {b : List Int} {i : Int} (hb : ∀ x, x ∈ b → 0 ≤ x ∧ x < 256) (hl : b.length ≤ 1048576) : (nameAt b i).1.size ≤ 50 ∧ 0 ≤ (nameAt b i).2.1 ∧ (nameAt b i).2.1 ≤ (b.length : Int) := walkF_p hb hl fuel0 i ⟨#[]⟩ (-1) i 0 (by show (0 : Nat) ≤ 50; omega) (by omega)

def two (b : List Int) (i : Int) : Int × Bool := if i < 0 ∨ (b.length : Int) - 2 < i then (0, false) else (256 * b.getD i.toNat 0 + b.getD (i + 1).toNat 0, true)

theorem s_Get2_eq {b : List Int} {i : Int} (hb : ∀ x, x ∈ b → 0 ≤ x ∧ x < 256) (hl : b.length ≤ 1048576) : s_Get2 b i = some (two b i) := by
  unfold s_Get2 s_Get2_j0 two
  by_cases c1 : i < 0
  · rw [decide_eq_true c1, if_pos (.inl c1)]; rfl
  rw [decide_eq_false c1, cond_false, grd_pos (by simp only [i64]; omega)]
  by_cases c2 : (b.length : Int) - 2 < i
  · rw [decide_eq_true c2, if_pos (.inr c2)]; rfl
  have h1 := getD_rng hb i.toNat
  have h2 := getD_rng hb (i + 1).toNat
  rw [decide_eq_false c2, cond_false, if_neg (by omega), idx_gd (by omega) (by omega), bnd1_mk, grd_pos (by simp only [i64]; omega), idx_gd (by omega) (by omega), bnd1_mk]
  generalize b.getD i.toNat 0 = x at h1 ⊢
  generalize b.getD (i + 1).toNat 0 = y at h2 ⊢
  have e : ishl .i64 x 8 = 256 * x := by
    unfold ishl
    rw [show min 8 (IntKind.i64).bits = 8 from rfl, wrap_id (by omega)]; omega
  rw [wrap_id (by omega), wrap_id (by omega), e, ior_add 8 (by omega) (by omega) (by omega) (by omega) (by omega) (by omega)]

theorem getD_at {b : List Int} {i : Nat} (h : i < b.length) : b.getD i 0 = b[i] := by
  rw [List.getD_eq_getElem?_getD, List.getElem?_eq_getElem h]; rfl

theorem take2 {b : List Int} {i : Nat} (h : i + 2 ≤ b.length) : (b.drop i).take 2 = [b.getD i 0, b.getD (i + 1) 0] := by
  rw [getD_at (by omega), getD_at (by omega), List.drop_eq_getElem_cons (by omega), List.take_succ_cons, List.drop_eq_getElem_cons (by omega), List.take_succ_cons, List.take_zero]

theorem i_Get2_eq {b : List Int} {i : Int} (hb : ∀ x, x ∈ b → 0 ≤ x ∧ x < 256) (hl : b.length ≤ 1048576) : i_Get2 b i = some (two b i) := by
  unfold i_Get2 i_getBytes i_getBytes_j0 two
  by_cases c1 : i < 0
  · rw [decide_eq_true c1, if_pos (.inl c1)]; rfl
  rw [decide_eq_false c1, cond_false, grd_pos (by simp only [i64]; omega)]
  by_cases c2 : (b.length : Int) - 2 < i
  · rw [decide_eq_true c2, if_pos (.inr c2)]; rfl
  have h1 := getD_rng hb i.toNat
  have h2 := getD_rng hb (i + 1).toNat
  have e1 : (i + 1).toNat = i.toNat + 1 := by omega
  have e2 : (i + 2).toNat - i.toNat = 2 := by omega
  rw [e1] at h2 ⊢
  rw [decide_eq_false c2, cond_false, if_neg (by omega), grd_pos (by simp only [i64]; omega), grd_pos (by omega), e2, take2 (by omega)]
  generalize b.getD i.toNat 0 = x at h1 ⊢
  generalize b.getD (i.toNat + 1) 0 = y at h2 ⊢
  rw [i_getBytes_l2, wrap_id (by omega), grd_pos (by simp only [i64]; omega), grd_pos (by simp only [i64]; omega), i_getBytes_l2, wrap_id (by omega), grd_pos (by simp only [i64]; omega), grd_pos (by simp only [i64]; omega), i_getBytes_l2]
  unfold i_getBytes_j1
  rw [decide_eq_false (by omega)]
  show some (256 * (256 * 0 + x) + y, true) = _
  rw [show 256 * (256 * 0 + x) + y = 256 * x + y by omega]

theorem getQuest_same {b : List Int} {i : Int} (hb : ∀ x, x ∈ b → 0 ≤ x ∧ x < 256) (hl : b.length ≤ 1048576) (hi : i64 i) : ∃ r, s_GetQuest b i = some r ∧ i_GetQuest b i = some r := by
  unfold s_GetQuest i_GetQuest
  rw [s_GetName_eq hb hl hi, i_GetName_eq hb hl hi]
  obtain ⟨h1, h2, h3⟩ := @nameAt_p b i hb hl
  generalize nameAt b i = x at h1 h2 h3
  obtain ⟨s, p, k⟩ := x
  simp only at h1 h2 h3
  rw [bnd3_mk, bnd3_mk]
  by_cases c : k = 0
  · rw [decide_eq_true c, Bool.not_true, cond_false, cond_false, grd_pos (by simp only [i64]; omega), grd_pos (by simp only [i64]; omega)]
    by_cases c2 : (b.length : Int) - 4 < p
    · rw [decide_eq_true c2, decide_eq_true (show (b.length : Int) - p < 4 by omega), cond_true, cond_true]; exact ⟨_, rfl, rfl⟩
    · rw [decide_eq_false c2, decide_eq_false (show ¬ (b.length : Int) - p < 4 by omega), cond_false, cond_false, s_Get2_eq hb hl, i_Get2_eq hb hl]
      generalize two b p = t
      obtain ⟨t1, t2⟩ := t
      rw [bnd2_mk, bnd2_mk, grd_pos (by simp only [i64]; omega), grd_pos (by simp only [i64]; omega), s_Get2_eq hb hl, i_Get2_eq hb hl]
      generalize two b (p + 2) = u
      obtain ⟨u1, u2⟩ := u
      rw [bnd2_mk, bnd2_mk, s_QuestOk_eq (show Quest.sm ⟨s, t1⟩ from by show s.size ≤ _; omega), i_QuestOk_eq (show Quest.sm ⟨s, t1⟩ from by show s.size ≤ _; omega), bnd1_mk, bnd1_mk]
      unfold s_GetQuest_j0 i_GetQuest_j0
      rw [grd_pos (by simp only [i64]; omega)]
      cases questP ⟨s, t1⟩ <;> cases decide (u1 = 1) <;> exact ⟨_, rfl, rfl⟩
  · rw [decide_eq_false c, Bool.not_false, cond_true, cond_true]; exact ⟨_, rfl, rfl⟩

theorem w_toByteS_l0_eq : ∀ (t pre : List Int) (m : List Int), m.length = t.length → w_toByteS_l0 t (pre ++ m) pre.length = some (pre ++ t)
  | [], pre, m, h => by rw [List.length_eq_zero_iff.1 h]; rfl
  | x :: t, pre, m, h => by
    cases m with
    | nil => cases h
    | cons y m =>
      have := w_toByteS_l0_eq t (pre ++ [x]) m (by simpa using h)
      simp only [List.length_append, List.length_singleton, List.append_assoc, List.singleton_append] at this
      rw [w_toByteS_l0, idx_nat, get_app, bnd1_mk, Int.toNat_natCast, set_app]
      exact this

theorem w_toByteS_eq {b : List Int} (h : b.length ≤ 1048576) : w_toByteS b = some b := by
  unfold w_toByteS
  rw [grd_pos (by omega)]
  have := w_toByteS_l0_eq b [] (List.replicate (b.length : Int).toNat 0) (by simp)
  simpa using this

theorem w_eqByteS_l0_self : ∀ (t pre : List Int), w_eqByteS_l0 (pre ++ t) t pre.length = some true
  | [], pre => rfl
  | x :: t, pre => by
    have := w_eqByteS_l0_self t (pre ++ [x])
    simp only [List.length_append, List.length_singleton, List.append_assoc, List.singleton_append] at this
    rw [w_eqByteS_l0, idx_nat, get_app, bnd1_mk, this]
    simp

theorem w_eqByteS_self {l : List Int} : w_eqByteS l l = some true := by
  have := w_eqByteS_l0_self l []
  unfold w_eqByteS
  simpa using this

def four (b : List Int) (i : Int) : Int × Bool :=
  if i < 0 ∨ (b.length : Int) - 4 < i then (0, false) else
  if 2147483647 < 256 * (256 * (256 * b.getD i.toNat 0 + b.getD (i + 1).toNat 0) + b.getD (i + 2).toNat 0) + b.getD (i + 3).toNat 0 then (0, false) else
  (256 * (256 * (256 * b.getD i.toNat 0 + b.getD (i + 1).toNat 0) + b.getD (i + 2).toNat 0) + b.getD (i + 3).toNat 0, true)

theorem ishl_mul {a : Int} (k : Nat) (hk : k ≤ 24) (ha : 0 ≤ a) (ha2 : a < 256) : ishl .i64 a k = a * 2 ^ k := by
  have h2 : (2 : Int) ^ k ≤ 2 ^ 24 := by exact_mod_cast Nat.pow_le_pow_right (by omega) hk
  have h3 : (0 : Int) < 2 ^ k := by exact_mod_cast Nat.pow_pos (n := k) (show 0 < 2 by omega)
  have h4 : a * 2 ^ k ≤ 256 * 2 ^ 24 := Int.mul_le_mul (by omega) h2 (by omega) (by omega)
  have h5 : 0 ≤ a * 2 ^ k := Int.mul_nonneg ha (by omega)
  unfold ishl
  rw [show min k (IntKind.i64).bits = k from Nat.min_eq_left (by show k ≤ 64; omega), wrap_id (by omega)]

theorem s_Get4_eq {b : List Int} {i : Int} (hb : ∀ x, x ∈ b → 0 ≤ x ∧ x < 256) (hl : b.length ≤ 1048576) : s_Get4 b i = some (four b i) := by
  unfold s_Get4 s_Get4_j0 four
  by_cases c1 : i < 0
  · rw [decide_eq_true c1, if_pos (.inl c1)]; rfl
  rw [decide_eq_false c1, cond_false, grd_pos (by simp only [i64]; omega)]
  by_cases c2 : (b.length : Int) - 4 < i
  · rw [decide_eq_true c2, if_pos (.inr c2)]; rfl
  have h1 := getD_rng hb i.toNat
  have h2 := getD_rng hb (i + 1).toNat
  have h3 := getD_rng hb (i + 2).toNat
  have h4 := getD_rng hb (i + 3).toNat
  rw [decide_eq_false c2, cond_false, if_neg (by omega), idx_gd (by omega) (by omega), bnd1_mk, grd_pos (by simp only [i64]; omega), idx_gd (by omega) (by omega), bnd1_mk, grd_pos (by simp only [i64]; omega), idx_gd (by omega) (by omega), bnd1_mk, grd_pos (by simp only [i64]; omega), idx_gd (by omega) (by omega), bnd1_mk]
  generalize b.getD i.toNat 0 = x at h1 ⊢
  generalize b.getD (i + 1).toNat 0 = y at h2 ⊢
  generalize b.getD (i + 2).toNat 0 = z at h3 ⊢
  generalize b.getD (i + 3).toNat 0 = w at h4 ⊢
  rw [wrap_id (by omega), wrap_id (by omega), wrap_id (by omega), wrap_id (by omega), ishl_mul 24 (by omega) (by omega) (by omega), ishl_mul 16 (by omega) (by omega) (by omega), ishl_mul 8 (by omega) (by omega) (by omega),
    ior_add (a := x * 2 ^ 24) (b := y * 2 ^ 16) 24 (by omega) (by omega) (by omega) (by omega) (by omega) (by omega), ior_add (a := x * 2 ^ 24 + y * 2 ^ 16) (b := z * 2 ^ 8) 16 (by omega) (by omega) (by omega) (by omega) (by omega) (by omega), ior_add (a := x * 2 ^ 24 + y * 2 ^ 16 + z * 2 ^ 8) (b := w) 8 (by omega) (by omega) (by omega) (by omega) (by omega) (by omega),
    show x * 2 ^ 24 + y * 2 ^ 16 + z * 2 ^ 8 + w = 256 * (256 * (256 * x + y) + z) + w by omega]
  by_cases c3 : 2147483647 < 256 * (256 * (256 * x + y) + z) + w
  · rw [decide_eq_true c3, if_pos c3]; rfl
  · rw [decide_eq_false c3, if_neg c3]; rfl

theorem take4 {b : List Int} {i : Nat} (h : i + 4 ≤ b.length) : (b.drop i).take 4 = [b.getD i 0, b.getD (i + 1) 0, b.getD (i + 2) 0, b.getD (i + 3) 0] := by
  rw [getD_at (by omega), getD_at (by omega), getD_at (by omega), getD_at (by omega), List.drop_eq_getElem_cons (by omega), List.take_succ_cons, List.drop_eq_getElem_cons (by omega), List.take_succ_cons, List.drop_eq_getElem_cons (by omega), List.take_succ_cons, List.drop_eq_getElem_cons (by omega), List.take_succ_cons, List.take_zero]

theorem i_Get4_eq {b : List Int} {i : Int} (hb : ∀ x, x ∈ b → 0 ≤ x ∧ x < 256) (hl : b.length ≤ 1048576) : i_Get4 b i = some (four b i) := by
  unfold i_Get4 i_getBytes i_getBytes_j0 four
  by_cases c1 : i < 0
  · rw [decide_eq_true c1, if_pos (.inl c1)]; rfl
  rw [decide_eq_false c1, cond_false, grd_pos (by simp only [i64]; omega)]
  by_cases c2 : (b.length : Int) - 4 < i
  · rw [decide_eq_true c2, if_pos (.inr c2)]; rfl
  have h1 := getD_rng hb i.toNat
  have h2 := getD_rng hb (i + 1).toNat
  have h3 := getD_rng hb (i + 2).toNat
  have h4 := getD_rng hb (i + 3).toNat
  have e1 : (i + 1).toNat = i.toNat + 1 := by omega
  have e3 : (i + 2).toNat = i.toNat + 2 := by omega
  have e4 : (i + 3).toNat = i.toNat + 3 := by omega
  have e2 : (i + 4).toNat - i.toNat = 4 := by omega
  rw [e1] at h2 ⊢
  rw [e3] at h3 ⊢
  rw [e4] at h4 ⊢
  rw [decide_eq_false c2, cond_false, if_neg (by omega), grd_pos (by simp only [i64]; omega), grd_pos (by omega), e2, take4 (by omega)]
  generalize b.getD i.toNat 0 = x at h1 ⊢
  generalize b.getD (i.toNat + 1) 0 = y at h2 ⊢
  generalize b.getD (i.toNat + 2) 0 = z at h3 ⊢
  generalize b.getD (i.toNat + 3) 0 = w at h4 ⊢
  rw [i_getBytes_l2, wrap_id (by omega), grd_pos (by simp only [i64]; omega), grd_pos (by simp only [i64]; omega), i_getBytes_l2, wrap_id (by omega), grd_pos (by simp only [i64]; omega), grd_pos (by simp only [i64]; omega),
    i_getBytes_l2, wrap_id (by omega), grd_pos (by simp only [i64]; omega), grd_pos (by simp only [i64]; omega), i_getBytes_l2, wrap_id (by omega), grd_pos (by simp only [i64]; omega), grd_pos (by simp only [i64]; omega), i_getBytes_l2]
  unfold i_getBytes_j1
  rw [show 256 * (256 * (256 * (256 * 0 + x) + y) + z) + w = 256 * (256 * (256 * x + y) + z) + w by omega]
  by_cases c3 : 2147483647 < 256 * (256 * (256 * x + y) + z) + w
  · rw [decide_eq_true c3, if_pos c3]; rfl
  · rw [decide_eq_false c3, if_neg c3]; rfl

theorem bits_hd : ∀ x : Fin 256, decide (iand .u8 (x.val : Int) 120 = 0) = decide (iandNot .i64 (x.val : Int) 135 = 0) ∧ decide (iand .u8 (x.val : Int) 112 = 0) = decide (iandNot .i64 (x.val : Int) 143 = 0) ∧ decide (iand .u8 (x.val : Int) 128 = 0) = decide (iand .i64 (x.val : Int) 128 = 0) ∧ decide (iand .u8 (x.val : Int) 4 = 0) = decide (iand .i64 (x.val : Int) 4 = 0) ∧
    decide (iand .u8 (x.val : Int) 2 = 0) = decide (iand .i64 (x.val : Int) 2 = 0) ∧ decide (iand .u8 (x.val : Int) 1 = 0) = decide (iand .i64 (x.val : Int) 1 = 0) ∧ IntKind.i64.wrap (iand .u8 (x.val : Int) 15) = iand .i64 (x.val : Int) 15 := by decide +kernel

theorem bits_hd' {x : Int} (h : 0 ≤ x ∧ x < 256) : decide (iand .u8 x 120 = 0) = decide (iandNot .i64 x 135 = 0) ∧ decide (iand .u8 x 112 = 0) = decide (iandNot .i64 x 143 = 0) ∧ decide (iand .u8 x 128 = 0) = decide (iand .i64 x 128 = 0) ∧ decide (iand .u8 x 4 = 0) = decide (iand .i64 x 4 = 0) ∧
    decide (iand .u8 x 2 = 0) = decide (iand .i64 x 2 = 0) ∧ decide (iand .u8 x 1 = 0) = decide (iand .i64 x 1 = 0) ∧ IntKind.i64.wrap (iand .u8 x 15) = iand .i64 x 15 := by
  have := bits_hd ⟨x.toNat, by omega⟩
  rw [show ((⟨x.toNat, by omega⟩ : Fin 256).val : Int) = x from by show (x.toNat : Int) = x; omega] at this
  exact this

theorem getHead_same {b : List Int} (hb : ∀ x, x ∈ b → 0 ≤ x ∧ x < 256) (hl : b.length ≤ 1048576) : ∃ r, s_GetHead b = some r ∧ i_GetHead b = some r ∧ r.1.an = [] ∧ r.1.au = [] ∧ r.1.ad = [] := by
  unfold s_GetHead i_GetHead
  by_cases c : (b.length : Int) < 12
  · rw [decide_eq_true c, cond_true, cond_true]; exact ⟨_, rfl, rfl, rfl, rfl, rfl⟩
  have h2 := getD_rng hb (2 : Int).toNat
  have h3 := getD_rng hb (3 : Int).toNat
  rw [decide_eq_false c, cond_false, cond_false, idx_gd (i := 2) (by omega) (by omega), bnd1_mk, bnd1_mk, idx_gd (i := 3) (by omega) (by omega), bnd1_mk, bnd1_mk]
  obtain ⟨x1, x2, x3, x4, x5, x6, x7⟩ := bits_hd' h2
  obtain ⟨y1, y2, y3, y4, y5, y6, y7⟩ := bits_hd' h3
  unfold s_GetHead_j0 i_GetHead_j0
  simp only [s_Get2_eq hb hl, i_Get2_eq hb hl]
  rw [idx_gd (i := 2) (by omega) (by omega), idx_gd (i := 3) (by omega) (by omega)]
  simp only [bnd1_mk]
  rw [wrap_id (x := b.getD (2 : Int).toNat 0) (by omega), wrap_id (x := b.getD (3 : Int).toNat 0) (by omega), x1, x3, x4, x5, x6, y2, y3, y7]
  generalize b.getD (2 : Int).toNat 0 = x at h2 ⊢
  generalize b.getD (3 : Int).toNat 0 = y at h3 ⊢
  generalize two b 0 = t0
  generalize two b 4 = t4
  generalize two b 6 = t6
  generalize two b 8 = t8
  generalize two b 10 = t10
  obtain ⟨t0, u0⟩ := t0
  obtain ⟨t4, u4⟩ := t4
  obtain ⟨t6, u6⟩ := t6
  obtain ⟨t8, u8⟩ := t8
  obtain ⟨t10, u10⟩ := t10
  simp only [bnd2_mk]
  cases decide (iandNot .i64 x 135 = 0) <;> cases decide (iandNot .i64 y 143 = 0) <;> cases decide (t4 = 1) <;> exact ⟨_, rfl, rfl, rfl, rfl, rfl⟩

/-- What a record's data hold: short texts. -/
def datP (r : Rec) : Prop := r.host.size ≤ 50 ∧ r.text.size ≤ 255

theorem getData_same {b : List Int} {i n t : Int} (hb : ∀ x, x ∈ b → 0 ≤ x ∧ x < 256) (hl : b.length ≤ 1048576) (hi : i64 i) : ∃ r, s_GetData b i n t = some r ∧ i_GetData b i n t = some r ∧ datP r.1 := by
  have z0 : datP (Rec.mk (⟨#[]⟩ : ByteArray) 0 0 0 (⟨#[]⟩ : ByteArray) (⟨#[]⟩ : ByteArray)) := ⟨by show (0 : Nat) ≤ 50; omega, by show (0 : Nat) ≤ 255; omega⟩
  have nil0 : (⟨#[]⟩ : ByteArray).size = 0 := rfl
  unfold s_GetData i_GetData s_GetData_j0 i_GetData_j0
  rw [s_l1In_eq, bnd1_mk, s_TypeOk_eq, bnd1_mk]
  by_cases c1 : n < 0
  · rw [decide_eq_true c1, decide_eq_false (show ¬ 0 ≤ n by omega)]
    exact ⟨_, rfl, rfl, z0⟩
  rw [decide_eq_false c1, decide_eq_true (show 0 ≤ n by omega)]
  by_cases c2 : 255 < n
  · rw [decide_eq_true c2, decide_eq_false (show ¬ n ≤ 255 by omega)]
    exact ⟨_, rfl, rfl, z0⟩
  rw [decide_eq_false c2, decide_eq_true (show n ≤ 255 by omega)]
  simp only [i64] at hi
  have hln : i64 ((b.length : Int) - n) := by simp only [i64]; omega
  simp only [Bool.and_true, Bool.not_true, cond_false, cond_true, bnd1_mk, grd_pos hln]
  unfold i_GetData_j1
  rw [i_TypeOk_eq, bnd1_mk]
  unfold s_GetData_j2 s_GetData_j1
  by_cases c3 : i < 0
  · rw [decide_eq_true c3]
    cases typeP t <;> exact ⟨_, rfl, rfl, z0⟩
  rw [decide_eq_false c3, cond_false, cond_false, cond_false]
  by_cases c4 : (b.length : Int) - n < i
  · rw [decide_eq_true c4]
    cases typeP t <;> exact ⟨_, rfl, rfl, z0⟩
  rw [decide_eq_false c4, cond_false, cond_false, cond_false]
  have hin : i64 (i + n) := by simp only [i64]; omega
  cases typeP t with
  | false => exact ⟨_, rfl, rfl, z0⟩
  | true =>
    rw [Bool.not_true, cond_false, cond_false, grd_pos (by simp only [i64]; omega)]
    by_cases c5 : t = 1
    · rw [decide_eq_true c5, cond_true, cond_true, s_Get4_eq hb hl, i_Get4_eq hb hl]
      generalize four b i = v
      obtain ⟨v, ok⟩ := v
      rw [bnd2_mk, bnd2_mk, grd_pos (by simp only [i64]; omega)]
      unfold i_GetData_j2 i_GetData_j3 s_GetData_j3
      cases ok with
      | false => exact ⟨_, rfl, rfl, z0⟩
      | true =>
        rw [grd_pos (by simp only [i64]; omega)]
        by_cases c6 : n = 4
        · rw [decide_eq_true c6, decide_eq_true (show i + 4 = i + n by omega)]; exact ⟨_, rfl, rfl, ⟨by show (0 : Nat) ≤ 50; omega, by show (0 : Nat) ≤ 255; omega⟩⟩
        · rw [decide_eq_false c6, decide_eq_false (show ¬ i + 4 = i + n by omega)]; exact ⟨_, rfl, rfl, z0⟩
    rw [decide_eq_false c5, cond_false, cond_false]
    by_cases c6 : t = 16
    · rw [decide_eq_true c6, cond_true, cond_true]
      by_cases c7 : n = 0
      · rw [decide_eq_true c7, decide_eq_true (show n < 1 by omega)]; exact ⟨_, rfl, rfl, z0⟩
      have hx := getD_rng hb i.toNat
      rw [decide_eq_false c7, decide_eq_false (show ¬ n < 1 by omega), cond_false, cond_false, idx_gd (by omega) (by omega), bnd1_mk, bnd1_mk]
      generalize b.getD i.toNat 0 = x at hx ⊢
      rw [wrap_id (by omega), grd_pos (by simp only [i64]; omega), grd_pos (by simp only [i64]; omega), grd_pos (by simp only [i64]; omega), grd_pos (by simp only [i64]; omega)]
      unfold s_GetData_j4 i_GetData_j2 i_GetData_j3
      by_cases c8 : x = n - 1
      · rw [decide_eq_true c8, decide_eq_true (show i + (1 + x) = i + n by omega), Bool.not_true, cond_false, cond_true, show i + (1 + x) = i + n by omega, grd_pos (by first | omega | (simp only [i64]; omega)), grd_pos (by first | omega | (simp only [i64]; omega)), grd_pos (by first | omega | (simp only [i64]; omega)), grd_pos (by first | omega | (simp only [i64]; omega))]
        have hs : (strOfNums ((b.drop (i + 1).toNat).take ((i + n).toNat - (i + 1).toNat))).size ≤ 255 := by rw [strOfNums_size, List.length_take]; omega
        generalize strOfNums ((b.drop (i + 1).toNat).take ((i + n).toNat - (i + 1).toNat)) = s at hs ⊢
        rw [s_l5Text_eq (by omega), i_isText_eq (by omega), bnd1_mk, bnd1_mk, grd_pos (by simp only [i64]; omega)]
        cases textP s with
        | false => exact ⟨_, rfl, rfl, z0⟩
        | true => exact ⟨_, rfl, rfl, ⟨by show (0 : Nat) ≤ 50; omega, hs⟩⟩
      · rw [decide_eq_false c8, decide_eq_false (show ¬ i + (1 + x) = i + n by omega)]; simp only [grd_pos hin]; exact ⟨_, rfl, rfl, z0⟩
    rw [decide_eq_false c6, cond_false, cond_false, s_GetName_eq hb hl (by simp only [i64]; omega), i_GetName_eq hb hl (by simp only [i64]; omega)]
    obtain ⟨h1, h2, h3⟩ := @nameAt_p b i hb hl
    generalize nameAt b i = x at h1 h2 h3
    obtain ⟨s, p, k⟩ := x
    simp only at h1 h2 h3
    rw [bnd3_mk, bnd3_mk]
    by_cases c7 : k = 0
    · rw [decide_eq_true c7, Bool.not_true, cond_false, cond_false]
      by_cases c8 : t = 6
      · rw [decide_eq_true c8, cond_true, cond_true, s_Get4_eq hb hl, i_Get4_eq hb hl]
        generalize four b p = v
        obtain ⟨v, ok⟩ := v
        rw [bnd2_mk, bnd2_mk, grd_pos (by simp only [i64]; omega)]
        unfold i_GetData_j2 i_GetData_j3 s_GetData_j5
        rw [grd_pos (show i64 (p + 4) by simp only [i64]; omega)]
        simp only [grd_pos hin]
        cases ok with
        | false => exact ⟨_, rfl, rfl, z0⟩
        | true => cases decide (p + 4 = i + n) with
          | false => exact ⟨_, rfl, rfl, z0⟩
          | true => exact ⟨_, rfl, rfl, ⟨h1, by show (0 : Nat) ≤ 255; omega⟩⟩
      · rw [decide_eq_false c8, cond_false, cond_false]
        unfold i_GetData_j2 i_GetData_j3 s_GetData_j5
        rw [grd_pos (by simp only [i64]; omega)]
        cases decide (p = i + n) with
        | false => exact ⟨_, rfl, rfl, z0⟩
        | true => exact ⟨_, rfl, rfl, ⟨h1, by show (0 : Nat) ≤ 255; omega⟩⟩
    · rw [decide_eq_false c7, Bool.not_false, cond_true, cond_true]; exact ⟨_, rfl, rfl, z0⟩

theorem two_rng {b : List Int} {i : Int} (hb : ∀ x, x ∈ b → 0 ≤ x ∧ x < 256) : 0 ≤ (two b i).1 ∧ (two b i).1 < 65536 := by
  have h1 := getD_rng hb i.toNat
  have h2 := getD_rng hb (i + 1).toNat
  unfold two
  split
  · exact ⟨by show (0 : Int) ≤ 0; omega, by show (0 : Int) < 65536; omega⟩
  · exact ⟨by show 0 ≤ 256 * b.getD i.toNat 0 + b.getD (i + 1).toNat 0; omega, by show 256 * b.getD i.toNat 0 + b.getD (i + 1).toNat 0 < 65536; omega⟩

theorem getRecord_same {b : List Int} {i : Int} (hb : ∀ x, x ∈ b → 0 ≤ x ∧ x < 256) (hl : b.length ≤ 1048576) (hi : i64 i) : ∃ r, s_GetRecord b i = some r ∧ i_GetRecord b i = some r ∧ i64 r.2.1 := by
  have z0 : i64 0 := by simp only [i64]; omega
  unfold s_GetRecord i_GetRecord
  rw [s_GetName_eq hb hl hi, i_GetName_eq hb hl hi]
  obtain ⟨h1, h2, h3⟩ := @nameAt_p b i hb hl
  generalize nameAt b i = x at h1 h2 h3
  obtain ⟨s, p, k⟩ := x
  simp only at h1 h2 h3
  rw [bnd3_mk, bnd3_mk]
  by_cases c : k = 0
  · rw [decide_eq_true c, Bool.not_true, cond_false, cond_false, grd_pos (by simp only [i64]; omega), grd_pos (by simp only [i64]; omega)]
    by_cases c2 : (b.length : Int) - 10 < p
    · rw [decide_eq_true c2, decide_eq_true (show (b.length : Int) - p < 10 by omega), cond_true, cond_true]; exact ⟨_, rfl, rfl, z0⟩
    · have r8 := @two_rng b (p + 8) hb
      rw [decide_eq_false c2, decide_eq_false (show ¬ (b.length : Int) - p < 10 by omega), cond_false, cond_false]
      simp only [s_Get2_eq hb hl, i_Get2_eq hb hl, s_Get4_eq hb hl, i_Get4_eq hb hl]
      generalize two b p = t
      generalize two b (p + 2) = u
      generalize four b (p + 4) = v
      generalize two b (p + 8) = w at r8
      obtain ⟨t1, t2⟩ := t
      obtain ⟨u1, u2⟩ := u
      obtain ⟨v1, v2⟩ := v
      obtain ⟨w1, w2⟩ := w
      obtain ⟨g, g1, g2, g3, g4⟩ := getData_same (n := w1) (t := t1) hb hl (show i64 (p + 10) by simp only [i64]; omega)
      simp only at r8
      simp only [bnd2_mk, g1, g2]
      obtain ⟨d, e⟩ := g
      simp only at g3 g4
      simp only [bnd2_mk]
      have hsm : Rec.sm ⟨s, d.ty, v1, d.n, d.host, d.text⟩ := ⟨by show s.size ≤ _; omega, by show d.host.size ≤ _; omega, by show d.text.size ≤ _; omega⟩
      rw [s_RecordOk_eq hsm, i_RecordOk_eq hsm]
      unfold s_GetRecord_j0 i_GetRecord_j0
      simp only [grd_pos (show i64 (p + 2) by simp only [i64]; omega), grd_pos (show i64 (p + 4) by simp only [i64]; omega), grd_pos (show i64 (p + 8) by simp only [i64]; omega), grd_pos (show i64 (p + 10) by simp only [i64]; omega), grd_pos (show i64 (p + 10 + w1) by simp only [i64]; omega), bnd1_mk]
      have y0 : i64 (p + 10 + w1) := by simp only [i64]; omega
      cases decide (e = 0) <;> cases v2 <;> cases decide (u1 = 1) <;> cases recP ⟨s, d.ty, v1, d.n, d.host, d.text⟩ <;> first | exact ⟨_, rfl, rfl, z0⟩ | exact ⟨_, rfl, rfl, y0⟩
  · rw [decide_eq_false c, Bool.not_false, cond_true, cond_true]; exact ⟨_, rfl, rfl, z0⟩

theorem getRecords_lo {b : List Int} {n : Int} (hb : ∀ x, x ∈ b → 0 ≤ x ∧ x < 256) (hl : b.length ≤ 1048576) (hn : 0 ≤ n ∧ n ≤ 8) : ∀ (m fl : Nat) (i : Int) (l : List Rec) (k : Int), m < fl → 0 ≤ k → k + m = n → l.length = k.toNat → i64 i →
    ∃ r, s_GetRecords_l0 b n fl i l k = some r ∧ i_GetRecords_l1 b n fl i l k = some r ∧ i64 r.2.1 ∧ r.1.length ≤ 8
  | m, 0, i, l, k, h, _, _, _, _ => by omega
  | 0, fl + 1, i, l, k, h, h0, h1, h2, hi => by
    rw [s_GetRecords_l0, i_GetRecords_l1, decide_eq_false (by omega)]
    exact ⟨_, rfl, rfl, hi, by show l.length ≤ 8; omega⟩
  | m + 1, fl + 1, i, l, k, h, h0, h1, h2, hi => by
    rw [s_GetRecords_l0, i_GetRecords_l1, decide_eq_true (by omega), cond_true, cond_true]
    obtain ⟨⟨r, p, e⟩, g1, g2, g3⟩ := getRecord_same hb hl hi
    rw [g1, g2, bnd3_mk, bnd3_mk]
    by_cases c : e = 0
    · rw [decide_eq_true c, Bool.not_true, cond_false, cond_false, grd_pos (by simp; omega), grd_pos (by simp only [i64]; omega), grd_pos (by simp; omega), grd_pos (by simp only [i64]; omega)]
      exact getRecords_lo hb hl hn m fl p (l ++ [r]) (k + 1) (by omega) (by omega) (by omega) (by simp; omega) g3
    · rw [decide_eq_false c]
      exact ⟨_, rfl, rfl, by show i64 0; simp only [i64]; omega, by show (0 : Nat) ≤ 8; omega⟩

theorem getRecords_same {b : List Int} {i n : Int} (hb : ∀ x, x ∈ b → 0 ≤ x ∧ x < 256) (hl : b.length ≤ 1048576) (hi : i64 i) : ∃ r, s_GetRecords b i n = some r ∧ i_GetRecords b i n = some r ∧ i64 r.2.1 ∧ r.1.length ≤ 8 := by
  have z0 : i64 0 := by simp only [i64]; omega
  unfold s_GetRecords i_GetRecords i_GetRecords_j0
  rw [s_l1In_eq, bnd1_mk]
  by_cases c1 : n < 0
  · rw [decide_eq_true c1, decide_eq_false (show ¬ 0 ≤ n by omega)]
    exact ⟨_, rfl, rfl, z0, by show (0 : Nat) ≤ 8; omega⟩
  rw [decide_eq_false c1, decide_eq_true (show 0 ≤ n by omega)]
  by_cases c2 : 8 < n
  · rw [decide_eq_true c2, decide_eq_false (show ¬ n ≤ 8 by omega)]
    exact ⟨_, rfl, rfl, z0, by show (0 : Nat) ≤ 8; omega⟩
  rw [decide_eq_false c2, decide_eq_true (show n ≤ 8 by omega)]
  exact getRecords_lo hb hl (by omega) n.toNat fuel0 i [] 0 (by unfold fuel0; omega) (by omega) (by omega) rfl hi

theorem getQuest_rng {b : List Int} {i : Int} {r : Quest × Int × Int} (hb : ∀ x, x ∈ b → 0 ≤ x ∧ x < 256) (hl : b.length ≤ 1048576) (hi : i64 i) (h : s_GetQuest b i = some r) : i64 r.2.1 := by
  unfold s_GetQuest at h
  rw [s_GetName_eq hb hl hi] at h
  obtain ⟨h1, h2, h3⟩ := @nameAt_p b i hb hl
  generalize nameAt b i = x at h1 h2 h3 h
  obtain ⟨s, p, k⟩ := x
  simp only at h1 h2 h3
  have z0 : i64 0 := by simp only [i64]; omega
  rw [bnd3_mk] at h
  by_cases c : k = 0
  · rw [decide_eq_true c, Bool.not_true, cond_false, grd_pos (by simp only [i64]; omega)] at h
    by_cases c2 : (b.length : Int) - 4 < p
    · rw [decide_eq_true c2, cond_true] at h; cases h; exact z0
    · rw [decide_eq_false c2, cond_false, s_Get2_eq hb hl, bnd2_mk, grd_pos (by simp only [i64]; omega), s_Get2_eq hb hl, bnd2_mk, s_QuestOk_eq (show Quest.sm ⟨s, _⟩ from by show s.size ≤ _; omega), bnd1_mk] at h
      unfold s_GetQuest_j0 at h
      rw [grd_pos (by simp only [i64]; omega)] at h
      have y0 : i64 (p + 4) := by simp only [i64]; omega
      generalize questP ⟨s, (two b p).1⟩ = q at h
      generalize decide ((two b (p + 2)).1 = 1) = q2 at h
      cases q <;> cases q2 <;> cases h <;> first | exact z0 | exact y0
  · rw [decide_eq_false c, Bool.not_false, cond_true] at h; cases h; exact z0

def lim8 (m : MMsg) : Prop := m.an.length ≤ 8 ∧ m.au.length ≤ 8 ∧ m.ad.length ≤ 8

theorem getMsg_same {b : List Int} (hb : ∀ x, x ∈ b → 0 ≤ x ∧ x < 256) (hl : b.length ≤ 1048576) : ∃ r, s_GetMsg b = some r ∧ i_GetMsg b = some r ∧ lim8 r.1 := by
  have zz : lim8 (MMsg.mk 0 false false false false false 0 (Quest.mk (⟨#[]⟩ : ByteArray) 0) ([] : List Rec) ([] : List Rec) ([] : List Rec)) := ⟨Nat.zero_le _, Nat.zero_le _, Nat.zero_le _⟩
  unfold s_GetMsg i_GetMsg
  obtain ⟨⟨m, x2, x3, x4, ok⟩, h1, h2, h3, h4, h5⟩ := getHead_same hb hl
  simp only at h3 h4 h5
  rw [h1, h2, bnd5_mk, bnd5_mk]
  unfold s_GetMsg_j0 i_GetMsg_j0
  cases ok with
  | false => exact ⟨_, rfl, rfl, zz⟩
  | true =>
    rw [Bool.not_true, cond_false, cond_false]
    cases decide (512 < (b.length : Int)) with
    | true => exact ⟨_, rfl, rfl, zz⟩
    | false =>
      rw [cond_false, cond_false]
      obtain ⟨⟨q, p, k⟩, g1, g2⟩ := getQuest_same (i := 12) hb hl (by simp only [i64]; omega)
      have g3 := getQuest_rng hb hl (by simp only [i64]; omega) g1
      simp only at g3
      rw [g1, g2, bnd3_mk, bnd3_mk]
      unfold i_GetMsg_j1 i_GetMsg_j2 s_GetMsg_j1
      by_cases c1 : k = 0
      · rw [decide_eq_true c1, Bool.not_true, cond_false, cond_true]
        rw [show idx [x2, x3, x4] 0 = some x2 from rfl, show idx [x2, x3, x4] 1 = some x3 from rfl, show idx [x2, x3, x4] 2 = some x4 from rfl, bnd1_mk]
        obtain ⟨⟨a1, p1, k1⟩, u1, u2, u3, u4⟩ := getRecords_same (n := x2) hb hl g3
        simp only at u3 u4
        rw [u1, u2, bnd3_mk, bnd3_mk]
        by_cases c2 : k1 = 0
        · rw [decide_eq_true c2, Bool.not_true, cond_false, cond_true, bnd1_mk]
          obtain ⟨⟨a2, p2, k2⟩, v1, v2, v3, v4⟩ := getRecords_same (n := x3) hb hl u3
          simp only at v3 v4
          rw [v1, v2, bnd3_mk, bnd3_mk]
          by_cases c3 : k2 = 0
          · rw [decide_eq_true c3, Bool.not_true, cond_false, cond_true, bnd1_mk]
            obtain ⟨⟨a3, p3, k3⟩, w1, w2, w3, w4⟩ := getRecords_same (n := x4) hb hl v3
            simp only at w3 w4
            rw [w1, w2, bnd3_mk]
            cases decide (k3 = 0) <;> cases decide (p3 = (b.length : Int)) <;> first | exact ⟨_, rfl, rfl, zz⟩ | exact ⟨_, rfl, rfl, ⟨u4, v4, w4⟩⟩
          · rw [decide_eq_false c3]; exact ⟨_, rfl, rfl, zz⟩
        · rw [decide_eq_false c2]; exact ⟨_, rfl, rfl, zz⟩
      · rw [decide_eq_false c1, Bool.not_false, cond_true]
        simp only [cond_false, decide_eq_false c1, Bool.not_false, cond_true]
        exact ⟨_, rfl, rfl, zz⟩

theorem w_markByteS_l0_p : ∀ (t pre : List Int) (n : Int) (fl : Nat), t.length < fl → 0 ≤ n → n + t.length ≤ 4611686018427387800 → pre.length + t.length ≤ 1099511627776 → ∃ l, w_markByteS_l0 fl (pre ++ t) n (pre.length : Int) = some (n + t.length, pre ++ l) ∧ l.length = t.length
  | [], pre, n, fl, hf, h0, hn, hl => by
    obtain ⟨fl, rfl⟩ : ∃ q, fl = q + 1 := ⟨fl - 1, by simp at hf; omega⟩
    rw [w_markByteS_l0]
    exact ⟨[], by simp, rfl⟩
  | r :: t, pre, n, fl, hf, h0, hn, hl => by
    simp only [List.length_cons] at hf hn hl
    obtain ⟨fl, rfl⟩ : ∃ q, fl = q + 1 := ⟨fl - 1, by omega⟩
    · have c : decide ((pre.length : Int) < ((pre ++ r :: t).length : Int)) = true := by simp; omega
      have e : ((pre.length : Int) + 1) = (((pre ++ [IntKind.u8.wrap n]).length : Nat) : Int) := by simp
      obtain ⟨l, h1, h2⟩ := w_markByteS_l0_p t (pre ++ [IntKind.u8.wrap n]) (n + 1) fl (by omega) (by omega) (by omega) (by simp; omega)
      rw [List.append_assoc, List.singleton_append] at h1
      rw [w_markByteS_l0, c, cond_true, idx_nat, get_app, bnd1_mk, grd_pos (by simp only [i64]; omega), grd_pos (by simp only [i64]; omega), Int.toNat_natCast]
      simp only [set_app]
      rw [e, h1]
      exact ⟨IntKind.u8.wrap n :: l, by simp; omega, by simp [h2]⟩

theorem w_markByteS_p {l : List Int} {n : Int} (h0 : 0 ≤ n) (hn : n + l.length ≤ 4611686018427387800) (hl : l.length ≤ 1099511627776) : ∃ m, w_markByteS l n = some (n + l.length, m) ∧ m.length = l.length := by
  obtain ⟨m, h1, h2⟩ := w_markByteS_l0_p l [] n fuel0 (by unfold fuel0; omega) h0 hn (by simpa using hl)
  exact ⟨m, by simpa [w_markByteS] using h1, h2⟩

theorem law_GetMsg {b : List Int} (hb : b.length ≤ 9223372036854775807 ∧ ∀ q, q ∈ b → 0 ≤ q ∧ q < 256) : w_FnExactGetMsg b = some true := by
  unfold w_FnExactGetMsg
  by_cases c : 1048576 < (b.length : Int)
  · rw [decide_eq_true c]; rfl
  have hl : b.length ≤ 1048576 := by omega
  obtain ⟨⟨m, ok⟩, h1, h2, h3, h4, h5⟩ := getMsg_same hb.2 hl
  simp only at h3 h4 h5
  obtain ⟨q, q1, q2⟩ := w_markByteS_p (l := b) (n := 1) (by omega) (by omega) (by omega)
  have k3 : ¬ ((1 : Int) + (b.length : Int) < 0) := by omega
  have r1 := w_markMsg_at (m := m) (n := 1) (by omega) (by omega) (by omega) (by omega)
  have r2 := @w_heldMsg_at m 1 m.reply m.auth m.cut m.want m.can m.id m.code m.q (by omega) (by omega) (by omega) (by omega)
  have k4 : ¬ (1 + 6 * (m.an.length : Int) + 6 * (m.au.length : Int) + 6 * (m.ad.length : Int) < 0) := by omega
  simp [c, w_toByteS_eq hl, h1, h2, w_eqMsg_self, w_FnExactGetMsg_j0, w_eqByteS_self, q1, q2, k3, w_FnExactGetMsg_j1, r1, r2, mkL_len, grd_pos, k4, w_FnExactGetMsg_j2]
end Go.Abs.M
