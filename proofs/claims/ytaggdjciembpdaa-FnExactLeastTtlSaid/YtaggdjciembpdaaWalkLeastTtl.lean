/- Walks of the functions that the law of LeastTtl reaches: what each of them computes, for all values within the bounds that its premises name. -/
import Derived.Test.YtaggdjciembpdaaAbsB2
import Derived.Test.YtaggdjciembpdaaAbsA22
import Derived.Test.YtaggdjciembpdaaChecked
namespace Go.Abs.R1
open Go Go.Abs Go.Proofs

structure Rec where
  a : ByteArray
  b : Int
  c : Int
  d : Int
  e : ByteArray
  f : ByteArray
  deriving DecidableEq
def recV (r : Rec) : List V := [.sc (.string r.a), .sc (.int .i64 r.b), .sc (.int .i64 r.c), .sc (.int .i64 r.d), .sc (.string r.e), .sc (.string r.f)]
theorem recV_free (r : Rec) : (recV r).all (·.free) = true := rfl
theorem recV_sc (r : Rec) : (recV r).all isScN = true := rfl
theorem recV_len (r : Rec) : (recV r).length = 6 := rfl
def Rec.ok (r : Rec) : Prop := r.a.size ≤ 9223372036854775807 ∧ r.e.size ≤ 9223372036854775807 ∧ r.f.size ≤ 9223372036854775807
def szRec (r : Rec) (n : Int) : Int :=
  if n - r.a.size < 0 then -1 else if n - r.a.size - r.e.size < 0 then -1 else if n - r.a.size - r.e.size - r.f.size < 0 then -1 else n - r.a.size - r.e.size - r.f.size
theorem szRec_le {r : Rec} {n : Int} (hn : 0 ≤ n) (_ : r.ok) : szRec r n ≤ n := by
  unfold szRec; split
  · omega
  · split
    · omega
    · split <;> omega
def szL : List Rec → Int → Int
  | [], n => n
  | r :: l, n => if szRec r n < 0 then -1 else szL l (szRec r n)
def szS (l : List Rec) (n : Int) : Int := if n - l.length < 0 then -1 else szL l (n - l.length)
theorem szL_le : ∀ (l : List Rec) (n : Int), 0 ≤ n → (∀ r, r ∈ l → r.ok) → szL l n ≤ n
  | [], n, _, _ => Int.le_refl _
  | r :: l, n, hn, hr => by
    unfold szL
    split
    · omega
    · exact Int.le_trans (szL_le l _ (by omega) fun q hq => hr q (.tail _ hq)) (szRec_le hn (hr r (.head _)))
theorem szS_len {l : List Rec} {n : Int} (h : 0 ≤ szS l n) : (l.length : Int) ≤ n := by
  unfold szS at h
  split at h <;> omega
def zrec : Rec := ⟨⟨#[]⟩, 0, 0, 0, ⟨#[]⟩, ⟨#[]⟩⟩
def copied (l : List Rec) (i : Nat) : List Rec := l.take i ++ List.replicate (l.length - i) zrec
theorem copied_len {l : List Rec} {i : Nat} (h : i ≤ l.length) : (copied l i).length = l.length := by unfold copied; simp; omega
theorem copied_zero (l : List Rec) : (copied l 0).map recV = List.replicate l.length [V.sc (.string ⟨#[]⟩), V.sc (.int .i64 0), V.sc (.int .i64 0), V.sc (.int .i64 0), V.sc (.string ⟨#[]⟩), V.sc (.string ⟨#[]⟩)] := by
  unfold copied; simp [List.map_replicate, recV, zrec]
theorem copied_all (l : List Rec) : copied l l.length = l := by unfold copied; simp
theorem copied_set {l : List Rec} {i : Nat} (h : i < l.length) : (copied l i).set i l[i] = copied l (i + 1) := by
  unfold copied
  have e : l.length - i = (l.length - (i + 1)) + 1 := by omega
  rw [List.set_append_right _ _ (by simp; omega), List.length_take, Nat.min_eq_left (by omega), Nat.sub_self, e, List.replicate_succ, List.set_cons_zero, List.take_add_one, List.getElem?_eq_getElem h]
  simp only [Option.toList, List.append_assoc, List.singleton_append]
theorem copied_step {l : List Rec} {i : Nat} (h : i < l.length) {x : Rec} : (copied l (i + 1)).map recV = ((copied l i).map recV).set (0 + i) (splice (recV x) 0 (recV l[i])) := by
  rw [← copied_set h, List.map_set, Nat.zero_add]
  rfl
def dig (n : Int) : ByteArray := strOfNums [IntKind.u8.wrap (IntKind.i64.wrap (48 + n.tmod 10))]
theorem dig_size (n : Int) : (dig n).size = 1 := rfl
def digs : Nat → Int → ByteArray → ByteArray
  | 0, _, s => s
  | k + 1, n, s => if 0 < n then digs k (n / 10) (dig n ++ s) else s
theorem digs_zero {k : Nat} {n : Int} {s : ByteArray} (h : n ≤ 0) : digs k n s = s := by
  cases k
  · rfl
  · simp only [digs]; rw [if_neg (by omega)]
def markT (n : Int) : ByteArray := if n ≤ 0 then ⟨#[109, 48]⟩ else ⟨#[109]⟩ ++ digs n.toNat n ⟨#[]⟩
def markR (n : Int) : Rec := ⟨markT n, n + 1, n + 1 + 1, n + 1 + 1 + 1, markT (n + 1 + 1 + 1 + 1), markT (n + 1 + 1 + 1 + 1 + 1)⟩
def mk (n : Int) (k : Nat) : List Rec := (List.range k).map fun (i : Nat) => markR (n + 6 * (i : Int))
theorem mk_len (n : Int) (k : Nat) : (mk n k).length = k := by simp [mk]
theorem mk_succ (n : Int) (k : Nat) : mk n (k + 1) = mk n k ++ [markR (n + 6 * (k : Int))] := by simp [mk, List.range_succ]
theorem mk_at {l : List Rec} {n m : Int} {i : Nat} (hl : l = mk n l.length) (hlt : i < l.length) (hm : m = n + 6 * (i : Int)) : l[i] = markR m := by
  have h2 : (mk n l.length)[i]? = some (markR m) := by simp [mk, hlt, hm]
  have h3 : (mk n l.length)[i]? = some l[i] := by rw [← hl]; exact List.getElem?_eq_getElem hlt
  rw [h3] at h2
  exact Option.some.inj h2
def marked (l : List Rec) (n : Int) (i : Nat) : List Rec := mk n i ++ l.drop i
theorem marked_len {l : List Rec} {n : Int} {i : Nat} (h : i ≤ l.length) : (marked l n i).length = l.length := by unfold marked; simp [mk_len]; omega
theorem marked_zero (l : List Rec) (n : Int) : marked l n 0 = l := by simp [marked, mk]
theorem marked_all (l : List Rec) (n : Int) : marked l n l.length = mk n l.length := by simp [marked]
theorem marked_set {l : List Rec} {n m : Int} {i : Nat} (h : i < l.length) (hm : m = n + 6 * (i : Int)) : (marked l n i).set i (markR m) = marked l n (i + 1) := by
  unfold marked
  rw [List.set_append_right _ _ (by rw [mk_len]; omega), mk_len, Nat.sub_self, List.drop_eq_getElem_cons h, List.set_cons_zero, mk_succ, hm]
  simp
theorem marked_step {l : List Rec} {n m : Int} {i : Nat} (h : i < l.length) (hm : m = n + 6 * (i : Int)) : (marked l n (i + 1)).map recV = ((marked l n i).map recV).set (0 + i) (recV (markR m)) := by
  rw [← marked_set h hm, List.map_set, Nat.zero_add]
def setP (nm : ByteArray) (k : Int) (r : Rec) : Bool := decide (r.a = nm) && decide (r.b = k)
theorem filter_take {α : Type} {l : List α} {p : α → Bool} {i : Nat} (h : i < l.length) : (l.take (i + 1)).filter p = (l.take i).filter p ++ (if p l[i] then [l[i]] else []) := by
  rw [List.take_add_one, List.getElem?_eq_getElem h]
  simp only [Option.toList, List.filter_append, List.filter_cons, List.filter_nil]
def outR (l : List Rec) (nm : ByteArray) (k : Int) (i : Nat) : List Rec := (l.take i).filter (setP nm k)
theorem outR_len {l : List Rec} (nm : ByteArray) (k : Int) {i : Nat} (h : i ≤ l.length) : (outR l nm k i).length ≤ i := by
  unfold outR; exact Nat.le_trans (List.length_filter_le _ _) (by simp only [List.length_take]; omega)
def lst (l : List Rec) : Nat → Int
  | 0 => 0
  | i + 1 => if i = 0 ∨ ((l[i]?).map (·.c)).getD 0 < lst l i then ((l[i]?).map (·.c)).getD 0 else lst l i
theorem lst_succ {l : List Rec} {i : Nat} (h : i < l.length) : lst l (i + 1) = if i = 0 ∨ l[i].c < lst l i then l[i].c else lst l i := by simp [lst, h]
def mi (l : List Rec) (i : Nat) : Int := if i = 0 then ((l[0]?).map (·.c)).getD 0 else lst l i
theorem mi_zero {l : List Rec} (h : 0 < l.length) : mi l 0 = l[0].c := by simp [mi, h]
theorem mi_succ {l : List Rec} {i : Nat} (h : i < l.length) : mi l (i + 1) = if l[i].c < mi l i then l[i].c else mi l i := by
  have e : mi l (i + 1) = lst l (i + 1) := by simp [mi]
  rw [e, lst_succ h]
  cases i with
  | zero => simp [mi, h]
  | succ i => simp [mi]
theorem mi_end {l : List Rec} (h : 0 < l.length) : mi l l.length = lst l l.length := by unfold mi; rw [if_neg (by omega)]
theorem mixed : Try.prog.follows .mixedOrders = true := by kernel_rfl

theorem c17 : callable Try.prog 17 = true := by kernel_rfl
theorem c18 : callable Try.prog 18 = true := by kernel_rfl
theorem c19 : callable Try.prog 19 = true := by kernel_rfl
theorem c20 : callable Try.prog 20 = true := by kernel_rfl
theorem c21 : callable Try.prog 21 = true := by kernel_rfl
theorem c28 : callable Try.prog 28 = true := by kernel_rfl
theorem c64 : callable Try.prog 64 = true := by kernel_rfl
theorem c65 : callable Try.prog 65 = true := by kernel_rfl
theorem fd36_0 : fldTy Try.prog 36 0 = some (0, 0 + 1, false) := by kernel_rfl
theorem fd36_1 : fldTy Try.prog 36 1 = some (1, 0 + 1, false) := by kernel_rfl
theorem fd36_2 : fldTy Try.prog 36 2 = some (2, 0 + 1, false) := by kernel_rfl
theorem fd36_3 : fldTy Try.prog 36 3 = some (3, 0 + 1, false) := by kernel_rfl
theorem fd36_4 : fldTy Try.prog 36 4 = some (4, 0 + 1, false) := by kernel_rfl
theorem fd36_5 : fldTy Try.prog 36 5 = some (5, 0 + 1, false) := by kernel_rfl
theorem fd84_0 : fldTy Try.prog 84 0 = some (0, 0 + 1, false) := by kernel_rfl
theorem fd84_1 : fldTy Try.prog 84 1 = some (1, 0 + 1, false) := by kernel_rfl
theorem fd84_2 : fldTy Try.prog 84 2 = some (2, 0 + 1, false) := by kernel_rfl
theorem fd84_3 : fldTy Try.prog 84 3 = some (3, 0 + 1, false) := by kernel_rfl
theorem fd84_4 : fldTy Try.prog 84 4 = some (4, 0 + 1, false) := by kernel_rfl
theorem fd84_5 : fldTy Try.prog 84 5 = some (5, 0 + 1, false) := by kernel_rfl
theorem iss9 : isStr Try.prog 9 = true := by kernel_rfl
theorem sl24 : slTy Try.prog 24 = some (84, 6, 72) := by kernel_rfl
theorem sl27 : slTy Try.prog 27 = some (36, 6, 72) := by kernel_rfl
theorem ty3 : tyK Try.prog 3 = some (false, 1) := by kernel_rfl
theorem ty36 : tyK Try.prog 36 = some (true, 6) := by kernel_rfl
theorem ty84 : tyK Try.prog 84 = some (true, 6) := by kernel_rfl
theorem ty9 : tyK Try.prog 9 = some (false, 1) := by kernel_rfl
theorem zc36 : zeroC Try.prog 36 = some [.string ⟨#[]⟩, .int .i64 0, .int .i64 0, .int .i64 0, .string ⟨#[]⟩, .string ⟨#[]⟩] := by kernel_rfl

/- laws.eqRecord -/


set_option maxRecDepth 4000 in
theorem r28 (r q : Rec) : Runs Try.prog 28 [.agg (recV r), .agg (recV q)] [] (.sc (.bool (decide (r = q)))) [] := by
  refine runsT [4] Try.func28 rfl rfl rfl rfl ?_
  rw [Try.ntmps28]
  refine tri_seq ?_
  refine tri_region ?_
  refine s_box rfl rfl rfl rfl rfl rfl rfl ?_
  refine s_box rfl rfl rfl rfl rfl rfl rfl ?_
  refine s_mv (.inr rfl) (v := .sc (.bool false)) rfl rfl rfl rfl ?_
  refine rt_nil ?_
  refine tri_seq ?_
  refine tri_seq ?_
  refine tri_region ?_
  refine s_fieldAddr rfl rfl fd36_0 rfl rfl rfl rfl ?_
  refine s_load rfl rfl rfl rfl ty9 rfl (.inr rfl) (by conv => lhs; whnf) rfl rfl rfl ?_
  refine s_fieldAddr rfl rfl fd36_0 rfl rfl rfl rfl ?_
  refine s_load rfl rfl rfl rfl ty9 rfl (.inr rfl) (by conv => lhs; whnf) rfl rfl rfl ?_
  refine s_of (st_neS rfl rfl rfl) rfl rfl rfl rfl ?_
  refine rt_nil ?_
  refine tri_cond rfl (fun hc9 => ?_) (fun hc9 => ?_)
  · skip
    refine tri_seq ?_
    refine tri_region ?_
    refine s_mv (.inr rfl) (v := .sc (.bool false)) rfl rfl rfl rfl ?_
    refine rt_nil ?_
    refine tri_ret ?_
    exact endBool rfl (by symm; simp only [decide_eq_false_iff_not]; intro e; subst e; simp at hc9) rfl
  · skip
    refine tri_skip ?_
    refine tri_seq ?_
    refine tri_seq ?_
    refine tri_region ?_
    refine s_fieldAddr rfl rfl fd36_1 rfl rfl rfl rfl ?_
    refine s_load rfl rfl rfl rfl ty3 rfl (.inr rfl) (by conv => lhs; whnf) rfl rfl rfl ?_
    refine s_fieldAddr rfl rfl fd36_1 rfl rfl rfl rfl ?_
    refine s_load rfl rfl rfl rfl ty3 rfl (.inr rfl) (by conv => lhs; whnf) rfl rfl rfl ?_
    refine s_of (st_neI rfl rfl rfl) rfl rfl rfl rfl ?_
    refine rt_nil ?_
    refine tri_cond rfl (fun hc14 => ?_) (fun hc14 => ?_)
    · skip
      refine tri_seq ?_
      refine tri_region ?_
      refine s_mv (.inr rfl) (v := .sc (.bool false)) rfl rfl rfl rfl ?_
      refine rt_nil ?_
      refine tri_ret ?_
      exact endBool rfl (by symm; simp only [decide_eq_false_iff_not]; intro e; subst e; simp at hc14) rfl
    · skip
      refine tri_skip ?_
      refine tri_seq ?_
      refine tri_seq ?_
      refine tri_region ?_
      refine s_fieldAddr rfl rfl fd36_2 rfl rfl rfl rfl ?_
      refine s_load rfl rfl rfl rfl ty3 rfl (.inr rfl) (by conv => lhs; whnf) rfl rfl rfl ?_
      refine s_fieldAddr rfl rfl fd36_2 rfl rfl rfl rfl ?_
      refine s_load rfl rfl rfl rfl ty3 rfl (.inr rfl) (by conv => lhs; whnf) rfl rfl rfl ?_
      refine s_of (st_neI rfl rfl rfl) rfl rfl rfl rfl ?_
      refine rt_nil ?_
      refine tri_cond rfl (fun hc19 => ?_) (fun hc19 => ?_)
      · skip
        refine tri_seq ?_
        refine tri_region ?_
        refine s_mv (.inr rfl) (v := .sc (.bool false)) rfl rfl rfl rfl ?_
        refine rt_nil ?_
        refine tri_ret ?_
        exact endBool rfl (by symm; simp only [decide_eq_false_iff_not]; intro e; subst e; simp at hc19) rfl
      · skip
        refine tri_skip ?_
        refine tri_seq ?_
        refine tri_seq ?_
        refine tri_region ?_
        refine s_fieldAddr rfl rfl fd36_3 rfl rfl rfl rfl ?_
        refine s_load rfl rfl rfl rfl ty3 rfl (.inr rfl) (by conv => lhs; whnf) rfl rfl rfl ?_
        refine s_fieldAddr rfl rfl fd36_3 rfl rfl rfl rfl ?_
        refine s_load rfl rfl rfl rfl ty3 rfl (.inr rfl) (by conv => lhs; whnf) rfl rfl rfl ?_
        refine s_of (st_neI rfl rfl rfl) rfl rfl rfl rfl ?_
        refine rt_nil ?_
        refine tri_cond rfl (fun hc24 => ?_) (fun hc24 => ?_)
        · skip
          refine tri_seq ?_
          refine tri_region ?_
          refine s_mv (.inr rfl) (v := .sc (.bool false)) rfl rfl rfl rfl ?_
          refine rt_nil ?_
          refine tri_ret ?_
          exact endBool rfl (by symm; simp only [decide_eq_false_iff_not]; intro e; subst e; simp at hc24) rfl
        · skip
          refine tri_skip ?_
          refine tri_seq ?_
          refine tri_seq ?_
          refine tri_region ?_
          refine s_fieldAddr rfl rfl fd36_4 rfl rfl rfl rfl ?_
          refine s_load rfl rfl rfl rfl ty9 rfl (.inr rfl) (by conv => lhs; whnf) rfl rfl rfl ?_
          refine s_fieldAddr rfl rfl fd36_4 rfl rfl rfl rfl ?_
          refine s_load rfl rfl rfl rfl ty9 rfl (.inr rfl) (by conv => lhs; whnf) rfl rfl rfl ?_
          refine s_of (st_neS rfl rfl rfl) rfl rfl rfl rfl ?_
          refine rt_nil ?_
          refine tri_cond rfl (fun hc29 => ?_) (fun hc29 => ?_)
          · skip
            refine tri_seq ?_
            refine tri_region ?_
            refine s_mv (.inr rfl) (v := .sc (.bool false)) rfl rfl rfl rfl ?_
            refine rt_nil ?_
            refine tri_ret ?_
            exact endBool rfl (by symm; simp only [decide_eq_false_iff_not]; intro e; subst e; simp at hc29) rfl
          · skip
            refine tri_skip ?_
            refine tri_seq ?_
            refine tri_seq ?_
            refine tri_region ?_
            refine s_fieldAddr rfl rfl fd36_5 rfl rfl rfl rfl ?_
            refine s_load rfl rfl rfl rfl ty9 rfl (.inr rfl) (by conv => lhs; whnf) rfl rfl rfl ?_
            refine s_fieldAddr rfl rfl fd36_5 rfl rfl rfl rfl ?_
            refine s_load rfl rfl rfl rfl ty9 rfl (.inr rfl) (by conv => lhs; whnf) rfl rfl rfl ?_
            refine s_of (st_neS rfl rfl rfl) rfl rfl rfl rfl ?_
            refine rt_nil ?_
            refine tri_cond rfl (fun hc34 => ?_) (fun hc34 => ?_)
            · skip
              refine tri_seq ?_
              refine tri_region ?_
              refine s_mv (.inr rfl) (v := .sc (.bool false)) rfl rfl rfl rfl ?_
              refine rt_nil ?_
              refine tri_ret ?_
              exact endBool rfl (by symm; simp only [decide_eq_false_iff_not]; intro e; subst e; simp at hc34) rfl
            · skip
              refine tri_skip ?_
              refine tri_seq ?_
              refine tri_region ?_
              refine s_mv (.inr rfl) (v := .sc (.bool true)) rfl rfl rfl rfl ?_
              refine rt_nil ?_
              refine tri_ret ?_
              exact endBool rfl (by symm; simp only [decide_eq_true_eq]; cases r; cases q; simp_all) rfl

/- laws.eqRecordS -/
def inv21 (l q : List Rec) (i : Nat) : St :=
  mkT 27 [(0, .lst 6 (l.map recV)), (1, .lst 6 (q.map recV)), (5, .sc (.int .i64 ((i : Nat) : Int)))]
    []

set_option maxRecDepth 4000 in
theorem r21 (l q : List Rec) (hl : l.length ≤ 9223372036854775807) : Runs Try.prog 21 [.lst 6 (l.map recV), .lst 6 (q.map recV)] [] (.sc (.bool (decide (l = q)))) [] := by
  refine runsT [4] Try.func21 rfl rfl rfl rfl ?_
  rw [Try.ntmps21]
  refine tri_seq ?_
  refine tri_region ?_
  refine s_mv (.inr rfl) (v := .sc (.bool false)) rfl rfl rfl rfl ?_
  refine rt_nil ?_
  refine tri_seq ?_
  refine tri_seq ?_
  refine tri_region ?_
  refine s_mv (.inl rfl) (by conv => lhs; whnf) rfl rfl rfl ?_
  refine s_len rfl sl27 (by first | exact congrArg some (List.length_map ..) | rfl) rfl rfl rfl ?_
  refine s_mv (.inl rfl) (by conv => lhs; whnf) rfl rfl rfl ?_
  refine s_len rfl sl27 (by first | exact congrArg some (List.length_map ..) | rfl) rfl rfl rfl ?_
  refine s_of (st_neI rfl rfl rfl) rfl rfl rfl rfl ?_
  refine rt_nil ?_
  refine tri_cond rfl (fun hc10 => ?_) (fun hc10 => ?_)
  · skip
    refine tri_seq ?_
    refine tri_region ?_
    refine s_mv (.inr rfl) (v := .sc (.bool false)) rfl rfl rfl rfl ?_
    refine rt_nil ?_
    refine tri_ret ?_
    exact endBool rfl (by symm; simp only [decide_eq_false_iff_not]; intro e; subst e; simp at hc10) rfl
  · skip
    have hlq : l.length = q.length := by simp at hc10; omega
    refine tri_skip ?_
    refine tri_seq ?_
    refine tri_seq ?_
    refine tri_region ?_
    refine s_mv (.inr rfl) (v := .sc (.int .i64 0)) rfl rfl rfl rfl ?_
    refine rt_nil ?_
    refine tri_block ?_
    refine tri_loop (ι := {i : Nat // i ≤ l.length ∧ l.take i = q.take i}) (fun p => inv21 l q p.1) (fun p => l.length - p.1) ⟨0, Nat.zero_le _, rfl⟩ ?_ ?_
    · skip
      refine entT [] [] trivial trivial rfl rfl ?_
      exact ⟨.free rfl, .free rfl, .free rfl, trivial⟩
    · intro p
      obtain ⟨i, hi, ht⟩ := p
      simp only
      refine tri_seq ?_
      refine tri_seq ?_
      refine tri_region ?_
      refine s_mv (.inl rfl) (by conv => lhs; whnf) rfl rfl rfl ?_
      refine s_mv (.inl rfl) (by conv => lhs; whnf) rfl rfl rfl ?_
      refine s_len rfl sl27 (by first | exact congrArg some (List.length_map ..) | rfl) rfl rfl rfl ?_
      refine s_of (st_lss rfl rfl rfl) rfl rfl rfl rfl ?_
      refine rt_nil ?_
      refine tri_cond rfl (fun hc14 => ?_) (fun hc14 => ?_)
      · skip
        have hlt : i < l.length := by simpa using hc14
        refine tri_skip ?_
        refine tri_seq ?_
        refine tri_block ?_
        refine tri_seq ?_
        refine tri_draw mixed ?_
        refine s_mv (.inl rfl) (by conv => lhs; whnf) rfl rfl rfl ?_
        refine s_mv (.inl rfl) (by conv => lhs; whnf) rfl rfl rfl ?_
        refine s_indexF rfl rfl rfl sl27 (by first | omega | (simp only [List.length_map]; omega)) rfl rfl rfl ?_
        refine s_loadFR rfl rfl (rowAt (by omega)) ty36 rfl rfl rfl ?_
        refine s_mv (.inl rfl) (by conv => lhs; whnf) rfl rfl rfl ?_
        refine s_mv (.inl rfl) (by conv => lhs; whnf) rfl rfl rfl ?_
        refine s_indexF rfl rfl rfl sl27 (by first | omega | (simp only [List.length_map]; omega)) rfl rfl rfl ?_
        refine s_loadFR rfl rfl (rowAt (by omega)) ty36 rfl rfl rfl ?_
        refine s_callV (kb := []) rfl rfl c28 (r28 _ _) rfl (.cons (relAgg rfl) (.cons (relAgg rfl) .nil)) rfl rfl rfl rfl ?_
        refine s_of (st_not rfl rfl) rfl rfl rfl rfl ?_
        refine rt_nil ⟨by kernel_rfl, ?_⟩
        refine tri_cond rfl (fun hc26 => ?_) (fun hc26 => ?_)
        · skip
          have hne : l[i] ≠ q[i] := by simpa using hc26
          refine tri_seq ?_
          refine tri_region ?_
          refine s_mv (.inr rfl) (v := .sc (.bool false)) rfl rfl rfl rfl ?_
          refine rt_nil ?_
          refine tri_ret ?_
          exact endBool rfl (by symm; simp only [decide_eq_false_iff_not]; intro e; subst e; exact hne rfl) rfl
        · skip
          have heq : l[i] = q[i] := by simpa using hc26
          have hnx : l.take (i + 1) = q.take (i + 1) := by rw [List.take_add_one, List.take_add_one, ht, List.getElem?_eq_getElem hlt, List.getElem?_eq_getElem (hlq ▸ hlt), heq]
          refine tri_skip ?_
          refine tri_region ?_
          refine s_mv (.inl rfl) (by conv => lhs; whnf) rfl rfl rfl ?_
          refine s_inc (b := 1) rfl rfl rfl rfl (by omega) rfl rfl rfl ?_
          refine s_mv (.inr rfl) (by conv => lhs; whnf) rfl rfl rfl ?_
          refine rt_nil ?_
          refine Exists.intro ⟨i + 1, hlt, hnx⟩ (And.intro (by simp only; omega) ?_)
          refine entT [] [] trivial trivial rfl rfl ?_
          exact ⟨.free rfl, .free rfl, .free rfl, trivial⟩
      · skip
        have hge : i = l.length := by simp at hc14; omega
        refine tri_exit ?_
        refine tri_seq ?_
        refine tri_region ?_
        refine s_mv (.inr rfl) (v := .sc (.bool true)) rfl rfl rfl rfl ?_
        refine rt_nil ?_
        refine tri_ret ?_
        exact endBool rfl (by symm; simp only [decide_eq_true_eq]; rw [hge, List.take_length, hlq, List.take_length] at ht; exact ht) rfl

/- laws.szRecord -/


set_option maxRecDepth 4000 in
theorem r64 (r : Rec) (n : Int) (hn : 0 ≤ n ∧ n ≤ 1048576) (hr : r.ok) : Runs Try.prog 64 [.agg (recV r), .sc (.int .i64 n)] [] (.sc (.int .i64 (szRec r n))) [] := by
  unfold Rec.ok at hr
  refine runsT [4] Try.func64 rfl rfl rfl rfl ?_
  rw [Try.ntmps64]
  refine tri_seq ?_
  refine tri_region ?_
  refine s_box rfl rfl rfl rfl rfl rfl rfl ?_
  refine s_mv (.inr rfl) (v := .sc (.int .i64 0)) rfl rfl rfl rfl ?_
  refine rt_nil ?_
  refine tri_seq ?_
  refine tri_region ?_
  refine s_mv (.inl rfl) (by conv => lhs; whnf) rfl rfl rfl ?_
  refine s_fieldAddr rfl rfl fd84_0 rfl rfl rfl rfl ?_
  refine s_load rfl rfl rfl rfl ty9 rfl (.inr rfl) (by conv => lhs; whnf) rfl rfl rfl ?_
  refine s_of (st_lenS rfl rfl iss9) rfl rfl rfl rfl ?_
  refine s_subI rfl rfl rfl rfl (by omega) rfl rfl rfl ?_
  refine s_mv (.inr rfl) (by conv => lhs; whnf) rfl rfl rfl ?_
  refine rt_nil ?_
  refine tri_seq ?_
  refine tri_seq ?_
  refine tri_region ?_
  refine s_mv (.inl rfl) (by conv => lhs; whnf) rfl rfl rfl ?_
  refine s_of (st_lss rfl rfl rfl) rfl rfl rfl rfl ?_
  refine rt_nil ?_
  refine tri_cond rfl (fun hc11 => ?_) (fun hc11 => ?_)
  · skip
    simp at hc11
    refine tri_seq ?_
    refine tri_region ?_
    refine s_mv (.inr rfl) (v := .sc (.int .i64 (-1))) rfl rfl rfl rfl ?_
    refine rt_nil ?_
    refine tri_ret ?_
    exact endInt rfl (by unfold szRec; first | (split <;> omega) | (split <;> first | omega | (split <;> first | omega | (split <;> omega)))) rfl
  · skip
    simp at hc11
    refine tri_skip ?_
    refine tri_seq ?_
    refine tri_region ?_
    refine s_mv (.inl rfl) (by conv => lhs; whnf) rfl rfl rfl ?_
    refine s_fieldAddr rfl rfl fd84_4 rfl rfl rfl rfl ?_
    refine s_load rfl rfl rfl rfl ty9 rfl (.inr rfl) (by conv => lhs; whnf) rfl rfl rfl ?_
    refine s_of (st_lenS rfl rfl iss9) rfl rfl rfl rfl ?_
    refine s_subI rfl rfl rfl rfl (by omega) rfl rfl rfl ?_
    refine s_mv (.inr rfl) (by conv => lhs; whnf) rfl rfl rfl ?_
    refine rt_nil ?_
    refine tri_seq ?_
    refine tri_seq ?_
    refine tri_region ?_
    refine s_mv (.inl rfl) (by conv => lhs; whnf) rfl rfl rfl ?_
    refine s_of (st_lss rfl rfl rfl) rfl rfl rfl rfl ?_
    refine rt_nil ?_
    refine tri_cond rfl (fun hc18 => ?_) (fun hc18 => ?_)
    · skip
      simp at hc18
      refine tri_seq ?_
      refine tri_region ?_
      refine s_mv (.inr rfl) (v := .sc (.int .i64 (-1))) rfl rfl rfl rfl ?_
      refine rt_nil ?_
      refine tri_ret ?_
      exact endInt rfl (by unfold szRec; first | (split <;> omega) | (split <;> first | omega | (split <;> first | omega | (split <;> omega)))) rfl
    · skip
      simp at hc18
      refine tri_skip ?_
      refine tri_seq ?_
      refine tri_region ?_
      refine s_mv (.inl rfl) (by conv => lhs; whnf) rfl rfl rfl ?_
      refine s_fieldAddr rfl rfl fd84_5 rfl rfl rfl rfl ?_
      refine s_load rfl rfl rfl rfl ty9 rfl (.inr rfl) (by conv => lhs; whnf) rfl rfl rfl ?_
      refine s_of (st_lenS rfl rfl iss9) rfl rfl rfl rfl ?_
      refine s_subI rfl rfl rfl rfl (by omega) rfl rfl rfl ?_
      refine s_mv (.inr rfl) (by conv => lhs; whnf) rfl rfl rfl ?_
      refine rt_nil ?_
      refine tri_seq ?_
      refine tri_seq ?_
      refine tri_region ?_
      refine s_mv (.inl rfl) (by conv => lhs; whnf) rfl rfl rfl ?_
      refine s_of (st_lss rfl rfl rfl) rfl rfl rfl rfl ?_
      refine rt_nil ?_
      refine tri_cond rfl (fun hc25 => ?_) (fun hc25 => ?_)
      · skip
        simp at hc25
        refine tri_seq ?_
        refine tri_region ?_
        refine s_mv (.inr rfl) (v := .sc (.int .i64 (-1))) rfl rfl rfl rfl ?_
        refine rt_nil ?_
        refine tri_ret ?_
        exact endInt rfl (by unfold szRec; first | (split <;> omega) | (split <;> first | omega | (split <;> first | omega | (split <;> omega)))) rfl
      · skip
        simp at hc25
        refine tri_skip ?_
        refine tri_seq ?_
        refine tri_region ?_
        refine s_mv (.inl rfl) (by conv => lhs; whnf) rfl rfl rfl ?_
        refine s_mv (.inr rfl) (by conv => lhs; whnf) rfl rfl rfl ?_
        refine rt_nil ?_
        refine tri_ret ?_
        exact endInt rfl (by unfold szRec; first | (split <;> omega) | (split <;> first | omega | (split <;> first | omega | (split <;> omega)))) rfl

/- laws.szRecordS -/
def inv17 (l : List Rec) (i : Nat) (m : Int) : St :=
  mkT 27 [(0, .lst 6 (l.map recV)), (1, .sc (.int .i64 m)), (5, .sc (.int .i64 ((i : Nat) : Int)))]
    []

set_option maxRecDepth 4000 in
theorem r17 (l : List Rec) (n : Int) (hn : 0 ≤ n ∧ n ≤ 1048576) (hl : l.length ≤ 9223372036854775807) (hr : ∀ r, r ∈ l → r.ok) : Runs Try.prog 17 [.lst 6 (l.map recV), .sc (.int .i64 n)] [] (.sc (.int .i64 (szS l n))) [] := by
  refine runsT [4] Try.func17 rfl rfl rfl rfl ?_
  rw [Try.ntmps17]
  refine tri_seq ?_
  refine tri_region ?_
  refine s_mv (.inr rfl) (v := .sc (.int .i64 0)) rfl rfl rfl rfl ?_
  refine rt_nil ?_
  refine tri_seq ?_
  refine tri_region ?_
  refine s_mv (.inl rfl) (by conv => lhs; whnf) rfl rfl rfl ?_
  refine s_mv (.inl rfl) (by conv => lhs; whnf) rfl rfl rfl ?_
  refine s_len rfl sl24 (by first | exact congrArg some (List.length_map ..) | rfl) rfl rfl rfl ?_
  refine s_subI rfl rfl rfl rfl (by omega) rfl rfl rfl ?_
  refine s_mv (.inr rfl) (by conv => lhs; whnf) rfl rfl rfl ?_
  refine rt_nil ?_
  refine tri_seq ?_
  refine tri_seq ?_
  refine tri_region ?_
  refine s_mv (.inl rfl) (by conv => lhs; whnf) rfl rfl rfl ?_
  refine s_of (st_lss rfl rfl rfl) rfl rfl rfl rfl ?_
  refine rt_nil ?_
  refine tri_cond rfl (fun hc11 => ?_) (fun hc11 => ?_)
  · skip
    refine tri_seq ?_
    refine tri_region ?_
    refine s_mv (.inr rfl) (v := .sc (.int .i64 (-1))) rfl rfl rfl rfl ?_
    refine rt_nil ?_
    refine tri_ret ?_
    exact endInt rfl (by unfold szS; rw [if_pos (by simpa using hc11)]) rfl
  · skip
    refine tri_skip ?_
    refine tri_seq ?_
    refine tri_seq ?_
    refine tri_region ?_
    refine s_mv (.inr rfl) (v := .sc (.int .i64 0)) rfl rfl rfl rfl ?_
    refine rt_nil ?_
    refine tri_block ?_
    refine tri_loop (ι := {p : Nat × Int // p.1 ≤ l.length ∧ 0 ≤ p.2 ∧ p.2 ≤ 1048576 ∧ szL (l.drop p.1) p.2 = szS l n}) (fun p => inv17 l p.1.1 p.1.2) (fun p => l.length - p.1.1) ⟨(0, n - l.length), Nat.zero_le _, by simp at hc11 ⊢; omega, by simp at hc11 ⊢; omega, by simp only [List.drop_zero]; unfold szS; rw [if_neg (by simp at hc11 ⊢; omega)]⟩ ?_ ?_
    · skip
      refine entT [] [] trivial trivial rfl rfl ?_
      exact ⟨.free rfl, .free rfl, .free rfl, trivial⟩
    · intro p
      obtain ⟨⟨i, m⟩, hi, hm0, hm1, hs⟩ := p
      simp only at hi hm0 hm1 hs ⊢
      refine tri_seq ?_
      refine tri_seq ?_
      refine tri_region ?_
      refine s_mv (.inl rfl) (by conv => lhs; whnf) rfl rfl rfl ?_
      refine s_mv (.inl rfl) (by conv => lhs; whnf) rfl rfl rfl ?_
      refine s_len rfl sl24 (by first | exact congrArg some (List.length_map ..) | rfl) rfl rfl rfl ?_
      refine s_of (st_lss rfl rfl rfl) rfl rfl rfl rfl ?_
      refine rt_nil ?_
      refine tri_cond rfl (fun hc15 => ?_) (fun hc15 => ?_)
      · skip
        have hlt : i < l.length := by simpa using hc15
        have hri : (l[i]).ok := hr _ (List.getElem_mem hlt)
        have hdr : l.drop i = l[i] :: l.drop (i + 1) := List.drop_eq_getElem_cons hlt
        refine tri_skip ?_
        refine tri_seq ?_
        refine tri_block ?_
        refine tri_seq ?_
        refine tri_region ?_
        refine s_mv (.inl rfl) (by conv => lhs; whnf) rfl rfl rfl ?_
        refine s_mv (.inl rfl) (by conv => lhs; whnf) rfl rfl rfl ?_
        refine s_indexF rfl rfl rfl sl24 (by first | omega | (simp only [List.length_map]; omega)) rfl rfl rfl ?_
        refine s_loadFR rfl rfl (rowAt (by omega)) ty84 rfl rfl rfl ?_
        refine s_mv (.inl rfl) (by conv => lhs; whnf) rfl rfl rfl ?_
        refine s_callV (kb := []) rfl rfl c64 (r64 _ _ ⟨by omega, by omega⟩ (by assumption)) rfl (.cons (relAgg rfl) (.cons (.free rfl) .nil)) rfl rfl rfl rfl ?_
        refine s_mv (.inr rfl) (by conv => lhs; whnf) rfl rfl rfl ?_
        refine rt_nil ?_
        refine tri_seq ?_
        refine tri_region ?_
        refine s_mv (.inl rfl) (by conv => lhs; whnf) rfl rfl rfl ?_
        refine s_of (st_lss rfl rfl rfl) rfl rfl rfl rfl ?_
        refine rt_nil ?_
        refine tri_cond rfl (fun hc25 => ?_) (fun hc25 => ?_)
        · skip
          have hz : szRec l[i] m < 0 := by simpa using hc25
          refine tri_seq ?_
          refine tri_region ?_
          refine s_mv (.inr rfl) (v := .sc (.int .i64 (-1))) rfl rfl rfl rfl ?_
          refine rt_nil ?_
          refine tri_ret ?_
          exact endInt rfl (by rw [← hs, hdr]; unfold szL; rw [if_pos hz]) rfl
        · skip
          have hz : 0 ≤ szRec l[i] m := by simpa using hc25
          have hnx : szL (l.drop (i + 1)) (szRec l[i] m) = szS l n := by rw [← hs, hdr]; unfold szL; rw [if_neg (by omega)]; cases l.drop (i + 1) <;> rfl
          refine tri_skip ?_
          refine tri_region ?_
          refine s_mv (.inl rfl) (by conv => lhs; whnf) rfl rfl rfl ?_
          refine s_inc (b := 1) rfl rfl rfl rfl (by omega) rfl rfl rfl ?_
          refine s_mv (.inr rfl) (by conv => lhs; whnf) rfl rfl rfl ?_
          refine rt_nil ?_
          refine Exists.intro ⟨(i + 1, szRec l[i] m), hlt, hz, by have := szRec_le hm0 hri; simp only; omega, hnx⟩ (And.intro (by simp only; omega) ?_)
          refine entT [] [] trivial trivial rfl rfl ?_
          exact ⟨.free rfl, .free rfl, .free rfl, trivial⟩
      · skip
        have hge : i = l.length := by simp at hc15; omega
        refine tri_exit ?_
        refine tri_seq ?_
        refine tri_region ?_
        refine s_mv (.inl rfl) (by conv => lhs; whnf) rfl rfl rfl ?_
        refine s_mv (.inr rfl) (by conv => lhs; whnf) rfl rfl rfl ?_
        refine rt_nil ?_
        refine tri_ret ?_
        exact endInt rfl (by rw [← hs, hge, List.drop_length]; rfl) rfl

/- laws.toRecord -/


set_option maxRecDepth 4000 in
theorem r65 (r : Rec) : Runs Try.prog 65 [.agg (recV r)] [] (.agg (recV r)) [] := by
  refine runsR [.cell 2 36] Try.func65 rfl rfl rfl rfl ?_
  rw [Try.ntmps65]
  refine tri_seq ?_
  refine tri_region ?_
  refine s_box rfl rfl rfl rfl rfl rfl rfl ?_
  refine s_alloc rfl rfl rfl zc36 rfl rfl rfl rfl rfl ?_
  refine rt_nil ?_
  refine tri_seq ?_
  refine tri_region ?_
  refine s_alloc rfl rfl rfl zc36 rfl rfl rfl rfl rfl ?_
  refine rt_nil ?_
  refine tri_seq ?_
  refine tri_region ?_
  refine s_fieldAddr rfl rfl fd84_0 rfl rfl rfl rfl ?_
  refine s_load rfl rfl rfl rfl ty9 rfl (.inr rfl) (by conv => lhs; whnf) rfl rfl rfl ?_
  refine s_fieldAddr rfl rfl fd36_0 rfl rfl rfl rfl ?_
  refine s_store rfl rfl rfl rfl ty9 rfl rfl rfl rfl rfl rfl ?_
  refine rt_nil ?_
  refine tri_seq ?_
  refine tri_region ?_
  refine s_fieldAddr rfl rfl fd84_1 rfl rfl rfl rfl ?_
  refine s_load rfl rfl rfl rfl ty3 rfl (.inr rfl) (by conv => lhs; whnf) rfl rfl rfl ?_
  refine s_fieldAddr rfl rfl fd36_1 rfl rfl rfl rfl ?_
  refine s_store rfl rfl rfl rfl ty3 rfl rfl rfl rfl rfl rfl ?_
  refine rt_nil ?_
  refine tri_seq ?_
  refine tri_region ?_
  refine s_fieldAddr rfl rfl fd84_2 rfl rfl rfl rfl ?_
  refine s_load rfl rfl rfl rfl ty3 rfl (.inr rfl) (by conv => lhs; whnf) rfl rfl rfl ?_
  refine s_fieldAddr rfl rfl fd36_2 rfl rfl rfl rfl ?_
  refine s_store rfl rfl rfl rfl ty3 rfl rfl rfl rfl rfl rfl ?_
  refine rt_nil ?_
  refine tri_seq ?_
  refine tri_region ?_
  refine s_fieldAddr rfl rfl fd84_3 rfl rfl rfl rfl ?_
  refine s_load rfl rfl rfl rfl ty3 rfl (.inr rfl) (by conv => lhs; whnf) rfl rfl rfl ?_
  refine s_fieldAddr rfl rfl fd36_3 rfl rfl rfl rfl ?_
  refine s_store rfl rfl rfl rfl ty3 rfl rfl rfl rfl rfl rfl ?_
  refine rt_nil ?_
  refine tri_seq ?_
  refine tri_region ?_
  refine s_fieldAddr rfl rfl fd84_4 rfl rfl rfl rfl ?_
  refine s_load rfl rfl rfl rfl ty9 rfl (.inr rfl) (by conv => lhs; whnf) rfl rfl rfl ?_
  refine s_fieldAddr rfl rfl fd36_4 rfl rfl rfl rfl ?_
  refine s_store rfl rfl rfl rfl ty9 rfl rfl rfl rfl rfl rfl ?_
  refine rt_nil ?_
  refine tri_seq ?_
  refine tri_region ?_
  refine s_fieldAddr rfl rfl fd84_5 rfl rfl rfl rfl ?_
  refine s_load rfl rfl rfl rfl ty9 rfl (.inr rfl) (by conv => lhs; whnf) rfl rfl rfl ?_
  refine s_fieldAddr rfl rfl fd36_5 rfl rfl rfl rfl ?_
  refine s_store rfl rfl rfl rfl ty9 rfl rfl rfl rfl rfl rfl ?_
  refine rt_nil ?_
  refine tri_seq ?_
  refine tri_region ?_
  refine s_loadR rfl rfl rfl rfl ty36 rfl rfl rfl ?_
  refine s_storeB rfl rfl rfl ty36 rfl rfl rfl rfl rfl ?_
  refine rt_nil ?_
  refine tri_ret ?_
  exact endAgg rfl rfl ty36 rfl rfl rfl

/- laws.toRecordS -/
def inv19 (l : List Rec) (i : Nat) : St :=
  mkT 23 [(0, .lst 6 (l.map recV)), (3, .ref (2003, 0) 0 l.length), (4, .sc (.int .i64 ((i : Nat) : Int)))]
    [((2003, 0), some ⟨36, 6, (copied l i).map recV, false, true⟩)]

set_option maxRecDepth 4000 in
theorem r19 (l : List Rec) (hl : l.length ≤ 1099511627776) : Runs Try.prog 19 [.lst 6 (l.map recV)] [] (.own 36 6 (l.map recV)) [] := by
  refine runsT [2] Try.func19 rfl rfl rfl rfl ?_
  rw [Try.ntmps19]
  refine tri_seq ?_
  refine tri_region ?_
  refine s_mv (.inr rfl) (v := .nils) rfl rfl rfl rfl ?_
  refine rt_nil ?_
  refine tri_seq ?_
  refine tri_region ?_
  refine s_mv (.inl rfl) (by conv => lhs; whnf) rfl rfl rfl ?_
  refine s_len rfl sl24 (by first | exact congrArg some (List.length_map ..) | rfl) rfl rfl rfl ?_
  refine s_makeSlice rfl rfl rfl rfl rfl sl27 zc36 rfl rfl rfl rfl (by omega) rfl rfl rfl rfl ?_
  refine s_mv (.inr rfl) (by conv => lhs; whnf) rfl rfl rfl ?_
  refine rt_nil ?_
  refine tri_seq ?_
  refine tri_seq ?_
  refine tri_region ?_
  refine s_mv (.inr rfl) (v := .sc (.int .i64 0)) rfl rfl rfl rfl ?_
  refine rt_nil ?_
  refine tri_block ?_
  refine tri_loop (ι := {i : Nat // i ≤ l.length}) (fun p => inv19 l p.1) (fun p => l.length - p.1) ⟨0, Nat.zero_le _⟩ ?_ ?_
  · skip
    refine entT [((2003, 0), ⟨36, 6, (copied l 0).map recV, false, true⟩, some (7, 0))] [] ⟨⟨rfl, _, rfl, rfl, rfl, rfl, id, (copied_zero l), allFree_map recV_free, rowsZ_map recV_len⟩, trivial⟩ trivial rfl rfl ?_
    exact ⟨.free rfl, .ref rfl, .free rfl, trivial⟩
  · intro p
    obtain ⟨i, hi⟩ := p
    simp only
    refine tri_seq ?_
    refine tri_seq ?_
    refine tri_region ?_
    refine s_mv (.inl rfl) (by conv => lhs; whnf) rfl rfl rfl ?_
    refine s_mv (.inl rfl) (by conv => lhs; whnf) rfl rfl rfl ?_
    refine s_len rfl sl24 (by first | exact congrArg some (List.length_map ..) | rfl) rfl rfl rfl ?_
    refine s_of (st_lss rfl rfl rfl) rfl rfl rfl rfl ?_
    refine rt_nil ?_
    refine tri_cond rfl (fun hc11 => ?_) (fun hc11 => ?_)
    · skip
      have hlt : i < l.length := by simpa using hc11
      refine tri_skip ?_
      refine tri_seq ?_
      refine tri_block ?_
      refine tri_region ?_
      refine s_mv (.inl rfl) (by conv => lhs; whnf) rfl rfl rfl ?_
      refine s_mv (.inl rfl) (by conv => lhs; whnf) rfl rfl rfl ?_
      refine s_mv (.inl rfl) (by conv => lhs; whnf) rfl rfl rfl ?_
      refine s_mv (.inl rfl) (by conv => lhs; whnf) rfl rfl rfl ?_
      refine s_indexF rfl rfl rfl sl24 (by first | omega | (simp only [List.length_map]; omega)) rfl rfl rfl ?_
      refine s_loadFR rfl rfl (rowAt (by omega)) ty84 rfl rfl rfl ?_
      refine s_callA (kb := []) rfl rfl c65 (r65 _) rfl (.cons (relAgg rfl) .nil) rfl rfl rfl rfl ?_
      refine s_index rfl rfl rfl rfl sl27 rfl (by first | omega | (simp only [List.length_map]; omega)) rfl rfl rfl ?_
      refine s_store rfl rfl rfl (rowAt (by simp only [copied_len hi]; omega)) ty36 rfl rfl rfl rfl rfl rfl ?_
      refine rt_nil ?_
      refine tri_region ?_
      refine s_mv (.inl rfl) (by conv => lhs; whnf) rfl rfl rfl ?_
      refine s_inc (b := 1) rfl rfl rfl rfl (by omega) rfl rfl rfl ?_
      refine s_mv (.inr rfl) (by conv => lhs; whnf) rfl rfl rfl ?_
      refine rt_nil ?_
      refine Exists.intro ⟨i + 1, hlt⟩ (And.intro (by simp only; omega) ?_)
      refine entT [((2003, 0), ⟨36, 6, (copied l (i + 1)).map recV, false, true⟩, some (2003, 0))] [] ⟨⟨rfl, _, rfl, rfl, rfl, rfl, id, (copied_step hlt), allFree_map recV_free, rowsZ_map recV_len⟩, trivial⟩ trivial rfl rfl ?_
      exact ⟨.free rfl, .ref rfl, .free rfl, trivial⟩
    · skip
      have hge : i = l.length := by simp at hc11; omega
      subst hge
      refine tri_exit ?_
      refine tri_seq ?_
      refine tri_region ?_
      refine s_mv (.inl rfl) (by conv => lhs; whnf) rfl rfl rfl ?_
      refine s_mv (.inr rfl) (by conv => lhs; whnf) rfl rfl rfl ?_
      refine rt_nil ?_
      refine tri_ret ?_
      exact endT [((2000, 0), ⟨36, 6, l.map recV, false, true⟩, some (2003, 0))] [] ⟨⟨rfl, _, rfl, rfl, rfl, rfl, id, (by rw [copied_all]), allFree_map recV_free, rowsZ_map recV_len⟩, trivial⟩ trivial rfl rfl rfl (by show Cv _ _ _ _ _ (.ref (2000, 0) 0 (l.map recV).length); rw [List.length_map]; exact .ref rfl)

/- spec.LeastTtl -/
def inv18 (l : List Rec) (i : Nat) : St :=
  mkT 28 [(0, .lst 6 (l.map recV)), (3, .sc (.int .i64 (lst l i))), (4, .sc (.int .i64 ((i : Nat) : Int)))]
    []

set_option maxRecDepth 4000 in
theorem r18 (l : List Rec) (hl : l.length ≤ 9223372036854775807) : Runs Try.prog 18 [.lst 6 (l.map recV)] [] (.sc (.int .i64 (lst l l.length))) [] := by
  refine runsT [2] Try.func18 rfl rfl rfl rfl ?_
  rw [Try.ntmps18]
  refine tri_seq ?_
  refine tri_region ?_
  refine s_mv (.inr rfl) (v := .sc (.int .i64 0)) rfl rfl rfl rfl ?_
  refine rt_nil ?_
  refine tri_seq ?_
  refine tri_region ?_
  refine s_mv (.inr rfl) (v := .sc (.int .i64 0)) rfl rfl rfl rfl ?_
  refine rt_nil ?_
  refine tri_seq ?_
  refine tri_seq ?_
  refine tri_region ?_
  refine s_mv (.inr rfl) (v := .sc (.int .i64 0)) rfl rfl rfl rfl ?_
  refine rt_nil ?_
  refine tri_block ?_
  refine tri_loop (ι := {i : Nat // i ≤ l.length}) (fun p => inv18 l p.1) (fun p => l.length - p.1) ⟨0, Nat.zero_le _⟩ ?_ ?_
  · skip
    refine entT [] [] trivial trivial rfl rfl ?_
    exact ⟨.free rfl, .free rfl, .free rfl, trivial⟩
  · intro p
    obtain ⟨i, hi⟩ := p
    simp only
    refine tri_seq ?_
    refine tri_seq ?_
    refine tri_region ?_
    refine s_mv (.inl rfl) (by conv => lhs; whnf) rfl rfl rfl ?_
    refine s_mv (.inl rfl) (by conv => lhs; whnf) rfl rfl rfl ?_
    refine s_len rfl sl27 (by first | exact congrArg some (List.length_map ..) | rfl) rfl rfl rfl ?_
    refine s_of (st_lss rfl rfl rfl) rfl rfl rfl rfl ?_
    refine rt_nil ?_
    refine tri_cond rfl (fun hc8 => ?_) (fun hc8 => ?_)
    · skip
      have hlt : i < l.length := by simpa using hc8
      refine tri_skip ?_
      refine tri_seq ?_
      refine tri_block ?_
      refine tri_cut (mkT 28 [(21, .sc (.bool (decide (i = 0 ∨ l[i].c < lst l i)))), (0, .lst 6 (l.map recV)), (3, .sc (.int .i64 (lst l i))), (4, .sc (.int .i64 ((i : Nat) : Int)))] []) ?_ ?_
      · skip
        refine tri_region ?_
        refine s_mv (.inl rfl) (by conv => lhs; whnf) rfl rfl rfl ?_
        refine s_of (st_eqI rfl rfl rfl) rfl rfl rfl rfl ?_
        refine s_mv (.inl rfl) (by conv => lhs; whnf) rfl rfl rfl ?_
        refine s_split (t := 13) rfl (fun hb13 => ?_) (fun hb13 => ?_)
        · skip
          refine s_skip rfl rfl rfl ?_
          refine s_skip rfl rfl rfl ?_
          refine s_skip rfl rfl rfl ?_
          refine s_skip rfl rfl rfl ?_
          refine s_skip rfl rfl rfl ?_
          refine s_skip rfl rfl rfl ?_
          refine s_skip rfl rfl rfl ?_
          refine s_pickT rfl rfl (v := .sc (.bool true)) rfl rfl rfl rfl ?_
          refine rt_nil ?_
          refine entT [] [] trivial trivial rfl rfl ?_
          rw [show decide (i = 0 ∨ l[i].c < lst l i) = true from by simp at hb13; simp [hb13]]
          exact ⟨.free rfl, .free rfl, .free rfl, .free rfl, trivial⟩
        · skip
          refine s_mv (.inl rfl) (by conv => lhs; whnf) rfl rfl rfl ?_
          refine s_mv (.inl rfl) (by conv => lhs; whnf) rfl rfl rfl ?_
          refine s_indexF rfl rfl rfl sl27 (by first | omega | (simp only [List.length_map]; omega)) rfl rfl rfl ?_
          refine s_fieldAddrF rfl rfl fd36_2 rfl rfl rfl rfl ?_
          refine s_loadF rfl rfl (rowAt (by omega)) ty3 rfl (.inr rfl) (by conv => lhs; whnf) rfl rfl rfl ?_
          refine s_mv (.inl rfl) (by conv => lhs; whnf) rfl rfl rfl ?_
          refine s_of (st_lss rfl rfl rfl) rfl rfl rfl rfl ?_
          refine s_pickF rfl rfl (by conv => lhs; whnf) rfl rfl rfl ?_
          refine rt_nil ?_
          refine entT [] [] trivial trivial rfl rfl ?_
          rw [show decide (i = 0 ∨ l[i].c < lst l i) = decide (l[i].c < lst l i) from by simp at hb13; simp [hb13]]
          exact ⟨.free rfl, .free rfl, .free rfl, .free rfl, trivial⟩
      · skip
        refine tri_cond rfl (fun hc21 => ?_) (fun hc21 => ?_)
        · skip
          refine tri_region ?_
          refine s_mv (.inl rfl) (by conv => lhs; whnf) rfl rfl rfl ?_
          refine s_mv (.inl rfl) (by conv => lhs; whnf) rfl rfl rfl ?_
          refine s_indexF rfl rfl rfl sl27 (by first | omega | (simp only [List.length_map]; omega)) rfl rfl rfl ?_
          refine s_fieldAddrF rfl rfl fd36_2 rfl rfl rfl rfl ?_
          refine s_loadF rfl rfl (rowAt (by omega)) ty3 rfl (.inr rfl) (by conv => lhs; whnf) rfl rfl rfl ?_
          refine s_mv (.inr rfl) (by conv => lhs; whnf) rfl rfl rfl ?_
          refine rt_nil ?_
          refine tri_region ?_
          refine s_mv (.inl rfl) (by conv => lhs; whnf) rfl rfl rfl ?_
          refine s_inc (b := 1) rfl rfl rfl rfl (by omega) rfl rfl rfl ?_
          refine s_mv (.inr rfl) (by conv => lhs; whnf) rfl rfl rfl ?_
          refine rt_nil ?_
          refine Exists.intro ⟨i + 1, hlt⟩ (And.intro (by simp only; omega) ?_)
          refine entT [] [] trivial trivial rfl rfl ?_
          rw [lst_succ hlt, if_pos (by simpa using hc21)]
          exact ⟨.free rfl, .free rfl, .free rfl, trivial⟩
        · skip
          refine tri_skip ?_
          refine tri_region ?_
          refine s_mv (.inl rfl) (by conv => lhs; whnf) rfl rfl rfl ?_
          refine s_inc (b := 1) rfl rfl rfl rfl (by omega) rfl rfl rfl ?_
          refine s_mv (.inr rfl) (by conv => lhs; whnf) rfl rfl rfl ?_
          refine rt_nil ?_
          refine Exists.intro ⟨i + 1, hlt⟩ (And.intro (by simp only; omega) ?_)
          refine entT [] [] trivial trivial rfl rfl ?_
          rw [lst_succ hlt, if_neg (by simpa using hc21)]
          exact ⟨.free rfl, .free rfl, .free rfl, trivial⟩
    · skip
      have hge : i = l.length := by simp at hc8; omega
      subst hge
      refine tri_exit ?_
      refine tri_seq ?_
      refine tri_region ?_
      refine s_mv (.inl rfl) (by conv => lhs; whnf) rfl rfl rfl ?_
      refine s_mv (.inr rfl) (by conv => lhs; whnf) rfl rfl rfl ?_
      refine rt_nil ?_
      refine tri_ret ?_
      exact endInt rfl rfl rfl

/- impl.LeastTtl -/
def inv20 (l : List Rec) (i : Nat) : St :=
  mkT 25 [(13, .lst 6 (l.map recV)), (14, .sc (.int .i64 (l.length : Int))), (15, .sc (.int .i64 ((i : Nat) : Int))), (3, .sc (.int .i64 (mi l i)))]
    []

set_option maxRecDepth 4000 in
theorem r20 (l : List Rec) (hl : l.length ≤ 9223372036854775807) : Runs Try.prog 20 [.lst 6 (l.map recV)] [] (.sc (.int .i64 (lst l l.length))) [] := by
  refine runsT [2] Try.func20 rfl rfl rfl rfl ?_
  rw [Try.ntmps20]
  refine tri_seq ?_
  refine tri_region ?_
  refine s_mv (.inr rfl) (v := .sc (.int .i64 0)) rfl rfl rfl rfl ?_
  refine rt_nil ?_
  refine tri_seq ?_
  refine tri_seq ?_
  refine tri_region ?_
  refine s_mv (.inl rfl) (by conv => lhs; whnf) rfl rfl rfl ?_
  refine s_len rfl sl27 (by first | exact congrArg some (List.length_map ..) | rfl) rfl rfl rfl ?_
  refine s_of (st_eqI rfl rfl rfl) rfl rfl rfl rfl ?_
  refine rt_nil ?_
  refine tri_cond rfl (fun hc8 => ?_) (fun hc8 => ?_)
  · skip
    refine tri_seq ?_
    refine tri_region ?_
    refine s_mv (.inr rfl) (v := .sc (.int .i64 0)) rfl rfl rfl rfl ?_
    refine rt_nil ?_
    refine tri_ret ?_
    have h0 : l.length = 0 := by have := of_decide_eq_true hc8; omega
    exact endInt rfl (by rw [h0]; rfl) rfl
  · skip
    have hne : 0 < l.length := by have := of_decide_eq_false hc8; omega
    refine tri_skip ?_
    refine tri_seq ?_
    refine tri_region ?_
    refine s_mv (.inl rfl) (by conv => lhs; whnf) rfl rfl rfl ?_
    refine s_indexF (i := 0) rfl rfl rfl sl27 (by first | omega | (simp only [List.length_map]; omega)) rfl rfl rfl ?_
    refine s_fieldAddrF rfl rfl fd36_2 rfl rfl rfl rfl ?_
    refine s_loadF rfl rfl (rowAt (by omega)) ty3 rfl (.inr rfl) (by conv => lhs; whnf) rfl rfl rfl ?_
    refine s_mv (.inr rfl) (by conv => lhs; whnf) rfl rfl rfl ?_
    refine rt_nil ?_
    refine tri_seq ?_
    refine tri_seq ?_
    refine tri_region ?_
    refine s_mv (.inl rfl) (by conv => lhs; whnf) rfl rfl rfl ?_
    refine s_len rfl sl27 (by first | exact congrArg some (List.length_map ..) | rfl) rfl rfl rfl ?_
    refine s_mv (.inl rfl) (v := .sc (.int .i64 0)) rfl rfl rfl rfl ?_
    refine rt_nil ?_
    refine tri_block ?_
    refine tri_loop (ι := {i : Nat // i ≤ l.length}) (fun p => inv20 l p.1) (fun p => l.length - p.1) ⟨0, Nat.zero_le _⟩ ?_ ?_
    · skip
      refine entT [] [] trivial trivial rfl rfl ?_
      rw [mi_zero hne]
      exact ⟨.free rfl, .free rfl, .free rfl, .free rfl, trivial⟩
    · intro p
      obtain ⟨i, hi⟩ := p
      simp only
      refine tri_seq ?_
      refine tri_region ?_
      refine s_of (st_lss rfl rfl rfl) rfl rfl rfl rfl ?_
      refine rt_nil ?_
      refine tri_seq ?_
      refine tri_cond rfl (fun hc16 => ?_) (fun hc16 => ?_)
      · skip
        have hlt : i < l.length := by simpa using hc16
        refine tri_skip ?_
        refine tri_seq ?_
        refine tri_block ?_
        refine tri_seq ?_
        refine tri_region ?_
        refine s_indexF rfl rfl rfl sl27 (by first | omega | (simp only [List.length_map]; omega)) rfl rfl rfl ?_
        refine s_loadFR rfl rfl (rowAt (by omega)) ty36 rfl rfl rfl ?_
        refine s_alloc rfl rfl rfl zc36 rfl rfl rfl rfl rfl ?_
        refine s_storeB rfl rfl rfl ty36 rfl rfl rfl rfl rfl ?_
        refine rt_nil ?_
        refine tri_region ?_
        refine s_mv (.inl rfl) (by conv => lhs; whnf) rfl rfl rfl ?_
        refine s_fieldAddr rfl rfl fd36_2 rfl rfl rfl rfl ?_
        refine s_load rfl rfl rfl rfl ty3 rfl (.inr rfl) (by conv => lhs; whnf) rfl rfl rfl ?_
        refine s_of (st_minI rfl rfl rfl) rfl rfl rfl rfl ?_
        refine s_mv (.inr rfl) (by conv => lhs; whnf) rfl rfl rfl ?_
        refine rt_nil ?_
        refine tri_region ?_
        refine s_inc (b := 1) rfl rfl rfl rfl (by omega) rfl rfl rfl ?_
        refine s_mv (.inl rfl) (by conv => lhs; whnf) rfl rfl rfl ?_
        refine rt_nil ?_
        refine Exists.intro ⟨i + 1, hlt⟩ (And.intro (by simp only; omega) ?_)
        refine entT [] [] trivial trivial rfl rfl ?_
        rw [mi_succ hlt]
        exact ⟨.free rfl, .free rfl, .free rfl, .free rfl, trivial⟩
      · skip
        have hge : i = l.length := by simp at hc16; omega
        subst hge
        refine tri_exit ?_
        refine tri_seq ?_
        refine tri_region ?_
        refine s_mv (.inl rfl) (by conv => lhs; whnf) rfl rfl rfl ?_
        refine s_mv (.inr rfl) (by conv => lhs; whnf) rfl rfl rfl ?_
        refine rt_nil ?_
        refine tri_ret ?_
        exact endInt rfl (mi_end hne) rfl

/- laws.FnExactLeastTtl -/


set_option maxRecDepth 4000 in
theorem r4 (l : List Rec) (hl : l.length ≤ 9223372036854775807) (hr : ∀ r, r ∈ l → r.ok) : Runs Try.prog 4 [.lst 6 (l.map recV)] [] (.sc (.bool true)) [] := by
  refine runsT [2] Try.func4 rfl rfl rfl rfl ?_
  rw [Try.ntmps4]
  refine tri_seq ?_
  refine tri_region ?_
  refine s_mv (.inr rfl) (v := .sc (.bool false)) rfl rfl rfl rfl ?_
  refine rt_nil ?_
  refine tri_seq ?_
  refine tri_region ?_
  refine s_mv (.inr rfl) (v := .sc (.int .i64 1048576)) rfl rfl rfl rfl ?_
  refine rt_nil ?_
  refine tri_seq ?_
  refine tri_region ?_
  refine s_mv (.inl rfl) (by conv => lhs; whnf) rfl rfl rfl ?_
  refine s_mv (.inl rfl) (by conv => lhs; whnf) rfl rfl rfl ?_
  refine s_callV (kb := []) rfl rfl c17 (r17 _ _ ⟨by omega, by omega⟩ (by assumption) (by assumption)) rfl (.cons (.free rfl) (.cons (.free rfl) .nil)) rfl rfl rfl rfl ?_
  refine s_mv (.inr rfl) (by conv => lhs; whnf) rfl rfl rfl ?_
  refine rt_nil ?_
  refine tri_seq ?_
  refine tri_seq ?_
  refine tri_region ?_
  refine s_mv (.inl rfl) (by conv => lhs; whnf) rfl rfl rfl ?_
  refine s_of (st_lss rfl rfl rfl) rfl rfl rfl rfl ?_
  refine rt_nil ?_
  refine tri_cond rfl (fun hc11 => ?_) (fun hc11 => ?_)
  · skip
    refine tri_seq ?_
    refine tri_region ?_
    refine s_mv (.inr rfl) (v := .sc (.bool true)) rfl rfl rfl rfl ?_
    refine rt_nil ?_
    refine tri_ret ?_
    exact endBool rfl rfl rfl
  · skip
    have hs : 0 ≤ szS l 1048576 := by simpa using hc11
    have hlen : (l.length : Int) ≤ 1048576 := szS_len hs
    refine tri_skip ?_
    refine tri_seq ?_
    refine tri_region ?_
    refine s_mv (.inl rfl) (by conv => lhs; whnf) rfl rfl rfl ?_
    refine s_callO (kb := []) rfl rfl c19 (r19 _ (by omega)) rfl (.cons (.free rfl) .nil) (allSc_map recV_sc) (List.length_map ..) rfl rfl rfl rfl ?_
    refine s_callV (kb := [(13, 0)]) rfl rfl c18 (r18 l (by omega)) rfl (.cons (lend rfl (.head _) (by first | rfl | (simp only [List.length_map]; done) | simp only [List.length_map, mk_len]) (allFree_map recV_free) (rowsZ_map recV_len)) .nil) rfl rfl rfl rfl ?_
    refine s_mv (.inr rfl) (by conv => lhs; whnf) rfl rfl rfl ?_
    refine rt_nil ?_
    refine tri_seq ?_
    refine tri_region ?_
    refine s_mv (.inl rfl) (by conv => lhs; whnf) rfl rfl rfl ?_
    refine s_callO (kb := []) rfl rfl c19 (r19 _ (by omega)) rfl (.cons (.free rfl) .nil) (allSc_map recV_sc) (List.length_map ..) rfl rfl rfl rfl ?_
    refine s_mv (.inr rfl) (by conv => lhs; whnf) rfl rfl rfl ?_
    refine rt_nil ?_
    refine tri_seq ?_
    refine tri_region ?_
    refine s_mv (.inl rfl) (by conv => lhs; whnf) rfl rfl rfl ?_
    refine s_callV (kb := [(16, 0)]) rfl rfl c20 (r20 l (by omega)) rfl (.cons (lend rfl (.head _) (by first | rfl | (simp only [List.length_map]; done) | simp only [List.length_map, mk_len]) (allFree_map recV_free) (rowsZ_map recV_len)) .nil) rfl rfl rfl rfl ?_
    refine s_mv (.inr rfl) (by conv => lhs; whnf) rfl rfl rfl ?_
    refine rt_nil ?_
    refine tri_seq ?_
    refine tri_seq ?_
    refine tri_region ?_
    refine s_mv (.inl rfl) (by conv => lhs; whnf) rfl rfl rfl ?_
    refine s_mv (.inl rfl) (by conv => lhs; whnf) rfl rfl rfl ?_
    refine s_of (st_neI rfl rfl rfl) rfl rfl rfl rfl ?_
    refine rt_nil ?_
    refine tri_cond rfl (fun hc21 => ?_) (fun hc21 => ?_)
    · skip
      exact (by simp at hc21)
    · skip
      refine tri_skip ?_
      refine tri_seq ?_
      refine tri_seq ?_
      refine tri_region ?_
      refine s_mv (.inl rfl) (by conv => lhs; whnf) rfl rfl rfl ?_
      refine s_mv (.inl rfl) (by conv => lhs; whnf) rfl rfl rfl ?_
      refine s_callO (kb := []) rfl rfl c19 (r19 _ (by omega)) rfl (.cons (.free rfl) .nil) (allSc_map recV_sc) (List.length_map ..) rfl rfl rfl rfl ?_
      refine s_callV (kb := [(16, 0), (24, 0)]) rfl rfl c21 (r21 l l (by omega)) rfl (.cons (lend rfl (.head _) (by first | rfl | (simp only [List.length_map]; done) | simp only [List.length_map, mk_len]) (allFree_map recV_free) (rowsZ_map recV_len)) (.cons (lend rfl (.tail _ (.head _)) (by first | rfl | (simp only [List.length_map]; done) | simp only [List.length_map, mk_len]) (allFree_map recV_free) (rowsZ_map recV_len)) .nil)) rfl rfl rfl rfl ?_
      refine s_of (st_not rfl rfl) rfl rfl rfl rfl ?_
      refine rt_nil ?_
      refine tri_cond rfl (fun hc26 => ?_) (fun hc26 => ?_)
      · skip
        exact (by simp at hc26)
      · skip
        refine tri_skip ?_
        refine tri_seq ?_
        refine tri_region ?_
        refine s_mv (.inr rfl) (v := .sc (.bool true)) rfl rfl rfl rfl ?_
        refine rt_nil ?_
        refine tri_ret ?_
        exact endBool rfl rfl rfl

end Go.Abs.R1
