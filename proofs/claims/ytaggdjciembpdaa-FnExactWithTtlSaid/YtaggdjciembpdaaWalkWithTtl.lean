/- Walks of the functions that the law of WithTtl reaches: what each of them computes, for all values within the bounds that its premises name. -/
import Derived.Test.YtaggdjciembpdaaAbsB2
import Derived.Test.YtaggdjciembpdaaAbsA22
import Derived.Test.YtaggdjciembpdaaChecked
namespace Go.Abs.R1
open Go Go.Abs Go.Proofs

structure Rec where
  a : ByteArray
  b : Int
  c : Int
  d : Int
  e : ByteArray
  f : ByteArray
  deriving DecidableEq
def recV (r : Rec) : List V := [.sc (.string r.a), .sc (.int .i64 r.b), .sc (.int .i64 r.c), .sc (.int .i64 r.d), .sc (.string r.e), .sc (.string r.f)]
theorem recV_free (r : Rec) : (recV r).all (·.free) = true := rfl
theorem recV_sc (r : Rec) : (recV r).all isScN = true := rfl
theorem recV_len (r : Rec) : (recV r).length = 6 := rfl
def Rec.ok (r : Rec) : Prop := r.a.size ≤ 9223372036854775807 ∧ r.e.size ≤ 9223372036854775807 ∧ r.f.size ≤ 9223372036854775807
def szRec (r : Rec) (n : Int) : Int :=
  if n - r.a.size < 0 then -1 else if n - r.a.size - r.e.size < 0 then -1 else if n - r.a.size - r.e.size - r.f.size < 0 then -1 else n - r.a.size - r.e.size - r.f.size
theorem szRec_le {r : Rec} {n : Int} (hn : 0 ≤ n) (_ : r.ok) : szRec r n ≤ n := by
  unfold szRec; split
  · omega
  · split
    · omega
    · split <;> omega
def szL : List Rec → Int → Int
  | [], n => n
  | r :: l, n => if szRec r n < 0 then -1 else szL l (szRec r n)
def szS (l : List Rec) (n : Int) : Int := if n - l.length < 0 then -1 else szL l (n - l.length)
theorem szL_le : ∀ (l : List Rec) (n : Int), 0 ≤ n → (∀ r, r ∈ l → r.ok) → szL l n ≤ n
  | [], n, _, _ => Int.le_refl _
  | r :: l, n, hn, hr => by
    unfold szL
    split
    · omega
    · exact Int.le_trans (szL_le l _ (by omega) fun q hq => hr q (.tail _ hq)) (szRec_le hn (hr r (.head _)))
theorem szS_len {l : List Rec} {n : Int} (h : 0 ≤ szS l n) : (l.length : Int) ≤ n := by
  unfold szS at h
  split at h <;> omega
def zrec : Rec := ⟨⟨#[]⟩, 0, 0, 0, ⟨#[]⟩, ⟨#[]⟩⟩
def copied (l : List Rec) (i : Nat) : List Rec := l.take i ++ List.replicate (l.length - i) zrec
theorem copied_len {l : List Rec} {i : Nat} (h : i ≤ l.length) : (copied l i).length = l.length := by unfold copied; simp; omega
theorem copied_zero (l : List Rec) : (copied l 0).map recV = List.replicate l.length [V.sc (.string ⟨#[]⟩), V.sc (.int .i64 0), V.sc (.int .i64 0), V.sc (.int .i64 0), V.sc (.string ⟨#[]⟩), V.sc (.string ⟨#[]⟩)] := by
  unfold copied; simp [List.map_replicate, recV, zrec]
theorem copied_all (l : List Rec) : copied l l.length = l := by unfold copied; simp
theorem copied_set {l : List Rec} {i : Nat} (h : i < l.length) : (copied l i).set i l[i] = copied l (i + 1) := by
  unfold copied
  have e : l.length - i = (l.length - (i + 1)) + 1 := by omega
  rw [List.set_append_right _ _ (by simp; omega), List.length_take, Nat.min_eq_left (by omega), Nat.sub_self, e, List.replicate_succ, List.set_cons_zero, List.take_add_one, List.getElem?_eq_getElem h]
  simp only [Option.toList, List.append_assoc, List.singleton_append]
theorem copied_step {l : List Rec} {i : Nat} (h : i < l.length) {x : Rec} : (copied l (i + 1)).map recV = ((copied l i).map recV).set (0 + i) (splice (recV x) 0 (recV l[i])) := by
  rw [← copied_set h, List.map_set, Nat.zero_add]
  rfl
def dig (n : Int) : ByteArray := strOfNums [IntKind.u8.wrap (IntKind.i64.wrap (48 + n.tmod 10))]
theorem dig_size (n : Int) : (dig n).size = 1 := rfl
def digs : Nat → Int → ByteArray → ByteArray
  | 0, _, s => s
  | k + 1, n, s => if 0 < n then digs k (n / 10) (dig n ++ s) else s
theorem digs_zero {k : Nat} {n : Int} {s : ByteArray} (h : n ≤ 0) : digs k n s = s := by
  cases k
  · rfl
  · simp only [digs]; rw [if_neg (by omega)]
def markT (n : Int) : ByteArray := if n ≤ 0 then ⟨#[109, 48]⟩ else ⟨#[109]⟩ ++ digs n.toNat n ⟨#[]⟩
def markR (n : Int) : Rec := ⟨markT n, n + 1, n + 1 + 1, n + 1 + 1 + 1, markT (n + 1 + 1 + 1 + 1), markT (n + 1 + 1 + 1 + 1 + 1)⟩
def mk (n : Int) (k : Nat) : List Rec := (List.range k).map fun (i : Nat) => markR (n + 6 * (i : Int))
theorem mk_len (n : Int) (k : Nat) : (mk n k).length = k := by simp [mk]
theorem mk_succ (n : Int) (k : Nat) : mk n (k + 1) = mk n k ++ [markR (n + 6 * (k : Int))] := by simp [mk, List.range_succ]
theorem mk_at {l : List Rec} {n m : Int} {i : Nat} (hl : l = mk n l.length) (hlt : i < l.length) (hm : m = n + 6 * (i : Int)) : l[i] = markR m := by
  have h2 : (mk n l.length)[i]? = some (markR m) := by simp [mk, hlt, hm]
  have h3 : (mk n l.length)[i]? = some l[i] := by rw [← hl]; exact List.getElem?_eq_getElem hlt
  rw [h3] at h2
  exact Option.some.inj h2
def marked (l : List Rec) (n : Int) (i : Nat) : List Rec := mk n i ++ l.drop i
theorem marked_len {l : List Rec} {n : Int} {i : Nat} (h : i ≤ l.length) : (marked l n i).length = l.length := by unfold marked; simp [mk_len]; omega
theorem marked_zero (l : List Rec) (n : Int) : marked l n 0 = l := by simp [marked, mk]
theorem marked_all (l : List Rec) (n : Int) : marked l n l.length = mk n l.length := by simp [marked]
theorem marked_set {l : List Rec} {n m : Int} {i : Nat} (h : i < l.length) (hm : m = n + 6 * (i : Int)) : (marked l n i).set i (markR m) = marked l n (i + 1) := by
  unfold marked
  rw [List.set_append_right _ _ (by rw [mk_len]; omega), mk_len, Nat.sub_self, List.drop_eq_getElem_cons h, List.set_cons_zero, mk_succ, hm]
  simp
theorem marked_step {l : List Rec} {n m : Int} {i : Nat} (h : i < l.length) (hm : m = n + 6 * (i : Int)) : (marked l n (i + 1)).map recV = ((marked l n i).map recV).set (0 + i) (recV (markR m)) := by
  rw [← marked_set h hm, List.map_set, Nat.zero_add]
def setP (nm : ByteArray) (k : Int) (r : Rec) : Bool := decide (r.a = nm) && decide (r.b = k)
theorem filter_take {α : Type} {l : List α} {p : α → Bool} {i : Nat} (h : i < l.length) : (l.take (i + 1)).filter p = (l.take i).filter p ++ (if p l[i] then [l[i]] else []) := by
  rw [List.take_add_one, List.getElem?_eq_getElem h]
  simp only [Option.toList, List.filter_append, List.filter_cons, List.filter_nil]
def outR (l : List Rec) (nm : ByteArray) (k : Int) (i : Nat) : List Rec := (l.take i).filter (setP nm k)
theorem outR_len {l : List Rec} (nm : ByteArray) (k : Int) {i : Nat} (h : i ≤ l.length) : (outR l nm k i).length ≤ i := by
  unfold outR; exact Nat.le_trans (List.length_filter_le _ _) (by simp only [List.length_take]; omega)
def lst (l : List Rec) : Nat → Int
  | 0 => 0
  | i + 1 => if i = 0 ∨ ((l[i]?).map (·.c)).getD 0 < lst l i then ((l[i]?).map (·.c)).getD 0 else lst l i
theorem lst_succ {l : List Rec} {i : Nat} (h : i < l.length) : lst l (i + 1) = if i = 0 ∨ l[i].c < lst l i then l[i].c else lst l i := by simp [lst, h]
def mi (l : List Rec) (i : Nat) : Int := if i = 0 then ((l[0]?).map (·.c)).getD 0 else lst l i
theorem mi_zero {l : List Rec} (h : 0 < l.length) : mi l 0 = l[0].c := by simp [mi, h]
theorem mi_succ {l : List Rec} {i : Nat} (h : i < l.length) : mi l (i + 1) = if l[i].c < mi l i then l[i].c else mi l i := by
  have e : mi l (i + 1) = lst l (i + 1) := by simp [mi]
  rw [e, lst_succ h]
  cases i with
  | zero => simp [mi, h]
  | succ i => simp [mi]
theorem mi_end {l : List Rec} (h : 0 < l.length) : mi l l.length = lst l l.length := by unfold mi; rw [if_neg (by omega)]
def setC (k : Int) (r : Rec) : Rec := ⟨r.a, r.b, k, r.d, r.e, r.f⟩
def ttlU (l : List Rec) (k : Int) (i : Nat) : List Rec := (l.take i).map (setC k) ++ l.drop i
theorem ttlU_len {l : List Rec} {k : Int} {i : Nat} (h : i ≤ l.length) : (ttlU l k i).length = l.length := by unfold ttlU; simp; omega
theorem ttlU_zero (l : List Rec) (k : Int) : ttlU l k 0 = l := by simp [ttlU]
theorem ttlU_all (l : List Rec) (k : Int) : ttlU l k l.length = l.map (setC k) := by simp [ttlU]
theorem ttlU_set {l : List Rec} {k : Int} {i : Nat} (h : i < l.length) : (ttlU l k i).set i (setC k l[i]) = ttlU l k (i + 1) := by
  unfold ttlU
  rw [List.set_append_right _ _ (by simp; omega), List.length_map, List.length_take, Nat.min_eq_left (by omega), Nat.sub_self, List.drop_eq_getElem_cons h, List.set_cons_zero, List.take_add_one, List.getElem?_eq_getElem h]
  simp only [List.map_append, List.append_assoc, Option.toList, List.map_cons, List.map_nil, List.singleton_append]
theorem ttlU_at {l : List Rec} {k : Int} {i : Nat} (h : i < l.length) (h' : 0 + i < (ttlU l k i).length) : (ttlU l k i)[0 + i] = l[i] := by
  have : (ttlU l k i)[0 + i]? = some l[i] := by
    unfold ttlU
    rw [Nat.zero_add, List.getElem?_append_right (by simp; omega)]
    simp [Nat.min_eq_left (Nat.le_of_lt h), h]
  rw [List.getElem?_eq_getElem h'] at this
  exact Option.some.inj this
theorem ttlU_step {l : List Rec} {k : Int} {i : Nat} (h : i < l.length) {h' : 0 + i < (ttlU l k i).length} : (ttlU l k (i + 1)).map recV = ((ttlU l k i).map recV).set (0 + i) (splice (recV (ttlU l k i)[0 + i]) 2 [.sc (.int .i64 k)]) := by
  rw [ttlU_at h h', ← ttlU_set h, List.map_set, Nat.zero_add]; rfl
theorem mixed : Try.prog.follows .mixedOrders = true := by kernel_rfl

theorem byt62 : isBytes Try.prog 62 = some 5 := by kernel_rfl
theorem c17 : callable Try.prog 17 = true := by kernel_rfl
theorem c19 : callable Try.prog 19 = true := by kernel_rfl
theorem c21 : callable Try.prog 21 = true := by kernel_rfl
theorem c28 : callable Try.prog 28 = true := by kernel_rfl
theorem c34 : callable Try.prog 34 = true := by kernel_rfl
theorem c35 : callable Try.prog 35 = true := by kernel_rfl
theorem c36 : callable Try.prog 36 = true := by kernel_rfl
theorem c37 : callable Try.prog 37 = true := by kernel_rfl
theorem c64 : callable Try.prog 64 = true := by kernel_rfl
theorem c65 : callable Try.prog 65 = true := by kernel_rfl
theorem c71 : callable Try.prog 71 = true := by kernel_rfl
theorem c72 : callable Try.prog 72 = true := by kernel_rfl
theorem c73 : callable Try.prog 73 = true := by kernel_rfl
theorem fd36_0 : fldTy Try.prog 36 0 = some (0, 0 + 1, false) := by kernel_rfl
theorem fd36_1 : fldTy Try.prog 36 1 = some (1, 0 + 1, false) := by kernel_rfl
theorem fd36_2 : fldTy Try.prog 36 2 = some (2, 0 + 1, false) := by kernel_rfl
theorem fd36_3 : fldTy Try.prog 36 3 = some (3, 0 + 1, false) := by kernel_rfl
theorem fd36_4 : fldTy Try.prog 36 4 = some (4, 0 + 1, false) := by kernel_rfl
theorem fd36_5 : fldTy Try.prog 36 5 = some (5, 0 + 1, false) := by kernel_rfl
theorem fd84_0 : fldTy Try.prog 84 0 = some (0, 0 + 1, false) := by kernel_rfl
theorem fd84_1 : fldTy Try.prog 84 1 = some (1, 0 + 1, false) := by kernel_rfl
theorem fd84_2 : fldTy Try.prog 84 2 = some (2, 0 + 1, false) := by kernel_rfl
theorem fd84_3 : fldTy Try.prog 84 3 = some (3, 0 + 1, false) := by kernel_rfl
theorem fd84_4 : fldTy Try.prog 84 4 = some (4, 0 + 1, false) := by kernel_rfl
theorem fd84_5 : fldTy Try.prog 84 5 = some (5, 0 + 1, false) := by kernel_rfl
theorem ik3 : intK Try.prog 3 = some .i64 := by kernel_rfl
theorem ik5 : intK Try.prog 5 = some .u8 := by kernel_rfl
theorem iss9 : isStr Try.prog 9 = true := by kernel_rfl
theorem sl24 : slTy Try.prog 24 = some (84, 6, 72) := by kernel_rfl
theorem sl27 : slTy Try.prog 27 = some (36, 6, 72) := by kernel_rfl
theorem sl62 : slTy Try.prog 62 = some (5, 1, 1) := by kernel_rfl
theorem ty3 : tyK Try.prog 3 = some (false, 1) := by kernel_rfl
theorem ty36 : tyK Try.prog 36 = some (true, 6) := by kernel_rfl
theorem ty84 : tyK Try.prog 84 = some (true, 6) := by kernel_rfl
theorem ty9 : tyK Try.prog 9 = some (false, 1) := by kernel_rfl
theorem zc36 : zeroC Try.prog 36 = some [.string ⟨#[]⟩, .int .i64 0, .int .i64 0, .int .i64 0, .string ⟨#[]⟩, .string ⟨#[]⟩] := by kernel_rfl
theorem zc5 : zeroC Try.prog 5 = some [.int .u8 0] := by kernel_rfl

/- laws.eqRecord -/


set_option maxRecDepth 4000 in
theorem r28 (r q : Rec) : Runs Try.prog 28 [.agg (recV r), .agg (recV q)] [] (.sc (.bool (decide (r = q)))) [] := by
  refine runsT [4] Try.func28 rfl rfl rfl rfl ?_
  rw [Try.ntmps28]
  refine tri_seq ?_
  refine tri_region ?_
  refine s_box rfl rfl rfl rfl rfl rfl rfl ?_
  refine s_box rfl rfl rfl rfl rfl rfl rfl ?_
  refine s_mv (.inr rfl) (v := .sc (.bool false)) rfl rfl rfl rfl ?_
  refine rt_nil ?_
  refine tri_seq ?_
  refine tri_seq ?_
  refine tri_region ?_
  refine s_fieldAddr rfl rfl fd36_0 rfl rfl rfl rfl ?_
  refine s_load rfl rfl rfl rfl ty9 rfl (.inr rfl) (by conv => lhs; whnf) rfl rfl rfl ?_
  refine s_fieldAddr rfl rfl fd36_0 rfl rfl rfl rfl ?_
  refine s_load rfl rfl rfl rfl ty9 rfl (.inr rfl) (by conv => lhs; whnf) rfl rfl rfl ?_
  refine s_of (st_neS rfl rfl rfl) rfl rfl rfl rfl ?_
  refine rt_nil ?_
  refine tri_cond rfl (fun hc9 => ?_) (fun hc9 => ?_)
  · skip
    refine tri_seq ?_
    refine tri_region ?_
    refine s_mv (.inr rfl) (v := .sc (.bool false)) rfl rfl rfl rfl ?_
    refine rt_nil ?_
    refine tri_ret ?_
    exact endBool rfl (by symm; simp only [decide_eq_false_iff_not]; intro e; subst e; simp at hc9) rfl
  · skip
    refine tri_skip ?_
    refine tri_seq ?_
    refine tri_seq ?_
    refine tri_region ?_
    refine s_fieldAddr rfl rfl fd36_1 rfl rfl rfl rfl ?_
    refine s_load rfl rfl rfl rfl ty3 rfl (.inr rfl) (by conv => lhs; whnf) rfl rfl rfl ?_
    refine s_fieldAddr rfl rfl fd36_1 rfl rfl rfl rfl ?_
    refine s_load rfl rfl rfl rfl ty3 rfl (.inr rfl) (by conv => lhs; whnf) rfl rfl rfl ?_
    refine s_of (st_neI rfl rfl rfl) rfl rfl rfl rfl ?_
    refine rt_nil ?_
    refine tri_cond rfl (fun hc14 => ?_) (fun hc14 => ?_)
    · skip
      refine tri_seq ?_
      refine tri_region ?_
      refine s_mv (.inr rfl) (v := .sc (.bool false)) rfl rfl rfl rfl ?_
      refine rt_nil ?_
      refine tri_ret ?_
      exact endBool rfl (by symm; simp only [decide_eq_false_iff_not]; intro e; subst e; simp at hc14) rfl
    · skip
      refine tri_skip ?_
      refine tri_seq ?_
      refine tri_seq ?_
      refine tri_region ?_
      refine s_fieldAddr rfl rfl fd36_2 rfl rfl rfl rfl ?_
      refine s_load rfl rfl rfl rfl ty3 rfl (.inr rfl) (by conv => lhs; whnf) rfl rfl rfl ?_
      refine s_fieldAddr rfl rfl fd36_2 rfl rfl rfl rfl ?_
      refine s_load rfl rfl rfl rfl ty3 rfl (.inr rfl) (by conv => lhs; whnf) rfl rfl rfl ?_
      refine s_of (st_neI rfl rfl rfl) rfl rfl rfl rfl ?_
      refine rt_nil ?_
      refine tri_cond rfl (fun hc19 => ?_) (fun hc19 => ?_)
      · skip
        refine tri_seq ?_
        refine tri_region ?_
        refine s_mv (.inr rfl) (v := .sc (.bool false)) rfl rfl rfl rfl ?_
        refine rt_nil ?_
        refine tri_ret ?_
        exact endBool rfl (by symm; simp only [decide_eq_false_iff_not]; intro e; subst e; simp at hc19) rfl
      · skip
        refine tri_skip ?_
        refine tri_seq ?_
        refine tri_seq ?_
        refine tri_region ?_
        refine s_fieldAddr rfl rfl fd36_3 rfl rfl rfl rfl ?_
        refine s_load rfl rfl rfl rfl ty3 rfl (.inr rfl) (by conv => lhs; whnf) rfl rfl rfl ?_
        refine s_fieldAddr rfl rfl fd36_3 rfl rfl rfl rfl ?_
        refine s_load rfl rfl rfl rfl ty3 rfl (.inr rfl) (by conv => lhs; whnf) rfl rfl rfl ?_
        refine s_of (st_neI rfl rfl rfl) rfl rfl rfl rfl ?_
        refine rt_nil ?_
        refine tri_cond rfl (fun hc24 => ?_) (fun hc24 => ?_)
        · skip
          refine tri_seq ?_
          refine tri_region ?_
          refine s_mv (.inr rfl) (v := .sc (.bool false)) rfl rfl rfl rfl ?_
          refine rt_nil ?_
          refine tri_ret ?_
          exact endBool rfl (by symm; simp only [decide_eq_false_iff_not]; intro e; subst e; simp at hc24) rfl
        · skip
          refine tri_skip ?_
          refine tri_seq ?_
          refine tri_seq ?_
          refine tri_region ?_
          refine s_fieldAddr rfl rfl fd36_4 rfl rfl rfl rfl ?_
          refine s_load rfl rfl rfl rfl ty9 rfl (.inr rfl) (by conv => lhs; whnf) rfl rfl rfl ?_
          refine s_fieldAddr rfl rfl fd36_4 rfl rfl rfl rfl ?_
          refine s_load rfl rfl rfl rfl ty9 rfl (.inr rfl) (by conv => lhs; whnf) rfl rfl rfl ?_
          refine s_of (st_neS rfl rfl rfl) rfl rfl rfl rfl ?_
          refine rt_nil ?_
          refine tri_cond rfl (fun hc29 => ?_) (fun hc29 => ?_)
          · skip
            refine tri_seq ?_
            refine tri_region ?_
            refine s_mv (.inr rfl) (v := .sc (.bool false)) rfl rfl rfl rfl ?_
            refine rt_nil ?_
            refine tri_ret ?_
            exact endBool rfl (by symm; simp only [decide_eq_false_iff_not]; intro e; subst e; simp at hc29) rfl
          · skip
            refine tri_skip ?_
            refine tri_seq ?_
            refine tri_seq ?_
            refine tri_region ?_
            refine s_fieldAddr rfl rfl fd36_5 rfl rfl rfl rfl ?_
            refine s_load rfl rfl rfl rfl ty9 rfl (.inr rfl) (by conv => lhs; whnf) rfl rfl rfl ?_
            refine s_fieldAddr rfl rfl fd36_5 rfl rfl rfl rfl ?_
            refine s_load rfl rfl rfl rfl ty9 rfl (.inr rfl) (by conv => lhs; whnf) rfl rfl rfl ?_
            refine s_of (st_neS rfl rfl rfl) rfl rfl rfl rfl ?_
            refine rt_nil ?_
            refine tri_cond rfl (fun hc34 => ?_) (fun hc34 => ?_)
            · skip
              refine tri_seq ?_
              refine tri_region ?_
              refine s_mv (.inr rfl) (v := .sc (.bool false)) rfl rfl rfl rfl ?_
              refine rt_nil ?_
              refine tri_ret ?_
              exact endBool rfl (by symm; simp only [decide_eq_false_iff_not]; intro e; subst e; simp at hc34) rfl
            · skip
              refine tri_skip ?_
              refine tri_seq ?_
              refine tri_region ?_
              refine s_mv (.inr rfl) (v := .sc (.bool true)) rfl rfl rfl rfl ?_
              refine rt_nil ?_
              refine tri_ret ?_
              exact endBool rfl (by symm; simp only [decide_eq_true_eq]; cases r; cases q; simp_all) rfl

/- laws.eqRecordS -/
def inv21 (l q : List Rec) (i : Nat) : St :=
  mkT 27 [(0, .lst 6 (l.map recV)), (1, .lst 6 (q.map recV)), (5, .sc (.int .i64 ((i : Nat) : Int)))]
    []

set_option maxRecDepth 4000 in
theorem r21 (l q : List Rec) (hl : l.length ≤ 9223372036854775807) : Runs Try.prog 21 [.lst 6 (l.map recV), .lst 6 (q.map recV)] [] (.sc (.bool (decide (l = q)))) [] := by
  refine runsT [4] Try.func21 rfl rfl rfl rfl ?_
  rw [Try.ntmps21]
  refine tri_seq ?_
  refine tri_region ?_
  refine s_mv (.inr rfl) (v := .sc (.bool false)) rfl rfl rfl rfl ?_
  refine rt_nil ?_
  refine tri_seq ?_
  refine tri_seq ?_
  refine tri_region ?_
  refine s_mv (.inl rfl) (by conv => lhs; whnf) rfl rfl rfl ?_
  refine s_len rfl sl27 (by first | exact congrArg some (List.length_map ..) | rfl) rfl rfl rfl ?_
  refine s_mv (.inl rfl) (by conv => lhs; whnf) rfl rfl rfl ?_
  refine s_len rfl sl27 (by first | exact congrArg some (List.length_map ..) | rfl) rfl rfl rfl ?_
  refine s_of (st_neI rfl rfl rfl) rfl rfl rfl rfl ?_
  refine rt_nil ?_
  refine tri_cond rfl (fun hc10 => ?_) (fun hc10 => ?_)
  · skip
    refine tri_seq ?_
    refine tri_region ?_
    refine s_mv (.inr rfl) (v := .sc (.bool false)) rfl rfl rfl rfl ?_
    refine rt_nil ?_
    refine tri_ret ?_
    exact endBool rfl (by symm; simp only [decide_eq_false_iff_not]; intro e; subst e; simp at hc10) rfl
  · skip
    have hlq : l.length = q.length := by simp at hc10; omega
    refine tri_skip ?_
    refine tri_seq ?_
    refine tri_seq ?_
    refine tri_region ?_
    refine s_mv (.inr rfl) (v := .sc (.int .i64 0)) rfl rfl rfl rfl ?_
    refine rt_nil ?_
    refine tri_block ?_
    refine tri_loop (ι := {i : Nat // i ≤ l.length ∧ l.take i = q.take i}) (fun p => inv21 l q p.1) (fun p => l.length - p.1) ⟨0, Nat.zero_le _, rfl⟩ ?_ ?_
    · skip
      refine entT [] [] trivial trivial rfl rfl ?_
      exact ⟨.free rfl, .free rfl, .free rfl, trivial⟩
    · intro p
      obtain ⟨i, hi, ht⟩ := p
      simp only
      refine tri_seq ?_
      refine tri_seq ?_
      refine tri_region ?_
      refine s_mv (.inl rfl) (by conv => lhs; whnf) rfl rfl rfl ?_
      refine s_mv (.inl rfl) (by conv => lhs; whnf) rfl rfl rfl ?_
      refine s_len rfl sl27 (by first | exact congrArg some (List.length_map ..) | rfl) rfl rfl rfl ?_
      refine s_of (st_lss rfl rfl rfl) rfl rfl rfl rfl ?_
      refine rt_nil ?_
      refine tri_cond rfl (fun hc14 => ?_) (fun hc14 => ?_)
      · skip
        have hlt : i < l.length := by simpa using hc14
        refine tri_skip ?_
        refine tri_seq ?_
        refine tri_block ?_
        refine tri_seq ?_
        refine tri_draw mixed ?_
        refine s_mv (.inl rfl) (by conv => lhs; whnf) rfl rfl rfl ?_
        refine s_mv (.inl rfl) (by conv => lhs; whnf) rfl rfl rfl ?_
        refine s_indexF rfl rfl rfl sl27 (by first | omega | (simp only [List.length_map]; omega)) rfl rfl rfl ?_
        refine s_loadFR rfl rfl (rowAt (by omega)) ty36 rfl rfl rfl ?_
        refine s_mv (.inl rfl) (by conv => lhs; whnf) rfl rfl rfl ?_
        refine s_mv (.inl rfl) (by conv => lhs; whnf) rfl rfl rfl ?_
        refine s_indexF rfl rfl rfl sl27 (by first | omega | (simp only [List.length_map]; omega)) rfl rfl rfl ?_
        refine s_loadFR rfl rfl (rowAt (by omega)) ty36 rfl rfl rfl ?_
        refine s_callV (kb := []) rfl rfl c28 (r28 _ _) rfl (.cons (relAgg rfl) (.cons (relAgg rfl) .nil)) rfl rfl rfl rfl ?_
        refine s_of (st_not rfl rfl) rfl rfl rfl rfl ?_
        refine rt_nil ⟨by kernel_rfl, ?_⟩
        refine tri_cond rfl (fun hc26 => ?_) (fun hc26 => ?_)
        · skip
          have hne : l[i] ≠ q[i] := by simpa using hc26
          refine tri_seq ?_
          refine tri_region ?_
          refine s_mv (.inr rfl) (v := .sc (.bool false)) rfl rfl rfl rfl ?_
          refine rt_nil ?_
          refine tri_ret ?_
          exact endBool rfl (by symm; simp only [decide_eq_false_iff_not]; intro e; subst e; exact hne rfl) rfl
        · skip
          have heq : l[i] = q[i] := by simpa using hc26
          have hnx : l.take (i + 1) = q.take (i + 1) := by rw [List.take_add_one, List.take_add_one, ht, List.getElem?_eq_getElem hlt, List.getElem?_eq_getElem (hlq ▸ hlt), heq]
          refine tri_skip ?_
          refine tri_region ?_
          refine s_mv (.inl rfl) (by conv => lhs; whnf) rfl rfl rfl ?_
          refine s_inc (b := 1) rfl rfl rfl rfl (by omega) rfl rfl rfl ?_
          refine s_mv (.inr rfl) (by conv => lhs; whnf) rfl rfl rfl ?_
          refine rt_nil ?_
          refine Exists.intro ⟨i + 1, hlt, hnx⟩ (And.intro (by simp only; omega) ?_)
          refine entT [] [] trivial trivial rfl rfl ?_
          exact ⟨.free rfl, .free rfl, .free rfl, trivial⟩
      · skip
        have hge : i = l.length := by simp at hc14; omega
        refine tri_exit ?_
        refine tri_seq ?_
        refine tri_region ?_
        refine s_mv (.inr rfl) (v := .sc (.bool true)) rfl rfl rfl rfl ?_
        refine rt_nil ?_
        refine tri_ret ?_
        exact endBool rfl (by symm; simp only [decide_eq_true_eq]; rw [hge, List.take_length, hlq, List.take_length] at ht; exact ht) rfl

/- laws.szRecord -/


set_option maxRecDepth 4000 in
theorem r64 (r : Rec) (n : Int) (hn : 0 ≤ n ∧ n ≤ 1048576) (hr : r.ok) : Runs Try.prog 64 [.agg (recV r), .sc (.int .i64 n)] [] (.sc (.int .i64 (szRec r n))) [] := by
  unfold Rec.ok at hr
  refine runsT [4] Try.func64 rfl rfl rfl rfl ?_
  rw [Try.ntmps64]
  refine tri_seq ?_
  refine tri_region ?_
  refine s_box rfl rfl rfl rfl rfl rfl rfl ?_
  refine s_mv (.inr rfl) (v := .sc (.int .i64 0)) rfl rfl rfl rfl ?_
  refine rt_nil ?_
  refine tri_seq ?_
  refine tri_region ?_
  refine s_mv (.inl rfl) (by conv => lhs; whnf) rfl rfl rfl ?_
  refine s_fieldAddr rfl rfl fd84_0 rfl rfl rfl rfl ?_
  refine s_load rfl rfl rfl rfl ty9 rfl (.inr rfl) (by conv => lhs; whnf) rfl rfl rfl ?_
  refine s_of (st_lenS rfl rfl iss9) rfl rfl rfl rfl ?_
  refine s_subI rfl rfl rfl rfl (by omega) rfl rfl rfl ?_
  refine s_mv (.inr rfl) (by conv => lhs; whnf) rfl rfl rfl ?_
  refine rt_nil ?_
  refine tri_seq ?_
  refine tri_seq ?_
  refine tri_region ?_
  refine s_mv (.inl rfl) (by conv => lhs; whnf) rfl rfl rfl ?_
  refine s_of (st_lss rfl rfl rfl) rfl rfl rfl rfl ?_
  refine rt_nil ?_
  refine tri_cond rfl (fun hc11 => ?_) (fun hc11 => ?_)
  · skip
    simp at hc11
    refine tri_seq ?_
    refine tri_region ?_
    refine s_mv (.inr rfl) (v := .sc (.int .i64 (-1))) rfl rfl rfl rfl ?_
    refine rt_nil ?_
    refine tri_ret ?_
    exact endInt rfl (by unfold szRec; first | (split <;> omega) | (split <;> first | omega | (split <;> first | omega | (split <;> omega)))) rfl
  · skip
    simp at hc11
    refine tri_skip ?_
    refine tri_seq ?_
    refine tri_region ?_
    refine s_mv (.inl rfl) (by conv => lhs; whnf) rfl rfl rfl ?_
    refine s_fieldAddr rfl rfl fd84_4 rfl rfl rfl rfl ?_
    refine s_load rfl rfl rfl rfl ty9 rfl (.inr rfl) (by conv => lhs; whnf) rfl rfl rfl ?_
    refine s_of (st_lenS rfl rfl iss9) rfl rfl rfl rfl ?_
    refine s_subI rfl rfl rfl rfl (by omega) rfl rfl rfl ?_
    refine s_mv (.inr rfl) (by conv => lhs; whnf) rfl rfl rfl ?_
    refine rt_nil ?_
    refine tri_seq ?_
    refine tri_seq ?_
    refine tri_region ?_
    refine s_mv (.inl rfl) (by conv => lhs; whnf) rfl rfl rfl ?_
    refine s_of (st_lss rfl rfl rfl) rfl rfl rfl rfl ?_
    refine rt_nil ?_
    refine tri_cond rfl (fun hc18 => ?_) (fun hc18 => ?_)
    · skip
      simp at hc18
      refine tri_seq ?_
      refine tri_region ?_
      refine s_mv (.inr rfl) (v := .sc (.int .i64 (-1))) rfl rfl rfl rfl ?_
      refine rt_nil ?_
      refine tri_ret ?_
      exact endInt rfl (by unfold szRec; first | (split <;> omega) | (split <;> first | omega | (split <;> first | omega | (split <;> omega)))) rfl
    · skip
      simp at hc18
      refine tri_skip ?_
      refine tri_seq ?_
      refine tri_region ?_
      refine s_mv (.inl rfl) (by conv => lhs; whnf) rfl rfl rfl ?_
      refine s_fieldAddr rfl rfl fd84_5 rfl rfl rfl rfl ?_
      refine s_load rfl rfl rfl rfl ty9 rfl (.inr rfl) (by conv => lhs; whnf) rfl rfl rfl ?_
      refine s_of (st_lenS rfl rfl iss9) rfl rfl rfl rfl ?_
      refine s_subI rfl rfl rfl rfl (by omega) rfl rfl rfl ?_
      refine s_mv (.inr rfl) (by conv => lhs; whnf) rfl rfl rfl ?_
      refine rt_nil ?_
      refine tri_seq ?_
      refine tri_seq ?_
      refine tri_region ?_
      refine s_mv (.inl rfl) (by conv => lhs; whnf) rfl rfl rfl ?_
      refine s_of (st_lss rfl rfl rfl) rfl rfl rfl rfl ?_
      refine rt_nil ?_
      refine tri_cond rfl (fun hc25 => ?_) (fun hc25 => ?_)
      · skip
        simp at hc25
        refine tri_seq ?_
        refine tri_region ?_
        refine s_mv (.inr rfl) (v := .sc (.int .i64 (-1))) rfl rfl rfl rfl ?_
        refine rt_nil ?_
        refine tri_ret ?_
        exact endInt rfl (by unfold szRec; first | (split <;> omega) | (split <;> first | omega | (split <;> first | omega | (split <;> omega)))) rfl
      · skip
        simp at hc25
        refine tri_skip ?_
        refine tri_seq ?_
        refine tri_region ?_
        refine s_mv (.inl rfl) (by conv => lhs; whnf) rfl rfl rfl ?_
        refine s_mv (.inr rfl) (by conv => lhs; whnf) rfl rfl rfl ?_
        refine rt_nil ?_
        refine tri_ret ?_
        exact endInt rfl (by unfold szRec; first | (split <;> omega) | (split <;> first | omega | (split <;> first | omega | (split <;> omega)))) rfl

/- laws.szRecordS -/
def inv17 (l : List Rec) (i : Nat) (m : Int) : St :=
  mkT 27 [(0, .lst 6 (l.map recV)), (1, .sc (.int .i64 m)), (5, .sc (.int .i64 ((i : Nat) : Int)))]
    []

set_option maxRecDepth 4000 in
theorem r17 (l : List Rec) (n : Int) (hn : 0 ≤ n ∧ n ≤ 1048576) (hl : l.length ≤ 9223372036854775807) (hr : ∀ r, r ∈ l → r.ok) : Runs Try.prog 17 [.lst 6 (l.map recV), .sc (.int .i64 n)] [] (.sc (.int .i64 (szS l n))) [] := by
  refine runsT [4] Try.func17 rfl rfl rfl rfl ?_
  rw [Try.ntmps17]
  refine tri_seq ?_
  refine tri_region ?_
  refine s_mv (.inr rfl) (v := .sc (.int .i64 0)) rfl rfl rfl rfl ?_
  refine rt_nil ?_
  refine tri_seq ?_
  refine tri_region ?_
  refine s_mv (.inl rfl) (by conv => lhs; whnf) rfl rfl rfl ?_
  refine s_mv (.inl rfl) (by conv => lhs; whnf) rfl rfl rfl ?_
  refine s_len rfl sl24 (by first | exact congrArg some (List.length_map ..) | rfl) rfl rfl rfl ?_
  refine s_subI rfl rfl rfl rfl (by omega) rfl rfl rfl ?_
  refine s_mv (.inr rfl) (by conv => lhs; whnf) rfl rfl rfl ?_
  refine rt_nil ?_
  refine tri_seq ?_
  refine tri_seq ?_
  refine tri_region ?_
  refine s_mv (.inl rfl) (by conv => lhs; whnf) rfl rfl rfl ?_
  refine s_of (st_lss rfl rfl rfl) rfl rfl rfl rfl ?_
  refine rt_nil ?_
  refine tri_cond rfl (fun hc11 => ?_) (fun hc11 => ?_)
  · skip
    refine tri_seq ?_
    refine tri_region ?_
    refine s_mv (.inr rfl) (v := .sc (.int .i64 (-1))) rfl rfl rfl rfl ?_
    refine rt_nil ?_
    refine tri_ret ?_
    exact endInt rfl (by unfold szS; rw [if_pos (by simpa using hc11)]) rfl
  · skip
    refine tri_skip ?_
    refine tri_seq ?_
    refine tri_seq ?_
    refine tri_region ?_
    refine s_mv (.inr rfl) (v := .sc (.int .i64 0)) rfl rfl rfl rfl ?_
    refine rt_nil ?_
    refine tri_block ?_
    refine tri_loop (ι := {p : Nat × Int // p.1 ≤ l.length ∧ 0 ≤ p.2 ∧ p.2 ≤ 1048576 ∧ szL (l.drop p.1) p.2 = szS l n}) (fun p => inv17 l p.1.1 p.1.2) (fun p => l.length - p.1.1) ⟨(0, n - l.length), Nat.zero_le _, by simp at hc11 ⊢; omega, by simp at hc11 ⊢; omega, by simp only [List.drop_zero]; unfold szS; rw [if_neg (by simp at hc11 ⊢; omega)]⟩ ?_ ?_
    · skip
      refine entT [] [] trivial trivial rfl rfl ?_
      exact ⟨.free rfl, .free rfl, .free rfl, trivial⟩
    · intro p
      obtain ⟨⟨i, m⟩, hi, hm0, hm1, hs⟩ := p
      simp only at hi hm0 hm1 hs ⊢
      refine tri_seq ?_
      refine tri_seq ?_
      refine tri_region ?_
      refine s_mv (.inl rfl) (by conv => lhs; whnf) rfl rfl rfl ?_
      refine s_mv (.inl rfl) (by conv => lhs; whnf) rfl rfl rfl ?_
      refine s_len rfl sl24 (by first | exact congrArg some (List.length_map ..) | rfl) rfl rfl rfl ?_
      refine s_of (st_lss rfl rfl rfl) rfl rfl rfl rfl ?_
      refine rt_nil ?_
      refine tri_cond rfl (fun hc15 => ?_) (fun hc15 => ?_)
      · skip
        have hlt : i < l.length := by simpa using hc15
        have hri : (l[i]).ok := hr _ (List.getElem_mem hlt)
        have hdr : l.drop i = l[i] :: l.drop (i + 1) := List.drop_eq_getElem_cons hlt
        refine tri_skip ?_
        refine tri_seq ?_
        refine tri_block ?_
        refine tri_seq ?_
        refine tri_region ?_
        refine s_mv (.inl rfl) (by conv => lhs; whnf) rfl rfl rfl ?_
        refine s_mv (.inl rfl) (by conv => lhs; whnf) rfl rfl rfl ?_
        refine s_indexF rfl rfl rfl sl24 (by first | omega | (simp only [List.length_map]; omega)) rfl rfl rfl ?_
        refine s_loadFR rfl rfl (rowAt (by omega)) ty84 rfl rfl rfl ?_
        refine s_mv (.inl rfl) (by conv => lhs; whnf) rfl rfl rfl ?_
        refine s_callV (kb := []) rfl rfl c64 (r64 _ _ ⟨by omega, by omega⟩ (by assumption)) rfl (.cons (relAgg rfl) (.cons (.free rfl) .nil)) rfl rfl rfl rfl ?_
        refine s_mv (.inr rfl) (by conv => lhs; whnf) rfl rfl rfl ?_
        refine rt_nil ?_
        refine tri_seq ?_
        refine tri_region ?_
        refine s_mv (.inl rfl) (by conv => lhs; whnf) rfl rfl rfl ?_
        refine s_of (st_lss rfl rfl rfl) rfl rfl rfl rfl ?_
        refine rt_nil ?_
        refine tri_cond rfl (fun hc25 => ?_) (fun hc25 => ?_)
        · skip
          have hz : szRec l[i] m < 0 := by simpa using hc25
          refine tri_seq ?_
          refine tri_region ?_
          refine s_mv (.inr rfl) (v := .sc (.int .i64 (-1))) rfl rfl rfl rfl ?_
          refine rt_nil ?_
          refine tri_ret ?_
          exact endInt rfl (by rw [← hs, hdr]; unfold szL; rw [if_pos hz]) rfl
        · skip
          have hz : 0 ≤ szRec l[i] m := by simpa using hc25
          have hnx : szL (l.drop (i + 1)) (szRec l[i] m) = szS l n := by rw [← hs, hdr]; unfold szL; rw [if_neg (by omega)]; cases l.drop (i + 1) <;> rfl
          refine tri_skip ?_
          refine tri_region ?_
          refine s_mv (.inl rfl) (by conv => lhs; whnf) rfl rfl rfl ?_
          refine s_inc (b := 1) rfl rfl rfl rfl (by omega) rfl rfl rfl ?_
          refine s_mv (.inr rfl) (by conv => lhs; whnf) rfl rfl rfl ?_
          refine rt_nil ?_
          refine Exists.intro ⟨(i + 1, szRec l[i] m), hlt, hz, by have := szRec_le hm0 hri; simp only; omega, hnx⟩ (And.intro (by simp only; omega) ?_)
          refine entT [] [] trivial trivial rfl rfl ?_
          exact ⟨.free rfl, .free rfl, .free rfl, trivial⟩
      · skip
        have hge : i = l.length := by simp at hc15; omega
        refine tri_exit ?_
        refine tri_seq ?_
        refine tri_region ?_
        refine s_mv (.inl rfl) (by conv => lhs; whnf) rfl rfl rfl ?_
        refine s_mv (.inr rfl) (by conv => lhs; whnf) rfl rfl rfl ?_
        refine rt_nil ?_
        refine tri_ret ?_
        exact endInt rfl (by rw [← hs, hge, List.drop_length]; rfl) rfl

/- laws.toRecord -/


set_option maxRecDepth 4000 in
theorem r65 (r : Rec) : Runs Try.prog 65 [.agg (recV r)] [] (.agg (recV r)) [] := by
  refine runsR [.cell 2 36] Try.func65 rfl rfl rfl rfl ?_
  rw [Try.ntmps65]
  refine tri_seq ?_
  refine tri_region ?_
  refine s_box rfl rfl rfl rfl rfl rfl rfl ?_
  refine s_alloc rfl rfl rfl zc36 rfl rfl rfl rfl rfl ?_
  refine rt_nil ?_
  refine tri_seq ?_
  refine tri_region ?_
  refine s_alloc rfl rfl rfl zc36 rfl rfl rfl rfl rfl ?_
  refine rt_nil ?_
  refine tri_seq ?_
  refine tri_region ?_
  refine s_fieldAddr rfl rfl fd84_0 rfl rfl rfl rfl ?_
  refine s_load rfl rfl rfl rfl ty9 rfl (.inr rfl) (by conv => lhs; whnf) rfl rfl rfl ?_
  refine s_fieldAddr rfl rfl fd36_0 rfl rfl rfl rfl ?_
  refine s_store rfl rfl rfl rfl ty9 rfl rfl rfl rfl rfl rfl ?_
  refine rt_nil ?_
  refine tri_seq ?_
  refine tri_region ?_
  refine s_fieldAddr rfl rfl fd84_1 rfl rfl rfl rfl ?_
  refine s_load rfl rfl rfl rfl ty3 rfl (.inr rfl) (by conv => lhs; whnf) rfl rfl rfl ?_
  refine s_fieldAddr rfl rfl fd36_1 rfl rfl rfl rfl ?_
  refine s_store rfl rfl rfl rfl ty3 rfl rfl rfl rfl rfl rfl ?_
  refine rt_nil ?_
  refine tri_seq ?_
  refine tri_region ?_
  refine s_fieldAddr rfl rfl fd84_2 rfl rfl rfl rfl ?_
  refine s_load rfl rfl rfl rfl ty3 rfl (.inr rfl) (by conv => lhs; whnf) rfl rfl rfl ?_
  refine s_fieldAddr rfl rfl fd36_2 rfl rfl rfl rfl ?_
  refine s_store rfl rfl rfl rfl ty3 rfl rfl rfl rfl rfl rfl ?_
  refine rt_nil ?_
  refine tri_seq ?_
  refine tri_region ?_
  refine s_fieldAddr rfl rfl fd84_3 rfl rfl rfl rfl ?_
  refine s_load rfl rfl rfl rfl ty3 rfl (.inr rfl) (by conv => lhs; whnf) rfl rfl rfl ?_
  refine s_fieldAddr rfl rfl fd36_3 rfl rfl rfl rfl ?_
  refine s_store rfl rfl rfl rfl ty3 rfl rfl rfl rfl rfl rfl ?_
  refine rt_nil ?_
  refine tri_seq ?_
  refine tri_region ?_
  refine s_fieldAddr rfl rfl fd84_4 rfl rfl rfl rfl ?_
  refine s_load rfl rfl rfl rfl ty9 rfl (.inr rfl) (by conv => lhs; whnf) rfl rfl rfl ?_
  refine s_fieldAddr rfl rfl fd36_4 rfl rfl rfl rfl ?_
  refine s_store rfl rfl rfl rfl ty9 rfl rfl rfl rfl rfl rfl ?_
  refine rt_nil ?_
  refine tri_seq ?_
  refine tri_region ?_
  refine s_fieldAddr rfl rfl fd84_5 rfl rfl rfl rfl ?_
  refine s_load rfl rfl rfl rfl ty9 rfl (.inr rfl) (by conv => lhs; whnf) rfl rfl rfl ?_
  refine s_fieldAddr rfl rfl fd36_5 rfl rfl rfl rfl ?_
  refine s_store rfl rfl rfl rfl ty9 rfl rfl rfl rfl rfl rfl ?_
  refine rt_nil ?_
  refine tri_seq ?_
  refine tri_region ?_
  refine s_loadR rfl rfl rfl rfl ty36 rfl rfl rfl ?_
  refine s_storeB rfl rfl rfl ty36 rfl rfl rfl rfl rfl ?_
  refine rt_nil ?_
  refine tri_ret ?_
  exact endAgg rfl rfl ty36 rfl rfl rfl

/- laws.toRecordS -/
def inv19 (l : List Rec) (i : Nat) : St :=
  mkT 23 [(0, .lst 6 (l.map recV)), (3, .ref (2003, 0) 0 l.length), (4, .sc (.int .i64 ((i : Nat) : Int)))]
    [((2003, 0), some ⟨36, 6, (copied l i).map recV, false, true⟩)]

set_option maxRecDepth 4000 in
theorem r19 (l : List Rec) (hl : l.length ≤ 1099511627776) : Runs Try.prog 19 [.lst 6 (l.map recV)] [] (.own 36 6 (l.map recV)) [] := by
  refine runsT [2] Try.func19 rfl rfl rfl rfl ?_
  rw [Try.ntmps19]
  refine tri_seq ?_
  refine tri_region ?_
  refine s_mv (.inr rfl) (v := .nils) rfl rfl rfl rfl ?_
  refine rt_nil ?_
  refine tri_seq ?_
  refine tri_region ?_
  refine s_mv (.inl rfl) (by conv => lhs; whnf) rfl rfl rfl ?_
  refine s_len rfl sl24 (by first | exact congrArg some (List.length_map ..) | rfl) rfl rfl rfl ?_
  refine s_makeSlice rfl rfl rfl rfl rfl sl27 zc36 rfl rfl rfl rfl (by omega) rfl rfl rfl rfl ?_
  refine s_mv (.inr rfl) (by conv => lhs; whnf) rfl rfl rfl ?_
  refine rt_nil ?_
  refine tri_seq ?_
  refine tri_seq ?_
  refine tri_region ?_
  refine s_mv (.inr rfl) (v := .sc (.int .i64 0)) rfl rfl rfl rfl ?_
  refine rt_nil ?_
  refine tri_block ?_
  refine tri_loop (ι := {i : Nat // i ≤ l.length}) (fun p => inv19 l p.1) (fun p => l.length - p.1) ⟨0, Nat.zero_le _⟩ ?_ ?_
  · skip
    refine entT [((2003, 0), ⟨36, 6, (copied l 0).map recV, false, true⟩, some (7, 0))] [] ⟨⟨rfl, _, rfl, rfl, rfl, rfl, id, (copied_zero l), allFree_map recV_free, rowsZ_map recV_len⟩, trivial⟩ trivial rfl rfl ?_
    exact ⟨.free rfl, .ref rfl, .free rfl, trivial⟩
  · intro p
    obtain ⟨i, hi⟩ := p
    simp only
    refine tri_seq ?_
    refine tri_seq ?_
    refine tri_region ?_
    refine s_mv (.inl rfl) (by conv => lhs; whnf) rfl rfl rfl ?_
    refine s_mv (.inl rfl) (by conv => lhs; whnf) rfl rfl rfl ?_
    refine s_len rfl sl24 (by first | exact congrArg some (List.length_map ..) | rfl) rfl rfl rfl ?_
    refine s_of (st_lss rfl rfl rfl) rfl rfl rfl rfl ?_
    refine rt_nil ?_
    refine tri_cond rfl (fun hc11 => ?_) (fun hc11 => ?_)
    · skip
      have hlt : i < l.length := by simpa using hc11
      refine tri_skip ?_
      refine tri_seq ?_
      refine tri_block ?_
      refine tri_region ?_
      refine s_mv (.inl rfl) (by conv => lhs; whnf) rfl rfl rfl ?_
      refine s_mv (.inl rfl) (by conv => lhs; whnf) rfl rfl rfl ?_
      refine s_mv (.inl rfl) (by conv => lhs; whnf) rfl rfl rfl ?_
      refine s_mv (.inl rfl) (by conv => lhs; whnf) rfl rfl rfl ?_
      refine s_indexF rfl rfl rfl sl24 (by first | omega | (simp only [List.length_map]; omega)) rfl rfl rfl ?_
      refine s_loadFR rfl rfl (rowAt (by omega)) ty84 rfl rfl rfl ?_
      refine s_callA (kb := []) rfl rfl c65 (r65 _) rfl (.cons (relAgg rfl) .nil) rfl rfl rfl rfl ?_
      refine s_index rfl rfl rfl rfl sl27 rfl (by first | omega | (simp only [List.length_map]; omega)) rfl rfl rfl ?_
      refine s_store rfl rfl rfl (rowAt (by simp only [copied_len hi]; omega)) ty36 rfl rfl rfl rfl rfl rfl ?_
      refine rt_nil ?_
      refine tri_region ?_
      refine s_mv (.inl rfl) (by conv => lhs; whnf) rfl rfl rfl ?_
      refine s_inc (b := 1) rfl rfl rfl rfl (by omega) rfl rfl rfl ?_
      refine s_mv (.inr rfl) (by conv => lhs; whnf) rfl rfl rfl ?_
      refine rt_nil ?_
      refine Exists.intro ⟨i + 1, hlt⟩ (And.intro (by simp only; omega) ?_)
      refine entT [((2003, 0), ⟨36, 6, (copied l (i + 1)).map recV, false, true⟩, some (2003, 0))] [] ⟨⟨rfl, _, rfl, rfl, rfl, rfl, id, (copied_step hlt), allFree_map recV_free, rowsZ_map recV_len⟩, trivial⟩ trivial rfl rfl ?_
      exact ⟨.free rfl, .ref rfl, .free rfl, trivial⟩
    · skip
      have hge : i = l.length := by simp at hc11; omega
      subst hge
      refine tri_exit ?_
      refine tri_seq ?_
      refine tri_region ?_
      refine s_mv (.inl rfl) (by conv => lhs; whnf) rfl rfl rfl ?_
      refine s_mv (.inr rfl) (by conv => lhs; whnf) rfl rfl rfl ?_
      refine rt_nil ?_
      refine tri_ret ?_
      exact endT [((2000, 0), ⟨36, 6, l.map recV, false, true⟩, some (2003, 0))] [] ⟨⟨rfl, _, rfl, rfl, rfl, rfl, id, (by rw [copied_all]), allFree_map recV_free, rowsZ_map recV_len⟩, trivial⟩ trivial rfl rfl rfl (by show Cv _ _ _ _ _ (.ref (2000, 0) 0 (l.map recV).length); rw [List.length_map]; exact .ref rfl)

/- laws.markText -/
def inv71  (m : Int) (s : ByteArray) : St :=
  mkT 20 [(0, .sc (.int .i64 m)), (3, .sc (.string s))]
    []

set_option maxRecDepth 4000 in
theorem r71 (n : Int) (hn : n ≤ 4611686018427387920) : Runs Try.prog 71 [.sc (.int .i64 n)] [] (.sc (.string (markT n))) [] := by
  refine runsT [2] Try.func71 rfl rfl rfl rfl ?_
  rw [Try.ntmps71]
  refine tri_seq ?_
  refine tri_region ?_
  refine s_mv (.inr rfl) (v := .sc (.string ⟨#[]⟩)) rfl rfl rfl rfl ?_
  refine rt_nil ?_
  refine tri_seq ?_
  refine tri_seq ?_
  refine tri_region ?_
  refine s_mv (.inl rfl) (by conv => lhs; whnf) rfl rfl rfl ?_
  refine s_of (st_leq rfl rfl rfl) rfl rfl rfl rfl ?_
  refine rt_nil ?_
  refine tri_cond rfl (fun hc5 => ?_) (fun hc5 => ?_)
  · skip
    refine tri_seq ?_
    refine tri_region ?_
    refine s_mv (.inr rfl) (v := .sc (.string ⟨#[109, 48]⟩)) rfl rfl rfl rfl ?_
    refine rt_nil ?_
    refine tri_ret ?_
    exact endStr rfl (by unfold markT; rw [if_pos (by simpa using hc5)]) rfl
  · skip
    refine tri_skip ?_
    refine tri_seq ?_
    refine tri_region ?_
    refine s_mv (.inr rfl) (v := .sc (.string ⟨#[]⟩)) rfl rfl rfl rfl ?_
    refine rt_nil ?_
    refine tri_seq ?_
    refine tri_block ?_
    refine tri_loop (ι := {p : Nat × Int × ByteArray // p.2.1.toNat ≤ p.1 ∧ 0 ≤ p.2.1 ∧ p.2.2.size + p.2.1 ≤ n ∧ digs p.1 p.2.1 p.2.2 = digs n.toNat n ⟨#[]⟩}) (fun p => inv71  p.1.2.1 p.1.2.2) (fun p => p.1.2.1.toNat) ⟨(n.toNat, n, ⟨#[]⟩), Nat.le_refl _, by simp at hc5 ⊢; omega, by simp [ByteArray.size], rfl⟩ ?_ ?_
    · skip
      refine entT [] [] trivial trivial rfl rfl ?_
      exact ⟨.free rfl, .free rfl, trivial⟩
    · intro p
      obtain ⟨⟨k, n2, s⟩, hk, h0, hs, hd⟩ := p
      simp only at hk h0 hs hd ⊢
      refine tri_seq ?_
      refine tri_seq ?_
      refine tri_region ?_
      refine s_mv (.inl rfl) (by conv => lhs; whnf) rfl rfl rfl ?_
      refine s_of (st_gtr rfl rfl rfl) rfl rfl rfl rfl ?_
      refine rt_nil ?_
      refine tri_cond rfl (fun hc7 => ?_) (fun hc7 => ?_)
      · skip
        have hp : 0 < n2 := by simpa using hc7
        have hnx : digs (k - 1) (n2 / 10) (dig n2 ++ s) = digs n.toNat n ⟨#[]⟩ := by
          rw [← hd]
          obtain ⟨k, rfl⟩ : ∃ j, k = j + 1 := ⟨k - 1, by omega⟩
          simp [digs, hp]
        refine tri_skip ?_
        refine tri_block ?_
        refine tri_seq ?_
        refine tri_region ?_
        refine s_mv (.inl rfl) (by conv => lhs; whnf) rfl rfl rfl ?_
        refine s_of (st_rem rfl rfl rfl (by decide)) rfl rfl rfl rfl ?_
        refine s_of (st_add rfl rfl rfl) rfl rfl rfl rfl ?_
        refine s_of (st_conv ik3 ik5 rfl rfl) rfl rfl rfl rfl ?_
        refine s_buildSlice rfl rfl rfl sl62 zc5 rfl rfl rfl rfl rfl rfl rfl rfl rfl ?_
        refine s_toString rfl (src_rows (rows := numRows [_]) rfl rfl rfl rfl) byt62 iss9 rfl rfl rfl rfl ?_
        refine s_mv (.inl rfl) (by conv => lhs; whnf) rfl rfl rfl ?_
        refine s_of (st_catS (by have := dig_size n2; unfold dig at this; rw [this]; omega) rfl rfl rfl) rfl rfl rfl rfl ?_
        refine s_mv (.inr rfl) (by conv => lhs; whnf) rfl rfl rfl ?_
        refine rt_nil ?_
        refine tri_region ?_
        refine s_mv (.inl rfl) (by conv => lhs; whnf) rfl rfl rfl ?_
        refine s_quoI rfl rfl rfl (by decide) (Int.tdiv_eq_ediv_of_nonneg (by omega)) (by omega) rfl rfl rfl ?_
        refine s_mv (.inr rfl) (by conv => lhs; whnf) rfl rfl rfl ?_
        refine rt_nil ?_
        refine Exists.intro ⟨(k - 1, n2 / 10, dig n2 ++ s), by simp only; omega, by simp only; omega, by simp only [ByteArray.size_append, dig_size]; omega, hnx⟩ (And.intro (by simp only; omega) ?_)
        refine entT [] [] trivial trivial rfl rfl ?_
        exact ⟨.free rfl, .free rfl, trivial⟩
      · skip
        have hp : n2 ≤ 0 := by simpa using hc7
        refine tri_exit ?_
        refine tri_seq ?_
        refine tri_region ?_
        refine s_mv (.inl rfl) (by conv => lhs; whnf) rfl rfl rfl ?_
        refine s_of (st_catS (by have e : (⟨#[109]⟩ : ByteArray).size = 1 := rfl; rw [e]; omega) rfl rfl rfl) rfl rfl rfl rfl ?_
        refine s_mv (.inr rfl) (by conv => lhs; whnf) rfl rfl rfl ?_
        refine rt_nil ?_
        refine tri_ret ?_
        exact endStr rfl (by unfold markT; rw [if_neg (by simp at hc5; omega), ← hd, digs_zero hp]) rfl

/- laws.markRecordS -/
def inv34 (l : List Rec) (n : Int) (i : Nat) (m : Int) : St :=
  mkT 58 [(0, .ref (1000, 0) 0 l.length), (1, .sc (.int .i64 m)), (5, .sc (.int .i64 ((i : Nat) : Int)))]
    [((1000, 0), some ⟨36, 6, (marked l n i).map recV, false, false⟩)]

set_option maxRecDepth 4000 in
theorem r34 (l : List Rec) (n : Int) (hn : 0 ≤ n ∧ n + 6 * l.length ≤ 4611686018427387904) : Runs Try.prog 34 [.ref (1000, 0) 0 l.length, .sc (.int .i64 n)] [⟨36, 6, l.map recV, false, false⟩] (.sc (.int .i64 (n + 6 * l.length))) [⟨36, 6, (mk n l.length).map recV, false, false⟩] := by
  refine runsT [4] Try.func34 rfl rfl rfl rfl ?_
  rw [Try.ntmps34]
  refine tri_seq ?_
  refine tri_region ?_
  refine s_mv (.inr rfl) (v := .sc (.int .i64 0)) rfl rfl rfl rfl ?_
  refine rt_nil ?_
  refine tri_seq ?_
  refine tri_seq ?_
  refine tri_region ?_
  refine s_mv (.inr rfl) (v := .sc (.int .i64 0)) rfl rfl rfl rfl ?_
  refine rt_nil ?_
  refine tri_block ?_
  refine tri_loop (ι := {p : Nat × Int // p.1 ≤ l.length ∧ p.2 = n + 6 * p.1}) (fun p => inv34 l n p.1.1 p.1.2) (fun p => l.length - p.1.1) ⟨(0, n), Nat.zero_le _, by simp⟩ ?_ ?_
  · skip
    refine entT [((1000, 0), ⟨36, 6, (marked l n 0).map recV, false, false⟩, some (1000, 0))] [] ⟨⟨rfl, _, rfl, rfl, rfl, rfl, id, (by rw [marked_zero]), allFree_map recV_free, rowsZ_map recV_len⟩, trivial⟩ trivial rfl rfl ?_
    exact ⟨.ref rfl, .free rfl, .free rfl, trivial⟩
  · intro p
    obtain ⟨⟨i, m⟩, hi, hm⟩ := p
    simp only at hi hm ⊢
    refine tri_seq ?_
    refine tri_seq ?_
    refine tri_region ?_
    refine s_mv (.inl rfl) (by conv => lhs; whnf) rfl rfl rfl ?_
    refine s_mv (.inl rfl) (by conv => lhs; whnf) rfl rfl rfl ?_
    refine s_len rfl sl27 (by first | exact congrArg some (List.length_map ..) | rfl) rfl rfl rfl ?_
    refine s_of (st_lss rfl rfl rfl) rfl rfl rfl rfl ?_
    refine rt_nil ?_
    refine tri_cond rfl (fun hc9 => ?_) (fun hc9 => ?_)
    · skip
      have hlt : i < l.length := by simpa using hc9
      refine tri_skip ?_
      refine tri_seq ?_
      refine tri_block ?_
      refine tri_seq ?_
      refine tri_region ?_
      refine s_mv (.inl rfl) (by conv => lhs; whnf) rfl rfl rfl ?_
      refine s_mv (.inl rfl) (by conv => lhs; whnf) rfl rfl rfl ?_
      refine s_mv (.inl rfl) (by conv => lhs; whnf) rfl rfl rfl ?_
      refine s_callV (kb := []) rfl rfl c71 (r71 _ (by omega)) rfl (.cons (.free rfl) .nil) rfl rfl rfl rfl ?_
      refine s_index rfl rfl rfl rfl sl27 rfl (by first | omega | (simp only [List.length_map]; omega)) rfl rfl rfl ?_
      refine s_fieldAddr rfl rfl fd36_0 rfl rfl rfl rfl ?_
      refine s_store rfl rfl rfl (rowAt (by simp only [marked_len hi]; omega)) ty9 rfl rfl rfl rfl rfl rfl ?_
      refine rt_nil ?_
      refine tri_seq ?_
      refine tri_region ?_
      refine s_mv (.inl rfl) (by conv => lhs; whnf) rfl rfl rfl ?_
      refine s_addI rfl rfl rfl rfl (by omega) rfl rfl rfl ?_
      refine s_mv (.inr rfl) (by conv => lhs; whnf) rfl rfl rfl ?_
      refine rt_nil ?_
      refine tri_seq ?_
      refine tri_region ?_
      refine s_mv (.inl rfl) (by conv => lhs; whnf) rfl rfl rfl ?_
      refine s_mv (.inl rfl) (by conv => lhs; whnf) rfl rfl rfl ?_
      refine s_mv (.inl rfl) (by conv => lhs; whnf) rfl rfl rfl ?_
      refine s_index rfl rfl rfl rfl sl27 rfl (by first | omega | (simp only [List.length_map]; omega)) rfl rfl rfl ?_
      refine s_fieldAddr rfl rfl fd36_1 rfl rfl rfl rfl ?_
      refine s_store rfl rfl rfl (setAt (by simp only [List.length_map, marked_len hi]; omega)) ty3 rfl rfl rfl (List.set_set ..) rfl rfl ?_
      refine rt_nil ?_
      refine tri_seq ?_
      refine tri_region ?_
      refine s_mv (.inl rfl) (by conv => lhs; whnf) rfl rfl rfl ?_
      refine s_addI rfl rfl rfl rfl (by omega) rfl rfl rfl ?_
      refine s_mv (.inr rfl) (by conv => lhs; whnf) rfl rfl rfl ?_
      refine rt_nil ?_
      refine tri_seq ?_
      refine tri_region ?_
      refine s_mv (.inl rfl) (by conv => lhs; whnf) rfl rfl rfl ?_
      refine s_mv (.inl rfl) (by conv => lhs; whnf) rfl rfl rfl ?_
      refine s_mv (.inl rfl) (by conv => lhs; whnf) rfl rfl rfl ?_
      refine s_index rfl rfl rfl rfl sl27 rfl (by first | omega | (simp only [List.length_map]; omega)) rfl rfl rfl ?_
      refine s_fieldAddr rfl rfl fd36_2 rfl rfl rfl rfl ?_
      refine s_store rfl rfl rfl (setAt (by simp only [List.length_map, marked_len hi]; omega)) ty3 rfl rfl rfl (List.set_set ..) rfl rfl ?_
      refine rt_nil ?_
      refine tri_seq ?_
      refine tri_region ?_
      refine s_mv (.inl rfl) (by conv => lhs; whnf) rfl rfl rfl ?_
      refine s_addI rfl rfl rfl rfl (by omega) rfl rfl rfl ?_
      refine s_mv (.inr rfl) (by conv => lhs; whnf) rfl rfl rfl ?_
      refine rt_nil ?_
      refine tri_seq ?_
      refine tri_region ?_
      refine s_mv (.inl rfl) (by conv => lhs; whnf) rfl rfl rfl ?_
      refine s_mv (.inl rfl) (by conv => lhs; whnf) rfl rfl rfl ?_
      refine s_mv (.inl rfl) (by conv => lhs; whnf) rfl rfl rfl ?_
      refine s_index rfl rfl rfl rfl sl27 rfl (by first | omega | (simp only [List.length_map]; omega)) rfl rfl rfl ?_
      refine s_fieldAddr rfl rfl fd36_3 rfl rfl rfl rfl ?_
      refine s_store rfl rfl rfl (setAt (by simp only [List.length_map, marked_len hi]; omega)) ty3 rfl rfl rfl (List.set_set ..) rfl rfl ?_
      refine rt_nil ?_
      refine tri_seq ?_
      refine tri_region ?_
      refine s_mv (.inl rfl) (by conv => lhs; whnf) rfl rfl rfl ?_
      refine s_addI rfl rfl rfl rfl (by omega) rfl rfl rfl ?_
      refine s_mv (.inr rfl) (by conv => lhs; whnf) rfl rfl rfl ?_
      refine rt_nil ?_
      refine tri_seq ?_
      refine tri_region ?_
      refine s_mv (.inl rfl) (by conv => lhs; whnf) rfl rfl rfl ?_
      refine s_mv (.inl rfl) (by conv => lhs; whnf) rfl rfl rfl ?_
      refine s_mv (.inl rfl) (by conv => lhs; whnf) rfl rfl rfl ?_
      refine s_callV (kb := []) rfl rfl c71 (r71 _ (by omega)) rfl (.cons (.free rfl) .nil) rfl rfl rfl rfl ?_
      refine s_index rfl rfl rfl rfl sl27 rfl (by first | omega | (simp only [List.length_map]; omega)) rfl rfl rfl ?_
      refine s_fieldAddr rfl rfl fd36_4 rfl rfl rfl rfl ?_
      refine s_store rfl rfl rfl (setAt (by simp only [List.length_map, marked_len hi]; omega)) ty9 rfl rfl rfl (List.set_set ..) rfl rfl ?_
      refine rt_nil ?_
      refine tri_seq ?_
      refine tri_region ?_
      refine s_mv (.inl rfl) (by conv => lhs; whnf) rfl rfl rfl ?_
      refine s_addI rfl rfl rfl rfl (by omega) rfl rfl rfl ?_
      refine s_mv (.inr rfl) (by conv => lhs; whnf) rfl rfl rfl ?_
      refine rt_nil ?_
      refine tri_seq ?_
      refine tri_region ?_
      refine s_mv (.inl rfl) (by conv => lhs; whnf) rfl rfl rfl ?_
      refine s_mv (.inl rfl) (by conv => lhs; whnf) rfl rfl rfl ?_
      refine s_mv (.inl rfl) (by conv => lhs; whnf) rfl rfl rfl ?_
      refine s_callV (kb := []) rfl rfl c71 (r71 _ (by omega)) rfl (.cons (.free rfl) .nil) rfl rfl rfl rfl ?_
      refine s_index rfl rfl rfl rfl sl27 rfl (by first | omega | (simp only [List.length_map]; omega)) rfl rfl rfl ?_
      refine s_fieldAddr rfl rfl fd36_5 rfl rfl rfl rfl ?_
      refine s_store rfl rfl rfl (setAt (by simp only [List.length_map, marked_len hi]; omega)) ty9 rfl rfl rfl (List.set_set ..) rfl rfl ?_
      refine rt_nil ?_
      refine tri_region ?_
      refine s_mv (.inl rfl) (by conv => lhs; whnf) rfl rfl rfl ?_
      refine s_addI rfl rfl rfl rfl (by omega) rfl rfl rfl ?_
      refine s_mv (.inr rfl) (by conv => lhs; whnf) rfl rfl rfl ?_
      refine rt_nil ?_
      refine tri_region ?_
      refine s_mv (.inl rfl) (by conv => lhs; whnf) rfl rfl rfl ?_
      refine s_inc (b := 1) rfl rfl rfl rfl (by omega) rfl rfl rfl ?_
      refine s_mv (.inr rfl) (by conv => lhs; whnf) rfl rfl rfl ?_
      refine rt_nil ?_
      refine Exists.intro ⟨(i + 1, m + 1 + 1 + 1 + 1 + 1 + 1), hlt, by simp only; omega⟩ (And.intro (by simp only; omega) ?_)
      refine entT [((1000, 0), ⟨36, 6, (marked l n (i + 1)).map recV, false, false⟩, some (1000, 0))] [] ⟨⟨rfl, _, rfl, rfl, rfl, rfl, id, (marked_step hlt hm), allFree_map recV_free, rowsZ_map recV_len⟩, trivial⟩ trivial rfl rfl ?_
      exact ⟨.ref rfl, .free rfl, .free rfl, trivial⟩
    · skip
      have hge : i = l.length := by simp at hc9; omega
      subst hge
      refine tri_exit ?_
      refine tri_seq ?_
      refine tri_region ?_
      refine s_mv (.inl rfl) (by conv => lhs; whnf) rfl rfl rfl ?_
      refine s_mv (.inr rfl) (by conv => lhs; whnf) rfl rfl rfl ?_
      refine rt_nil ?_
      refine tri_ret ?_
      subst hm
      exact endT [((1000, 0), ⟨36, 6, (mk n l.length).map recV, false, false⟩, some (1000, 0))] [] ⟨⟨rfl, _, rfl, rfl, rfl, rfl, id, (by rw [marked_all]), allFree_map recV_free, rowsZ_map recV_len⟩, trivial⟩ trivial rfl rfl rfl (.free rfl)

/- laws.heldRecordS -/
def inv35 (l : List Rec) (i : Nat) (m : Int) : St :=
  mkT 70 [(0, .lst 6 (l.map recV)), (1, .sc (.int .i64 m)), (5, .sc (.int .i64 ((i : Nat) : Int)))]
    []

set_option maxRecDepth 4000 in
theorem r35 (l : List Rec) (n : Int) (hl : l = mk n l.length) (hn : 0 ≤ n ∧ n + 6 * l.length ≤ 4611686018427387904) : Runs Try.prog 35 [.lst 6 (l.map recV), .sc (.int .i64 n)] [] (.sc (.int .i64 (n + 6 * l.length))) [] := by
  refine runsT [4] Try.func35 rfl rfl rfl rfl ?_
  rw [Try.ntmps35]
  refine tri_seq ?_
  refine tri_region ?_
  refine s_mv (.inr rfl) (v := .sc (.int .i64 0)) rfl rfl rfl rfl ?_
  refine rt_nil ?_
  refine tri_seq ?_
  refine tri_seq ?_
  refine tri_region ?_
  refine s_mv (.inr rfl) (v := .sc (.int .i64 0)) rfl rfl rfl rfl ?_
  refine rt_nil ?_
  refine tri_block ?_
  refine tri_loop (ι := {p : Nat × Int // p.1 ≤ l.length ∧ p.2 = n + 6 * p.1}) (fun p => inv35 l p.1.1 p.1.2) (fun p => l.length - p.1.1) ⟨(0, n), Nat.zero_le _, by simp⟩ ?_ ?_
  · skip
    refine entT [] [] trivial trivial rfl rfl ?_
    exact ⟨.free rfl, .free rfl, .free rfl, trivial⟩
  · intro p
    obtain ⟨⟨i, m⟩, hi, hm⟩ := p
    simp only at hi hm ⊢
    refine tri_seq ?_
    refine tri_seq ?_
    refine tri_region ?_
    refine s_mv (.inl rfl) (by conv => lhs; whnf) rfl rfl rfl ?_
    refine s_mv (.inl rfl) (by conv => lhs; whnf) rfl rfl rfl ?_
    refine s_len rfl sl27 (by first | exact congrArg some (List.length_map ..) | rfl) rfl rfl rfl ?_
    refine s_of (st_lss rfl rfl rfl) rfl rfl rfl rfl ?_
    refine rt_nil ?_
    refine tri_cond rfl (fun hc9 => ?_) (fun hc9 => ?_)
    · skip
      have hlt : i < l.length := by simpa using hc9
      have hx : l[i] = markR m := mk_at hl hlt hm
      refine tri_skip ?_
      refine tri_seq ?_
      refine tri_block ?_
      refine tri_seq ?_
      refine tri_seq ?_
      refine tri_draw mixed ?_
      refine s_mv (.inl rfl) (by conv => lhs; whnf) rfl rfl rfl ?_
      refine s_mv (.inl rfl) (by conv => lhs; whnf) rfl rfl rfl ?_
      refine s_indexF rfl rfl rfl sl27 (by first | omega | (simp only [List.length_map]; omega)) rfl rfl rfl ?_
      refine s_fieldAddrF rfl rfl fd36_0 rfl rfl rfl rfl ?_
      refine s_loadF rfl rfl (rowAt (by omega)) ty9 rfl (.inr rfl) (by conv => lhs; whnf) rfl rfl rfl ?_
      refine s_mv (.inl rfl) (by conv => lhs; whnf) rfl rfl rfl ?_
      refine s_callV (kb := []) rfl rfl c71 (r71 _ (by omega)) rfl (.cons (.free rfl) .nil) rfl rfl rfl rfl ?_
      refine s_of (st_neS rfl rfl rfl) rfl rfl rfl rfl ?_
      refine rt_nil ⟨by kernel_rfl, ?_⟩
      refine tri_cond rfl (fun hc19 => ?_) (fun hc19 => ?_)
      · skip
        exact (by simp [hx, markR] at hc19)
      · skip
        refine tri_skip ?_
        refine tri_seq ?_
        refine tri_region ?_
        refine s_mv (.inl rfl) (by conv => lhs; whnf) rfl rfl rfl ?_
        refine s_addI rfl rfl rfl rfl (by omega) rfl rfl rfl ?_
        refine s_mv (.inr rfl) (by conv => lhs; whnf) rfl rfl rfl ?_
        refine rt_nil ?_
        refine tri_seq ?_
        refine tri_seq ?_
        refine tri_region ?_
        refine s_mv (.inl rfl) (by conv => lhs; whnf) rfl rfl rfl ?_
        refine s_mv (.inl rfl) (by conv => lhs; whnf) rfl rfl rfl ?_
        refine s_indexF rfl rfl rfl sl27 (by first | omega | (simp only [List.length_map]; omega)) rfl rfl rfl ?_
        refine s_fieldAddrF rfl rfl fd36_1 rfl rfl rfl rfl ?_
        refine s_loadF rfl rfl (rowAt (by omega)) ty3 rfl (.inr rfl) (by conv => lhs; whnf) rfl rfl rfl ?_
        refine s_mv (.inl rfl) (by conv => lhs; whnf) rfl rfl rfl ?_
        refine s_of (st_neI rfl rfl rfl) rfl rfl rfl rfl ?_
        refine rt_nil ?_
        refine tri_cond rfl (fun hc28 => ?_) (fun hc28 => ?_)
        · skip
          exact (by simp [hx, markR] at hc28)
        · skip
          refine tri_skip ?_
          refine tri_seq ?_
          refine tri_region ?_
          refine s_mv (.inl rfl) (by conv => lhs; whnf) rfl rfl rfl ?_
          refine s_addI rfl rfl rfl rfl (by omega) rfl rfl rfl ?_
          refine s_mv (.inr rfl) (by conv => lhs; whnf) rfl rfl rfl ?_
          refine rt_nil ?_
          refine tri_seq ?_
          refine tri_seq ?_
          refine tri_region ?_
          refine s_mv (.inl rfl) (by conv => lhs; whnf) rfl rfl rfl ?_
          refine s_mv (.inl rfl) (by conv => lhs; whnf) rfl rfl rfl ?_
          refine s_indexF rfl rfl rfl sl27 (by first | omega | (simp only [List.length_map]; omega)) rfl rfl rfl ?_
          refine s_fieldAddrF rfl rfl fd36_2 rfl rfl rfl rfl ?_
          refine s_loadF rfl rfl (rowAt (by omega)) ty3 rfl (.inr rfl) (by conv => lhs; whnf) rfl rfl rfl ?_
          refine s_mv (.inl rfl) (by conv => lhs; whnf) rfl rfl rfl ?_
          refine s_of (st_neI rfl rfl rfl) rfl rfl rfl rfl ?_
          refine rt_nil ?_
          refine tri_cond rfl (fun hc37 => ?_) (fun hc37 => ?_)
          · skip
            exact (by simp [hx, markR] at hc37)
          · skip
            refine tri_skip ?_
            refine tri_seq ?_
            refine tri_region ?_
            refine s_mv (.inl rfl) (by conv => lhs; whnf) rfl rfl rfl ?_
            refine s_addI rfl rfl rfl rfl (by omega) rfl rfl rfl ?_
            refine s_mv (.inr rfl) (by conv => lhs; whnf) rfl rfl rfl ?_
            refine rt_nil ?_
            refine tri_seq ?_
            refine tri_seq ?_
            refine tri_region ?_
            refine s_mv (.inl rfl) (by conv => lhs; whnf) rfl rfl rfl ?_
            refine s_mv (.inl rfl) (by conv => lhs; whnf) rfl rfl rfl ?_
            refine s_indexF rfl rfl rfl sl27 (by first | omega | (simp only [List.length_map]; omega)) rfl rfl rfl ?_
            refine s_fieldAddrF rfl rfl fd36_3 rfl rfl rfl rfl ?_
            refine s_loadF rfl rfl (rowAt (by omega)) ty3 rfl (.inr rfl) (by conv => lhs; whnf) rfl rfl rfl ?_
            refine s_mv (.inl rfl) (by conv => lhs; whnf) rfl rfl rfl ?_
            refine s_of (st_neI rfl rfl rfl) rfl rfl rfl rfl ?_
            refine rt_nil ?_
            refine tri_cond rfl (fun hc46 => ?_) (fun hc46 => ?_)
            · skip
              exact (by simp [hx, markR] at hc46)
            · skip
              refine tri_skip ?_
              refine tri_seq ?_
              refine tri_region ?_
              refine s_mv (.inl rfl) (by conv => lhs; whnf) rfl rfl rfl ?_
              refine s_addI rfl rfl rfl rfl (by omega) rfl rfl rfl ?_
              refine s_mv (.inr rfl) (by conv => lhs; whnf) rfl rfl rfl ?_
              refine rt_nil ?_
              refine tri_seq ?_
              refine tri_seq ?_
              refine tri_draw mixed ?_
              refine s_mv (.inl rfl) (by conv => lhs; whnf) rfl rfl rfl ?_
              refine s_mv (.inl rfl) (by conv => lhs; whnf) rfl rfl rfl ?_
              refine s_indexF rfl rfl rfl sl27 (by first | omega | (simp only [List.length_map]; omega)) rfl rfl rfl ?_
              refine s_fieldAddrF rfl rfl fd36_4 rfl rfl rfl rfl ?_
              refine s_loadF rfl rfl (rowAt (by omega)) ty9 rfl (.inr rfl) (by conv => lhs; whnf) rfl rfl rfl ?_
              refine s_mv (.inl rfl) (by conv => lhs; whnf) rfl rfl rfl ?_
              refine s_callV (kb := []) rfl rfl c71 (r71 _ (by omega)) rfl (.cons (.free rfl) .nil) rfl rfl rfl rfl ?_
              refine s_of (st_neS rfl rfl rfl) rfl rfl rfl rfl ?_
              refine rt_nil ⟨by kernel_rfl, ?_⟩
              refine tri_cond rfl (fun hc56 => ?_) (fun hc56 => ?_)
              · skip
                exact (by simp [hx, markR] at hc56)
              · skip
                refine tri_skip ?_
                refine tri_seq ?_
                refine tri_region ?_
                refine s_mv (.inl rfl) (by conv => lhs; whnf) rfl rfl rfl ?_
                refine s_addI rfl rfl rfl rfl (by omega) rfl rfl rfl ?_
                refine s_mv (.inr rfl) (by conv => lhs; whnf) rfl rfl rfl ?_
                refine rt_nil ?_
                refine tri_seq ?_
                refine tri_seq ?_
                refine tri_draw mixed ?_
                refine s_mv (.inl rfl) (by conv => lhs; whnf) rfl rfl rfl ?_
                refine s_mv (.inl rfl) (by conv => lhs; whnf) rfl rfl rfl ?_
                refine s_indexF rfl rfl rfl sl27 (by first | omega | (simp only [List.length_map]; omega)) rfl rfl rfl ?_
                refine s_fieldAddrF rfl rfl fd36_5 rfl rfl rfl rfl ?_
                refine s_loadF rfl rfl (rowAt (by omega)) ty9 rfl (.inr rfl) (by conv => lhs; whnf) rfl rfl rfl ?_
                refine s_mv (.inl rfl) (by conv => lhs; whnf) rfl rfl rfl ?_
                refine s_callV (kb := []) rfl rfl c71 (r71 _ (by omega)) rfl (.cons (.free rfl) .nil) rfl rfl rfl rfl ?_
                refine s_of (st_neS rfl rfl rfl) rfl rfl rfl rfl ?_
                refine rt_nil ⟨by kernel_rfl, ?_⟩
                refine tri_cond rfl (fun hc66 => ?_) (fun hc66 => ?_)
                · skip
                  exact (by simp [hx, markR] at hc66)
                · skip
                  refine tri_skip ?_
                  refine tri_region ?_
                  refine s_mv (.inl rfl) (by conv => lhs; whnf) rfl rfl rfl ?_
                  refine s_addI rfl rfl rfl rfl (by omega) rfl rfl rfl ?_
                  refine s_mv (.inr rfl) (by conv => lhs; whnf) rfl rfl rfl ?_
                  refine rt_nil ?_
                  refine tri_region ?_
                  refine s_mv (.inl rfl) (by conv => lhs; whnf) rfl rfl rfl ?_
                  refine s_inc (b := 1) rfl rfl rfl rfl (by omega) rfl rfl rfl ?_
                  refine s_mv (.inr rfl) (by conv => lhs; whnf) rfl rfl rfl ?_
                  refine rt_nil ?_
                  refine Exists.intro ⟨(i + 1, m + 1 + 1 + 1 + 1 + 1 + 1), hlt, by simp only; omega⟩ (And.intro (by simp only; omega) ?_)
                  refine entT [] [] trivial trivial rfl rfl ?_
                  exact ⟨.free rfl, .free rfl, .free rfl, trivial⟩
    · skip
      have hge : i = l.length := by simp at hc9; omega
      subst hge
      refine tri_exit ?_
      refine tri_seq ?_
      refine tri_region ?_
      refine s_mv (.inl rfl) (by conv => lhs; whnf) rfl rfl rfl ?_
      refine s_mv (.inr rfl) (by conv => lhs; whnf) rfl rfl rfl ?_
      refine rt_nil ?_
      refine tri_ret ?_
      subst hm
      exact endInt rfl rfl rfl

/- spec.l7Copy -/


set_option maxRecDepth 4000 in
theorem r72 (l : List Rec) (hl : l.length ≤ 1099511627776) : Runs Try.prog 72 [.lst 6 (l.map recV)] [] (.own 36 6 (l.map recV)) [] := by
  refine runsT [2] Try.func72 rfl rfl rfl rfl ?_
  rw [Try.ntmps72]
  refine tri_seq ?_
  refine tri_region ?_
  refine s_mv (.inr rfl) (v := .nils) rfl rfl rfl rfl ?_
  refine rt_nil ?_
  refine tri_seq ?_
  refine tri_region ?_
  refine s_buildSlice rfl rfl rfl sl27 zc36 rfl rfl rfl rfl rfl rfl rfl rfl rfl ?_
  refine s_mv (.inl rfl) (by conv => lhs; whnf) rfl rfl rfl ?_
  refine s_append rfl rfl rfl sl27 zc36 rfl rfl rfl rfl rfl (by first | rfl | simp only [List.length_map]) src_lst rfl (by first | omega | (simp only [List.length_map]; omega) | (simp only [List.length_cons, List.length_nil]; omega)) rfl rfl ?_
  refine s_mv (.inr rfl) (by conv => lhs; whnf) rfl rfl rfl ?_
  refine rt_nil ?_
  refine tri_ret ?_
  exact endT [((2000, 0), ⟨36, 6, l.map recV, false, true⟩, some (5, 0))] [] ⟨⟨rfl, _, rfl, rfl, rfl, rfl, id, (List.nil_append _).symm, allFree_map recV_free, rowsZ_map recV_len⟩, trivial⟩ trivial rfl rfl rfl (by show Cv _ _ _ _ (.ref (5, 0) 0 _) (.ref (2000, 0) 0 (l.map recV).length); first | (simp only [Nat.zero_add]; exact .ref rfl) | (simp only [List.length_map]; exact .ref rfl))

/- impl.Record] -/


set_option maxRecDepth 4000 in
theorem r73 (l : List Rec) (hl : l.length ≤ 1099511627776) : Runs Try.prog 73 [.lst 6 (l.map recV)] [] (.own 36 6 (l.map recV)) [] := by
  refine runsT [2] Try.func73 rfl rfl rfl rfl ?_
  rw [Try.ntmps73]
  refine tri_seq ?_
  refine tri_region ?_
  refine s_mv (.inr rfl) (v := .nils) rfl rfl rfl rfl ?_
  refine rt_nil ?_
  refine tri_seq ?_
  refine tri_seq ?_
  refine tri_isNil rfl (by conv => lhs; whnf) rfl rfl rfl rfl rfl (by first | exact congrArg some (List.length_map ..) | rfl) sl27 rfl rfl rfl (fun b4 hb4 => ?_)
  refine tri_cond rfl (fun hc4 => ?_) (fun hc4 => ?_)
  · skip
    have hm := hb4 hc4
    obtain rfl : l = [] := List.eq_nil_of_length_eq_zero hm
    refine tri_seq ?_
    refine tri_region ?_
    refine s_mv (.inr rfl) (v := .nils) rfl rfl rfl rfl ?_
    refine rt_nil ?_
    refine tri_ret ?_
    exact endT [((2000, 0), ⟨36, 6, [], false, true⟩, none)] [] ⟨rfl, trivial⟩ trivial rfl rfl rfl (.nilRef rfl)
  · skip
    refine tri_skip ?_
    refine tri_seq ?_
    refine tri_region ?_
    refine s_buildSlice rfl rfl rfl sl27 zc36 rfl rfl rfl rfl rfl rfl rfl rfl rfl ?_
    refine s_mv (.inl rfl) (by conv => lhs; whnf) rfl rfl rfl ?_
    refine s_append rfl rfl rfl sl27 zc36 rfl rfl rfl rfl rfl (by first | rfl | simp only [List.length_map]) src_lst rfl (by first | omega | (simp only [List.length_map]; omega) | (simp only [List.length_cons, List.length_nil]; omega)) rfl rfl ?_
    refine s_mv (.inr rfl) (by conv => lhs; whnf) rfl rfl rfl ?_
    refine rt_nil ?_
    refine tri_ret ?_
    exact endT [((2000, 0), ⟨36, 6, l.map recV, false, true⟩, some (7, 0))] [] ⟨⟨rfl, _, rfl, rfl, rfl, rfl, id, (List.nil_append _).symm, allFree_map recV_free, rowsZ_map recV_len⟩, trivial⟩ trivial rfl rfl rfl (by show Cv _ _ _ _ (.ref (7, 0) 0 _) (.ref (2000, 0) 0 (l.map recV).length); first | (simp only [Nat.zero_add]; exact .ref rfl) | (simp only [List.length_map]; exact .ref rfl))

/- spec.WithTtl -/
def inv36 (l : List Rec) (k : Int) (i : Nat) : St :=
  mkT 21 [(1, .sc (.int .i64 k)), (5, .ref (2005, 0) 0 l.length), (6, .sc (.int .i64 ((i : Nat) : Int)))]
    [((2005, 0), some ⟨36, 6, (ttlU l k i).map recV, false, true⟩)]

set_option maxRecDepth 4000 in
theorem r36 (l : List Rec) (k : Int) (hl : l.length ≤ 1099511627776) : Runs Try.prog 36 [.lst 6 (l.map recV), .sc (.int .i64 k)] [] (.own 36 6 ((l.map (setC k)).map recV)) [] := by
  refine runsT [4] Try.func36 rfl rfl rfl rfl ?_
  rw [Try.ntmps36]
  refine tri_seq ?_
  refine tri_region ?_
  refine s_mv (.inr rfl) (v := .nils) rfl rfl rfl rfl ?_
  refine rt_nil ?_
  refine tri_seq ?_
  refine tri_region ?_
  refine s_mv (.inl rfl) (by conv => lhs; whnf) rfl rfl rfl ?_
  refine s_callO (kb := []) rfl rfl c72 (r72 l (by omega)) rfl (.cons (.free rfl) .nil) (allSc_map recV_sc) (List.length_map ..) rfl rfl rfl rfl ?_
  refine s_mv (.inr rfl) (by conv => lhs; whnf) rfl rfl rfl ?_
  refine rt_nil ?_
  refine tri_seq ?_
  refine tri_seq ?_
  refine tri_region ?_
  refine s_mv (.inr rfl) (v := .sc (.int .i64 0)) rfl rfl rfl rfl ?_
  refine rt_nil ?_
  refine tri_block ?_
  refine tri_loop (ι := {i : Nat // i ≤ l.length}) (fun p => inv36 l k p.1) (fun p => l.length - p.1) ⟨0, Nat.zero_le _⟩ ?_ ?_
  · skip
    refine entT [((2005, 0), ⟨36, 6, (ttlU l k 0).map recV, false, true⟩, some (8, 0))] [] ⟨⟨rfl, _, rfl, rfl, rfl, rfl, id, (by rw [ttlU_zero]), allFree_map recV_free, rowsZ_map recV_len⟩, trivial⟩ trivial rfl rfl ?_
    exact ⟨.free rfl, .ref rfl, .free rfl, trivial⟩
  · intro p
    obtain ⟨i, hi⟩ := p
    simp only
    refine tri_seq ?_
    refine tri_seq ?_
    refine tri_region ?_
    refine s_mv (.inl rfl) (by conv => lhs; whnf) rfl rfl rfl ?_
    refine s_mv (.inl rfl) (by conv => lhs; whnf) rfl rfl rfl ?_
    refine s_len rfl sl27 (by first | exact congrArg some (List.length_map ..) | rfl) rfl rfl rfl ?_
    refine s_of (st_lss rfl rfl rfl) rfl rfl rfl rfl ?_
    refine rt_nil ?_
    refine tri_cond rfl (fun hc12 => ?_) (fun hc12 => ?_)
    · skip
      have hlt : i < l.length := by simpa using hc12
      refine tri_skip ?_
      refine tri_seq ?_
      refine tri_block ?_
      refine tri_region ?_
      refine s_mv (.inl rfl) (by conv => lhs; whnf) rfl rfl rfl ?_
      refine s_mv (.inl rfl) (by conv => lhs; whnf) rfl rfl rfl ?_
      refine s_mv (.inl rfl) (by conv => lhs; whnf) rfl rfl rfl ?_
      refine s_index rfl rfl rfl rfl sl27 rfl (by first | omega | (simp only [List.length_map]; omega)) rfl rfl rfl ?_
      refine s_fieldAddr rfl rfl fd36_2 rfl rfl rfl rfl ?_
      refine s_store rfl rfl rfl (rowAt (by simp only [ttlU_len hi]; omega)) ty3 rfl rfl rfl rfl rfl rfl ?_
      refine rt_nil ?_
      refine tri_region ?_
      refine s_mv (.inl rfl) (by conv => lhs; whnf) rfl rfl rfl ?_
      refine s_inc (b := 1) rfl rfl rfl rfl (by omega) rfl rfl rfl ?_
      refine s_mv (.inr rfl) (by conv => lhs; whnf) rfl rfl rfl ?_
      refine rt_nil ?_
      refine Exists.intro ⟨i + 1, hlt⟩ (And.intro (by simp only; omega) ?_)
      refine entT [((2005, 0), ⟨36, 6, (ttlU l k (i + 1)).map recV, false, true⟩, some (2005, 0))] [] ⟨⟨rfl, _, rfl, rfl, rfl, rfl, id, (ttlU_step hlt), allFree_map recV_free, rowsZ_map recV_len⟩, trivial⟩ trivial rfl rfl ?_
      exact ⟨.free rfl, .ref rfl, .free rfl, trivial⟩
    · skip
      have hge : i = l.length := by simp at hc12; omega
      subst hge
      refine tri_exit ?_
      refine tri_seq ?_
      refine tri_region ?_
      refine s_mv (.inl rfl) (by conv => lhs; whnf) rfl rfl rfl ?_
      refine s_mv (.inr rfl) (by conv => lhs; whnf) rfl rfl rfl ?_
      refine rt_nil ?_
      refine tri_ret ?_
      exact endT [((2000, 0), ⟨36, 6, (l.map (setC k)).map recV, false, true⟩, some (2005, 0))] [] ⟨⟨rfl, _, rfl, rfl, rfl, rfl, id, (by rw [ttlU_all]), allFree_map recV_free, rowsZ_map recV_len⟩, trivial⟩ trivial rfl rfl rfl (by show Cv _ _ _ _ (.ref (2005, 0) 0 _) (.ref (2000, 0) 0 ((l.map (setC k)).map recV).length); first | (simp only [Nat.zero_add]; exact .ref rfl) | (simp only [List.length_map]; exact .ref rfl))

/- impl.WithTtl -/
def inv37 (l : List Rec) (k : Int) (i : Nat) : St :=
  mkT 21 [(1, .sc (.int .i64 k)), (5, .ref (2005, 0) 0 l.length), (10, .sc (.int .i64 (l.length : Int))), (11, .sc (.int .i64 ((i : Nat) : Int)))]
    [((2005, 0), some ⟨36, 6, (ttlU l k i).map recV, false, true⟩)]

set_option maxRecDepth 4000 in
theorem r37 (l : List Rec) (k : Int) (hl : l.length ≤ 1099511627776) : Runs Try.prog 37 [.lst 6 (l.map recV), .sc (.int .i64 k)] [] (.own 36 6 ((l.map (setC k)).map recV)) [] := by
  refine runsT [4] Try.func37 rfl rfl rfl rfl ?_
  rw [Try.ntmps37]
  refine tri_seq ?_
  refine tri_region ?_
  refine s_mv (.inr rfl) (v := .nils) rfl rfl rfl rfl ?_
  refine rt_nil ?_
  refine tri_seq ?_
  refine tri_region ?_
  refine s_mv (.inl rfl) (by conv => lhs; whnf) rfl rfl rfl ?_
  refine s_callO (kb := []) rfl rfl c73 (r73 l (by omega)) rfl (.cons (.free rfl) .nil) (allSc_map recV_sc) (List.length_map ..) rfl rfl rfl rfl ?_
  refine s_mv (.inr rfl) (by conv => lhs; whnf) rfl rfl rfl ?_
  refine rt_nil ?_
  refine tri_seq ?_
  refine tri_seq ?_
  refine tri_region ?_
  refine s_mv (.inl rfl) (by conv => lhs; whnf) rfl rfl rfl ?_
  refine s_len rfl sl27 (by first | exact congrArg some (List.length_map ..) | rfl) rfl rfl rfl ?_
  refine s_mv (.inl rfl) (v := .sc (.int .i64 0)) rfl rfl rfl rfl ?_
  refine rt_nil ?_
  refine tri_block ?_
  refine tri_loop (ι := {i : Nat // i ≤ l.length}) (fun p => inv37 l k p.1) (fun p => l.length - p.1) ⟨0, Nat.zero_le _⟩ ?_ ?_
  · skip
    refine entT [((2005, 0), ⟨36, 6, (ttlU l k 0).map recV, false, true⟩, some (8, 0))] [] ⟨⟨rfl, _, rfl, rfl, rfl, rfl, id, (by rw [ttlU_zero]), allFree_map recV_free, rowsZ_map recV_len⟩, trivial⟩ trivial rfl rfl ?_
    exact ⟨.free rfl, .ref rfl, .free rfl, .free rfl, trivial⟩
  · intro p
    obtain ⟨i, hi⟩ := p
    simp only
    refine tri_seq ?_
    refine tri_region ?_
    refine s_of (st_lss rfl rfl rfl) rfl rfl rfl rfl ?_
    refine rt_nil ?_
    refine tri_seq ?_
    refine tri_cond rfl (fun hc12 => ?_) (fun hc12 => ?_)
    · skip
      have hlt : i < l.length := by simpa using hc12
      refine tri_skip ?_
      refine tri_seq ?_
      refine tri_block ?_
      refine tri_seq ?_
      refine tri_region ?_
      refine s_mv (.inl rfl) (by conv => lhs; whnf) rfl rfl rfl ?_
      refine s_mv (.inr rfl) (by conv => lhs; whnf) rfl rfl rfl ?_
      refine rt_nil ?_
      refine tri_region ?_
      refine s_mv (.inl rfl) (by conv => lhs; whnf) rfl rfl rfl ?_
      refine s_mv (.inl rfl) (by conv => lhs; whnf) rfl rfl rfl ?_
      refine s_mv (.inl rfl) (by conv => lhs; whnf) rfl rfl rfl ?_
      refine s_index rfl rfl rfl rfl sl27 rfl (by first | omega | (simp only [List.length_map]; omega)) rfl rfl rfl ?_
      refine s_fieldAddr rfl rfl fd36_2 rfl rfl rfl rfl ?_
      refine s_store rfl rfl rfl (rowAt (by simp only [ttlU_len hi]; omega)) ty3 rfl rfl rfl rfl rfl rfl ?_
      refine rt_nil ?_
      refine tri_region ?_
      refine s_inc (b := 1) rfl rfl rfl rfl (by omega) rfl rfl rfl ?_
      refine s_mv (.inl rfl) (by conv => lhs; whnf) rfl rfl rfl ?_
      refine rt_nil ?_
      refine Exists.intro ⟨i + 1, hlt⟩ (And.intro (by simp only; omega) ?_)
      refine entT [((2005, 0), ⟨36, 6, (ttlU l k (i + 1)).map recV, false, true⟩, some (2005, 0))] [] ⟨⟨rfl, _, rfl, rfl, rfl, rfl, id, (ttlU_step hlt), allFree_map recV_free, rowsZ_map recV_len⟩, trivial⟩ trivial rfl rfl ?_
      exact ⟨.free rfl, .ref rfl, .free rfl, .free rfl, trivial⟩
    · skip
      have hge : i = l.length := by simp at hc12; omega
      subst hge
      refine tri_exit ?_
      refine tri_seq ?_
      refine tri_region ?_
      refine s_mv (.inl rfl) (by conv => lhs; whnf) rfl rfl rfl ?_
      refine s_mv (.inr rfl) (by conv => lhs; whnf) rfl rfl rfl ?_
      refine rt_nil ?_
      refine tri_ret ?_
      exact endT [((2000, 0), ⟨36, 6, (l.map (setC k)).map recV, false, true⟩, some (2005, 0))] [] ⟨⟨rfl, _, rfl, rfl, rfl, rfl, id, (by rw [ttlU_all]), allFree_map recV_free, rowsZ_map recV_len⟩, trivial⟩ trivial rfl rfl rfl (by show Cv _ _ _ _ (.ref (2005, 0) 0 _) (.ref (2000, 0) 0 ((l.map (setC k)).map recV).length); first | (simp only [Nat.zero_add]; exact .ref rfl) | (simp only [List.length_map]; exact .ref rfl))

/- laws.FnExactWithTtl -/


set_option maxRecDepth 4000 in
theorem r9 (l : List Rec) (k : Int) (hl : l.length ≤ 9223372036854775807) (hr : ∀ r, r ∈ l → r.ok) : Runs Try.prog 9 [.lst 6 (l.map recV), .sc (.int .i64 k)] [] (.sc (.bool true)) [] := by
  have ho : (l.map (setC k)).length = l.length := List.length_map ..
  refine runsT [4] Try.func9 rfl rfl rfl rfl ?_
  rw [Try.ntmps9]
  refine tri_seq ?_
  refine tri_region ?_
  refine s_mv (.inr rfl) (v := .sc (.bool false)) rfl rfl rfl rfl ?_
  refine rt_nil ?_
  refine tri_seq ?_
  refine tri_region ?_
  refine s_mv (.inr rfl) (v := .sc (.int .i64 1048576)) rfl rfl rfl rfl ?_
  refine rt_nil ?_
  refine tri_seq ?_
  refine tri_region ?_
  refine s_mv (.inl rfl) (by conv => lhs; whnf) rfl rfl rfl ?_
  refine s_mv (.inl rfl) (by conv => lhs; whnf) rfl rfl rfl ?_
  refine s_callV (kb := []) rfl rfl c17 (r17 _ _ ⟨by omega, by omega⟩ (by assumption) (by assumption)) rfl (.cons (.free rfl) (.cons (.free rfl) .nil)) rfl rfl rfl rfl ?_
  refine s_mv (.inr rfl) (by conv => lhs; whnf) rfl rfl rfl ?_
  refine rt_nil ?_
  refine tri_seq ?_
  refine tri_seq ?_
  refine tri_region ?_
  refine s_mv (.inl rfl) (by conv => lhs; whnf) rfl rfl rfl ?_
  refine s_of (st_lss rfl rfl rfl) rfl rfl rfl rfl ?_
  refine rt_nil ?_
  refine tri_cond rfl (fun hc17 => ?_) (fun hc17 => ?_)
  · skip
    refine tri_seq ?_
    refine tri_region ?_
    refine s_mv (.inr rfl) (v := .sc (.bool true)) rfl rfl rfl rfl ?_
    refine rt_nil ?_
    refine tri_ret ?_
    exact endBool rfl rfl rfl
  · skip
    have hs : 0 ≤ szS l 1048576 := by simpa using hc17
    have hlen : (l.length : Int) ≤ 1048576 := szS_len hs
    refine tri_skip ?_
    refine tri_seq ?_
    refine tri_region ?_
    refine s_mv (.inl rfl) (by conv => lhs; whnf) rfl rfl rfl ?_
    refine s_callO (kb := []) rfl rfl c19 (r19 _ (by omega)) rfl (.cons (.free rfl) .nil) (allSc_map recV_sc) (List.length_map ..) rfl rfl rfl rfl ?_
    refine s_mv (.inl rfl) (by conv => lhs; whnf) rfl rfl rfl ?_
    refine s_callO (kb := [(19, 0)]) rfl rfl c36 (r36 l k (by omega)) rfl (.cons (lend rfl (.head _) (by first | rfl | (simp only [List.length_map]; done) | simp only [List.length_map, mk_len]) (allFree_map recV_free) (rowsZ_map recV_len)) (.cons (.free rfl) .nil)) (allSc_map recV_sc) (List.length_map ..) rfl rfl rfl rfl ?_
    refine s_mv (.inr rfl) (by conv => lhs; whnf) rfl rfl rfl ?_
    refine rt_nil ?_
    refine tri_seq ?_
    refine tri_region ?_
    refine s_mv (.inl rfl) (by conv => lhs; whnf) rfl rfl rfl ?_
    refine s_callO (kb := []) rfl rfl c19 (r19 _ (by omega)) rfl (.cons (.free rfl) .nil) (allSc_map recV_sc) (List.length_map ..) rfl rfl rfl rfl ?_
    refine s_mv (.inr rfl) (by conv => lhs; whnf) rfl rfl rfl ?_
    refine rt_nil ?_
    refine tri_seq ?_
    refine tri_region ?_
    refine s_mv (.inl rfl) (by conv => lhs; whnf) rfl rfl rfl ?_
    refine s_mv (.inl rfl) (by conv => lhs; whnf) rfl rfl rfl ?_
    refine s_callO (kb := [(23, 0)]) rfl rfl c37 (r37 l k (by omega)) rfl (.cons (lend rfl (.head _) (by first | rfl | (simp only [List.length_map]; done) | simp only [List.length_map, mk_len]) (allFree_map recV_free) (rowsZ_map recV_len)) (.cons (.free rfl) .nil)) (allSc_map recV_sc) (List.length_map ..) rfl rfl rfl rfl ?_
    refine s_mv (.inr rfl) (by conv => lhs; whnf) rfl rfl rfl ?_
    refine rt_nil ?_
    refine tri_seq ?_
    refine tri_seq ?_
    refine tri_region ?_
    refine s_mv (.inl rfl) (by conv => lhs; whnf) rfl rfl rfl ?_
    refine s_mv (.inl rfl) (by conv => lhs; whnf) rfl rfl rfl ?_
    refine s_callV (kb := [(26, 0), (21, 0)]) rfl rfl c21 (r21 (l.map (setC k)) (l.map (setC k)) (by omega)) rfl (.cons (lend rfl (.head _) (by first | rfl | (simp only [List.length_map]; done) | simp only [List.length_map, mk_len]) (allFree_map recV_free) (rowsZ_map recV_len)) (.cons (lend rfl (.tail _ (.head _)) (by first | rfl | (simp only [List.length_map]; done) | simp only [List.length_map, mk_len]) (allFree_map recV_free) (rowsZ_map recV_len)) .nil)) rfl rfl rfl rfl ?_
    refine s_of (st_not rfl rfl) rfl rfl rfl rfl ?_
    refine rt_nil ?_
    refine tri_cond rfl (fun hc30 => ?_) (fun hc30 => ?_)
    · skip
      first | (simp at hc30; done) | (simp at hc30; omega) | (simp [mk_len] at hc30; done)
    · skip
      refine tri_skip ?_
      refine tri_seq ?_
      refine tri_seq ?_
      refine tri_region ?_
      refine s_mv (.inl rfl) (by conv => lhs; whnf) rfl rfl rfl ?_
      refine s_mv (.inl rfl) (by conv => lhs; whnf) rfl rfl rfl ?_
      refine s_callO (kb := []) rfl rfl c19 (r19 _ (by omega)) rfl (.cons (.free rfl) .nil) (allSc_map recV_sc) (List.length_map ..) rfl rfl rfl rfl ?_
      refine s_callV (kb := [(23, 0), (33, 0)]) rfl rfl c21 (r21 l l (by omega)) rfl (.cons (lend rfl (.head _) (by first | rfl | (simp only [List.length_map]; done) | simp only [List.length_map, mk_len]) (allFree_map recV_free) (rowsZ_map recV_len)) (.cons (lend rfl (.tail _ (.head _)) (by first | rfl | (simp only [List.length_map]; done) | simp only [List.length_map, mk_len]) (allFree_map recV_free) (rowsZ_map recV_len)) .nil)) rfl rfl rfl rfl ?_
      refine s_of (st_not rfl rfl) rfl rfl rfl rfl ?_
      refine rt_nil ?_
      refine tri_cond rfl (fun hc35 => ?_) (fun hc35 => ?_)
      · skip
        first | (simp at hc35; done) | (simp at hc35; omega) | (simp [mk_len] at hc35; done)
      · skip
        refine tri_skip ?_
        refine tri_seq ?_
        refine tri_region ?_
        refine s_mv (.inr rfl) (v := .sc (.int .i64 1)) rfl rfl rfl rfl ?_
        refine rt_nil ?_
        refine tri_seq ?_
        refine tri_region ?_
        refine s_mv (.inl rfl) (by conv => lhs; whnf) rfl rfl rfl ?_
        refine s_mv (.inl rfl) (by conv => lhs; whnf) rfl rfl rfl ?_
        refine s_callM (nm := (23, 0)) rfl rfl c34 rfl (r34 l 1 ⟨by omega, by omega⟩) rfl (.cons (.refOwn rfl) (.cons (.free rfl) .nil)) rfl (allFree_map recV_free) (allFree_map recV_free) rfl rfl rfl ?_
        refine s_mv (.inr rfl) (by conv => lhs; whnf) rfl rfl rfl ?_
        refine rt_nil ?_
        refine tri_seq ?_
        refine tri_seq ?_
        refine tri_region ?_
        refine s_mv (.inl rfl) (by conv => lhs; whnf) rfl rfl rfl ?_
        refine s_of (st_lss rfl rfl rfl) rfl rfl rfl rfl ?_
        refine s_mv (.inl rfl) (by conv => lhs; whnf) rfl rfl rfl ?_
        refine s_split (t := 41) rfl (fun hb41 => ?_) (fun hb41 => ?_)
        · skip
          first | (simp at hb41; done) | (simp at hb41; omega) | (simp [mk_len] at hb41; done)
        · skip
          refine s_mv (.inl rfl) (by conv => lhs; whnf) rfl rfl rfl ?_
          refine s_mv (.inl rfl) (by conv => lhs; whnf) rfl rfl rfl ?_
          refine s_callV (kb := [(26, 0), (21, 0)]) rfl rfl c21 (r21 (l.map (setC k)) (l.map (setC k)) (by omega)) rfl (.cons (lend rfl (.head _) (by first | rfl | (simp only [List.length_map]; done) | simp only [List.length_map, mk_len]) (allFree_map recV_free) (rowsZ_map recV_len)) (.cons (lend rfl (.tail _ (.head _)) (by first | rfl | (simp only [List.length_map]; done) | simp only [List.length_map, mk_len]) (allFree_map recV_free) (rowsZ_map recV_len)) .nil)) rfl rfl rfl rfl ?_
          refine s_of (st_not rfl rfl) rfl rfl rfl rfl ?_
          refine s_pickF rfl rfl (by conv => lhs; whnf) rfl rfl rfl ?_
          refine rt_nil ?_
          refine tri_cond rfl (fun hc46 => ?_) (fun hc46 => ?_)
          · skip
            first | (simp at hc46; done) | (simp at hc46; omega) | (simp [mk_len] at hc46; done)
          · skip
            refine tri_skip ?_
            refine tri_seq ?_
            refine tri_region ?_
            refine s_mv (.inr rfl) (v := .sc (.int .i64 1)) rfl rfl rfl rfl ?_
            refine rt_nil ?_
            refine tri_seq ?_
            refine tri_region ?_
            refine s_mv (.inl rfl) (by conv => lhs; whnf) rfl rfl rfl ?_
            refine s_mv (.inl rfl) (by conv => lhs; whnf) rfl rfl rfl ?_
            refine s_callM (nm := (26, 0)) rfl rfl c34 rfl (r34 (l.map (setC k)) 1 ⟨by omega, by omega⟩) rfl (.cons (.refOwn rfl) (.cons (.free rfl) .nil)) rfl (allFree_map recV_free) (allFree_map recV_free) rfl rfl rfl ?_
            refine s_mv (.inr rfl) (by conv => lhs; whnf) rfl rfl rfl ?_
            refine rt_nil ?_
            refine tri_seq ?_
            refine tri_region ?_
            refine s_mv (.inr rfl) (v := .sc (.int .i64 1)) rfl rfl rfl rfl ?_
            refine rt_nil ?_
            refine tri_seq ?_
            refine tri_region ?_
            refine s_mv (.inl rfl) (by conv => lhs; whnf) rfl rfl rfl ?_
            refine s_mv (.inl rfl) (by conv => lhs; whnf) rfl rfl rfl ?_
            refine s_callV (kb := [(26, 0)]) rfl rfl c35 (r35 (mk 1 (l.map (setC k)).length) 1 (by rw [mk_len]) (by rw [mk_len]; omega)) rfl (.cons (lend rfl (.head _) (by first | rfl | (simp only [List.length_map]; done) | simp only [List.length_map, mk_len]) (allFree_map recV_free) (rowsZ_map recV_len)) (.cons (.free rfl) .nil)) rfl rfl rfl rfl ?_
            refine s_mv (.inr rfl) (by conv => lhs; whnf) rfl rfl rfl ?_
            refine rt_nil ?_
            refine tri_seq ?_
            refine tri_seq ?_
            refine tri_region ?_
            refine s_mv (.inl rfl) (by conv => lhs; whnf) rfl rfl rfl ?_
            refine s_of (st_lss rfl rfl rfl) rfl rfl rfl rfl ?_
            refine rt_nil ?_
            refine tri_cond rfl (fun hc54 => ?_) (fun hc54 => ?_)
            · skip
              first | (simp at hc54; done) | (simp at hc54; omega) | (simp [mk_len] at hc54; done)
            · skip
              refine tri_skip ?_
              refine tri_seq ?_
              refine tri_seq ?_
              refine tri_region ?_
              refine s_mv (.inl rfl) (by conv => lhs; whnf) rfl rfl rfl ?_
              refine s_mv (.inl rfl) (by conv => lhs; whnf) rfl rfl rfl ?_
              refine s_of (st_neI rfl rfl rfl) rfl rfl rfl rfl ?_
              refine rt_nil ?_
              refine tri_cond rfl (fun hc57 => ?_) (fun hc57 => ?_)
              · skip
                first | (simp at hc57; done) | (simp at hc57; omega) | (simp [mk_len] at hc57; done)
              · skip
                refine tri_skip ?_
                refine tri_seq ?_
                refine tri_region ?_
                refine s_mv (.inl rfl) (by conv => lhs; whnf) rfl rfl rfl ?_
                refine s_callO (kb := []) rfl rfl c19 (r19 _ (by omega)) rfl (.cons (.free rfl) .nil) (allSc_map recV_sc) (List.length_map ..) rfl rfl rfl rfl ?_
                refine s_mv (.inl rfl) (by conv => lhs; whnf) rfl rfl rfl ?_
                refine s_callO (kb := [(59, 0)]) rfl rfl c37 (r37 l k (by omega)) rfl (.cons (lend rfl (.head _) (by first | rfl | (simp only [List.length_map]; done) | simp only [List.length_map, mk_len]) (allFree_map recV_free) (rowsZ_map recV_len)) (.cons (.free rfl) .nil)) (allSc_map recV_sc) (List.length_map ..) rfl rfl rfl rfl ?_
                refine s_mv (.inr rfl) (by conv => lhs; whnf) rfl rfl rfl ?_
                refine rt_nil ?_
                refine tri_seq ?_
                refine tri_seq ?_
                refine tri_region ?_
                refine s_mv (.inl rfl) (by conv => lhs; whnf) rfl rfl rfl ?_
                refine s_mv (.inl rfl) (by conv => lhs; whnf) rfl rfl rfl ?_
                refine s_callV (kb := [(61, 0), (21, 0)]) rfl rfl c21 (r21 (l.map (setC k)) (l.map (setC k)) (by omega)) rfl (.cons (lend rfl (.head _) (by first | rfl | (simp only [List.length_map]; done) | simp only [List.length_map, mk_len]) (allFree_map recV_free) (rowsZ_map recV_len)) (.cons (lend rfl (.tail _ (.head _)) (by first | rfl | (simp only [List.length_map]; done) | simp only [List.length_map, mk_len]) (allFree_map recV_free) (rowsZ_map recV_len)) .nil)) rfl rfl rfl rfl ?_
                refine s_of (st_not rfl rfl) rfl rfl rfl rfl ?_
                refine rt_nil ?_
                refine tri_cond rfl (fun hc65 => ?_) (fun hc65 => ?_)
                · skip
                  first | (simp at hc65; done) | (simp at hc65; omega) | (simp [mk_len] at hc65; done)
                · skip
                  refine tri_skip ?_
                  refine tri_seq ?_
                  refine tri_region ?_
                  refine s_mv (.inr rfl) (v := .sc (.int .i64 1)) rfl rfl rfl rfl ?_
                  refine rt_nil ?_
                  refine tri_seq ?_
                  refine tri_region ?_
                  refine s_mv (.inl rfl) (by conv => lhs; whnf) rfl rfl rfl ?_
                  refine s_mv (.inl rfl) (by conv => lhs; whnf) rfl rfl rfl ?_
                  refine s_callV (kb := [(26, 0)]) rfl rfl c35 (r35 (mk 1 (l.map (setC k)).length) 1 (by rw [mk_len]) (by rw [mk_len]; omega)) rfl (.cons (lend rfl (.head _) (by first | rfl | (simp only [List.length_map]; done) | simp only [List.length_map, mk_len]) (allFree_map recV_free) (rowsZ_map recV_len)) (.cons (.free rfl) .nil)) rfl rfl rfl rfl ?_
                  refine s_mv (.inr rfl) (by conv => lhs; whnf) rfl rfl rfl ?_
                  refine rt_nil ?_
                  refine tri_seq ?_
                  refine tri_seq ?_
                  refine tri_region ?_
                  refine s_mv (.inl rfl) (by conv => lhs; whnf) rfl rfl rfl ?_
                  refine s_of (st_lss rfl rfl rfl) rfl rfl rfl rfl ?_
                  refine rt_nil ?_
                  refine tri_cond rfl (fun hc70 => ?_) (fun hc70 => ?_)
                  · skip
                    first | (simp at hc70; done) | (simp at hc70; omega) | (simp [mk_len] at hc70; done)
                  · skip
                    refine tri_skip ?_
                    refine tri_seq ?_
                    refine tri_seq ?_
                    refine tri_region ?_
                    refine s_mv (.inl rfl) (by conv => lhs; whnf) rfl rfl rfl ?_
                    refine s_mv (.inl rfl) (by conv => lhs; whnf) rfl rfl rfl ?_
                    refine s_of (st_neI rfl rfl rfl) rfl rfl rfl rfl ?_
                    refine rt_nil ?_
                    refine tri_cond rfl (fun hc73 => ?_) (fun hc73 => ?_)
                    · skip
                      first | (simp at hc73; done) | (simp at hc73; omega) | (simp [mk_len] at hc73; done)
                    · skip
                      refine tri_skip ?_
                      refine tri_seq ?_
                      refine tri_region ?_
                      refine s_mv (.inr rfl) (v := .sc (.bool true)) rfl rfl rfl rfl ?_
                      refine rt_nil ?_
                      refine tri_ret ?_
                      exact endBool rfl rfl rfl

end Go.Abs.R1
