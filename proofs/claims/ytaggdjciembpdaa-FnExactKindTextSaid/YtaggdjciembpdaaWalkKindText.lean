/- Walks of the functions that the law of KindText reaches: what each of them computes, for all values within the bounds that its premises name. -/
import Derived.Test.YtaggdjciembpdaaAbsB2
import Derived.Test.YtaggdjciembpdaaAbsA22
import Derived.Test.YtaggdjciembpdaaChecked
namespace Go.Abs.R1
open Go Go.Abs Go.Proofs

structure Rec where
  a : ByteArray
  b : Int
  c : Int
  d : Int
  e : ByteArray
  f : ByteArray
  deriving DecidableEq
def recV (r : Rec) : List V := [.sc (.string r.a), .sc (.int .i64 r.b), .sc (.int .i64 r.c), .sc (.int .i64 r.d), .sc (.string r.e), .sc (.string r.f)]
theorem recV_free (r : Rec) : (recV r).all (·.free) = true := rfl
theorem recV_sc (r : Rec) : (recV r).all isScN = true := rfl
theorem recV_len (r : Rec) : (recV r).length = 6 := rfl
def Rec.ok (r : Rec) : Prop := r.a.size ≤ 9223372036854775807 ∧ r.e.size ≤ 9223372036854775807 ∧ r.f.size ≤ 9223372036854775807
def szRec (r : Rec) (n : Int) : Int :=
  if n - r.a.size < 0 then -1 else if n - r.a.size - r.e.size < 0 then -1 else if n - r.a.size - r.e.size - r.f.size < 0 then -1 else n - r.a.size - r.e.size - r.f.size
theorem szRec_le {r : Rec} {n : Int} (hn : 0 ≤ n) (_ : r.ok) : szRec r n ≤ n := by
  unfold szRec; split
  · omega
  · split
    · omega
    · split <;> omega
def szL : List Rec → Int → Int
  | [], n => n
  | r :: l, n => if szRec r n < 0 then -1 else szL l (szRec r n)
def szS (l : List Rec) (n : Int) : Int := if n - l.length < 0 then -1 else szL l (n - l.length)
theorem szL_le : ∀ (l : List Rec) (n : Int), 0 ≤ n → (∀ r, r ∈ l → r.ok) → szL l n ≤ n
  | [], n, _, _ => Int.le_refl _
  | r :: l, n, hn, hr => by
    unfold szL
    split
    · omega
    · exact Int.le_trans (szL_le l _ (by omega) fun q hq => hr q (.tail _ hq)) (szRec_le hn (hr r (.head _)))
theorem szS_len {l : List Rec} {n : Int} (h : 0 ≤ szS l n) : (l.length : Int) ≤ n := by
  unfold szS at h
  split at h <;> omega
def zrec : Rec := ⟨⟨#[]⟩, 0, 0, 0, ⟨#[]⟩, ⟨#[]⟩⟩
def copied (l : List Rec) (i : Nat) : List Rec := l.take i ++ List.replicate (l.length - i) zrec
theorem copied_len {l : List Rec} {i : Nat} (h : i ≤ l.length) : (copied l i).length = l.length := by unfold copied; simp; omega
theorem copied_zero (l : List Rec) : (copied l 0).map recV = List.replicate l.length [V.sc (.string ⟨#[]⟩), V.sc (.int .i64 0), V.sc (.int .i64 0), V.sc (.int .i64 0), V.sc (.string ⟨#[]⟩), V.sc (.string ⟨#[]⟩)] := by
  unfold copied; simp [List.map_replicate, recV, zrec]
theorem copied_all (l : List Rec) : copied l l.length = l := by unfold copied; simp
theorem copied_set {l : List Rec} {i : Nat} (h : i < l.length) : (copied l i).set i l[i] = copied l (i + 1) := by
  unfold copied
  have e : l.length - i = (l.length - (i + 1)) + 1 := by omega
  rw [List.set_append_right _ _ (by simp; omega), List.length_take, Nat.min_eq_left (by omega), Nat.sub_self, e, List.replicate_succ, List.set_cons_zero, List.take_add_one, List.getElem?_eq_getElem h]
  simp only [Option.toList, List.append_assoc, List.singleton_append]
theorem copied_step {l : List Rec} {i : Nat} (h : i < l.length) {x : Rec} : (copied l (i + 1)).map recV = ((copied l i).map recV).set (0 + i) (splice (recV x) 0 (recV l[i])) := by
  rw [← copied_set h, List.map_set, Nat.zero_add]
  rfl
def dig (n : Int) : ByteArray := strOfNums [IntKind.u8.wrap (IntKind.i64.wrap (48 + n.tmod 10))]
theorem dig_size (n : Int) : (dig n).size = 1 := rfl
def digs : Nat → Int → ByteArray → ByteArray
  | 0, _, s => s
  | k + 1, n, s => if 0 < n then digs k (n / 10) (dig n ++ s) else s
theorem digs_zero {k : Nat} {n : Int} {s : ByteArray} (h : n ≤ 0) : digs k n s = s := by
  cases k
  · rfl
  · simp only [digs]; rw [if_neg (by omega)]
def markT (n : Int) : ByteArray := if n ≤ 0 then ⟨#[109, 48]⟩ else ⟨#[109]⟩ ++ digs n.toNat n ⟨#[]⟩
def markR (n : Int) : Rec := ⟨markT n, n + 1, n + 1 + 1, n + 1 + 1 + 1, markT (n + 1 + 1 + 1 + 1), markT (n + 1 + 1 + 1 + 1 + 1)⟩
def mk (n : Int) (k : Nat) : List Rec := (List.range k).map fun (i : Nat) => markR (n + 6 * (i : Int))
theorem mk_len (n : Int) (k : Nat) : (mk n k).length = k := by simp [mk]
theorem mk_succ (n : Int) (k : Nat) : mk n (k + 1) = mk n k ++ [markR (n + 6 * (k : Int))] := by simp [mk, List.range_succ]
theorem mk_at {l : List Rec} {n m : Int} {i : Nat} (hl : l = mk n l.length) (hlt : i < l.length) (hm : m = n + 6 * (i : Int)) : l[i] = markR m := by
  have h2 : (mk n l.length)[i]? = some (markR m) := by simp [mk, hlt, hm]
  have h3 : (mk n l.length)[i]? = some l[i] := by rw [← hl]; exact List.getElem?_eq_getElem hlt
  rw [h3] at h2
  exact Option.some.inj h2
def marked (l : List Rec) (n : Int) (i : Nat) : List Rec := mk n i ++ l.drop i
theorem marked_len {l : List Rec} {n : Int} {i : Nat} (h : i ≤ l.length) : (marked l n i).length = l.length := by unfold marked; simp [mk_len]; omega
theorem marked_zero (l : List Rec) (n : Int) : marked l n 0 = l := by simp [marked, mk]
theorem marked_all (l : List Rec) (n : Int) : marked l n l.length = mk n l.length := by simp [marked]
theorem marked_set {l : List Rec} {n m : Int} {i : Nat} (h : i < l.length) (hm : m = n + 6 * (i : Int)) : (marked l n i).set i (markR m) = marked l n (i + 1) := by
  unfold marked
  rw [List.set_append_right _ _ (by rw [mk_len]; omega), mk_len, Nat.sub_self, List.drop_eq_getElem_cons h, List.set_cons_zero, mk_succ, hm]
  simp
theorem marked_step {l : List Rec} {n m : Int} {i : Nat} (h : i < l.length) (hm : m = n + 6 * (i : Int)) : (marked l n (i + 1)).map recV = ((marked l n i).map recV).set (0 + i) (recV (markR m)) := by
  rw [← marked_set h hm, List.map_set, Nat.zero_add]
def setP (nm : ByteArray) (k : Int) (r : Rec) : Bool := decide (r.a = nm) && decide (r.b = k)
theorem filter_take {α : Type} {l : List α} {p : α → Bool} {i : Nat} (h : i < l.length) : (l.take (i + 1)).filter p = (l.take i).filter p ++ (if p l[i] then [l[i]] else []) := by
  rw [List.take_add_one, List.getElem?_eq_getElem h]
  simp only [Option.toList, List.filter_append, List.filter_cons, List.filter_nil]
def outR (l : List Rec) (nm : ByteArray) (k : Int) (i : Nat) : List Rec := (l.take i).filter (setP nm k)
theorem outR_len {l : List Rec} (nm : ByteArray) (k : Int) {i : Nat} (h : i ≤ l.length) : (outR l nm k i).length ≤ i := by
  unfold outR; exact Nat.le_trans (List.length_filter_le _ _) (by simp only [List.length_take]; omega)
def lst (l : List Rec) : Nat → Int
  | 0 => 0
  | i + 1 => if i = 0 ∨ ((l[i]?).map (·.c)).getD 0 < lst l i then ((l[i]?).map (·.c)).getD 0 else lst l i
theorem lst_succ {l : List Rec} {i : Nat} (h : i < l.length) : lst l (i + 1) = if i = 0 ∨ l[i].c < lst l i then l[i].c else lst l i := by simp [lst, h]
def mi (l : List Rec) (i : Nat) : Int := if i = 0 then ((l[0]?).map (·.c)).getD 0 else lst l i
theorem mi_zero {l : List Rec} (h : 0 < l.length) : mi l 0 = l[0].c := by simp [mi, h]
theorem mi_succ {l : List Rec} {i : Nat} (h : i < l.length) : mi l (i + 1) = if l[i].c < mi l i then l[i].c else mi l i := by
  have e : mi l (i + 1) = lst l (i + 1) := by simp [mi]
  rw [e, lst_succ h]
  cases i with
  | zero => simp [mi, h]
  | succ i => simp [mi]
theorem mi_end {l : List Rec} (h : 0 < l.length) : mi l l.length = lst l l.length := by unfold mi; rw [if_neg (by omega)]
def setC (k : Int) (r : Rec) : Rec := ⟨r.a, r.b, k, r.d, r.e, r.f⟩
def ttlU (l : List Rec) (k : Int) (i : Nat) : List Rec := (l.take i).map (setC k) ++ l.drop i
theorem ttlU_len {l : List Rec} {k : Int} {i : Nat} (h : i ≤ l.length) : (ttlU l k i).length = l.length := by unfold ttlU; simp; omega
theorem ttlU_zero (l : List Rec) (k : Int) : ttlU l k 0 = l := by simp [ttlU]
theorem ttlU_all (l : List Rec) (k : Int) : ttlU l k l.length = l.map (setC k) := by simp [ttlU]
theorem ttlU_set {l : List Rec} {k : Int} {i : Nat} (h : i < l.length) : (ttlU l k i).set i (setC k l[i]) = ttlU l k (i + 1) := by
  unfold ttlU
  rw [List.set_append_right _ _ (by simp; omega), List.length_map, List.length_take, Nat.min_eq_left (by omega), Nat.sub_self, List.drop_eq_getElem_cons h, List.set_cons_zero, List.take_add_one, List.getElem?_eq_getElem h]
  simp only [List.map_append, List.append_assoc, Option.toList, List.map_cons, List.map_nil, List.singleton_append]
theorem ttlU_at {l : List Rec} {k : Int} {i : Nat} (h : i < l.length) (h' : 0 + i < (ttlU l k i).length) : (ttlU l k i)[0 + i] = l[i] := by
  have : (ttlU l k i)[0 + i]? = some l[i] := by
    unfold ttlU
    rw [Nat.zero_add, List.getElem?_append_right (by simp; omega)]
    simp [Nat.min_eq_left (Nat.le_of_lt h), h]
  rw [List.getElem?_eq_getElem h'] at this
  exact Option.some.inj this
theorem ttlU_step {l : List Rec} {k : Int} {i : Nat} (h : i < l.length) {h' : 0 + i < (ttlU l k i).length} : (ttlU l k (i + 1)).map recV = ((ttlU l k i).map recV).set (0 + i) (splice (recV (ttlU l k i)[0 + i]) 2 [.sc (.int .i64 k)]) := by
  rw [ttlU_at h h', ← ttlU_set h, List.map_set, Nat.zero_add]; rfl
def strV (s : ByteArray) : List V := [.sc (.string s)]
theorem strV_free (s : ByteArray) : (strV s).all (·.free) = true := rfl
theorem strV_sc (s : ByteArray) : (strV s).all isScN = true := rfl
theorem strV_len (s : ByteArray) : (strV s).length = 1 := rfl
def kt : List ByteArray := [⟨#[110, 111, 116]⟩, ⟨#[100, 111, 119, 110]⟩, ⟨#[97, 108, 105, 97, 115]⟩, ⟨#[115, 101, 116]⟩, ⟨#[110, 111, 100, 97, 116, 97]⟩, ⟨#[110, 111, 110, 97, 109, 101]⟩]
def ktext (n : Int) : ByteArray := if 0 ≤ n ∧ n ≤ 5 then (kt[n.toNat]?).getD ⟨#[]⟩ else ⟨#[]⟩
theorem ktext_at {m : Nat} (h : (m : Int) ≤ 5) (h2 : 0 + m < kt.length) : kt[0 + m] = ktext (m : Int) := by
  unfold ktext
  rw [if_pos ⟨by omega, h⟩]
  simp only [Int.toNat_natCast, Nat.zero_add]
  rw [List.getElem?_eq_getElem (by omega)]; rfl
theorem mixed : Try.prog.follows .mixedOrders = true := by kernel_rfl

theorem c15 : callable Try.prog 15 = true := by kernel_rfl
theorem c16 : callable Try.prog 16 = true := by kernel_rfl
theorem c63 : callable Try.prog 63 = true := by kernel_rfl
theorem sl54 : slTy Try.prog 54 = some (9, 1, 16) := by kernel_rfl
theorem ty9 : tyK Try.prog 9 = some (false, 1) := by kernel_rfl
theorem zc9 : zeroC Try.prog 9 = some [.string ⟨#[]⟩] := by kernel_rfl

/- spec.l1In -/


set_option maxRecDepth 4000 in
theorem r63 (n lo hi : Int) : Runs Try.prog 63 [.sc (.int .i64 n), .sc (.int .i64 lo), .sc (.int .i64 hi)] [] (.sc (.bool (decide (lo ≤ n ∧ n ≤ hi)))) [] := by
  refine runsT [6] Try.func63 rfl rfl rfl rfl ?_
  rw [Try.ntmps63]
  refine tri_seq ?_
  refine tri_region ?_
  refine s_mv (.inr rfl) (v := .sc (.bool false)) rfl rfl rfl rfl ?_
  refine rt_nil ?_
  refine tri_seq ?_
  refine tri_region ?_
  refine s_mv (.inl rfl) (by conv => lhs; whnf) rfl rfl rfl ?_
  refine s_mv (.inl rfl) (by conv => lhs; whnf) rfl rfl rfl ?_
  refine s_of (st_geq rfl rfl rfl) rfl rfl rfl rfl ?_
  refine s_mv (.inl rfl) (by conv => lhs; whnf) rfl rfl rfl ?_
  refine s_split (t := 10) rfl (fun hb10 => ?_) (fun hb10 => ?_)
  · skip
    refine s_mv (.inl rfl) (by conv => lhs; whnf) rfl rfl rfl ?_
    refine s_mv (.inl rfl) (by conv => lhs; whnf) rfl rfl rfl ?_
    refine s_of (st_leq rfl rfl rfl) rfl rfl rfl rfl ?_
    refine s_pickT rfl rfl (by conv => lhs; whnf) rfl rfl rfl ?_
    refine s_mv (.inr rfl) (by conv => lhs; whnf) rfl rfl rfl ?_
    refine rt_nil ?_
    refine tri_ret ?_
    exact endBool rfl (by have := of_decide_eq_true hb10; simp [this]) rfl
  · skip
    refine s_skip rfl rfl rfl ?_
    refine s_skip rfl rfl rfl ?_
    refine s_skip rfl rfl rfl ?_
    refine s_pickF rfl rfl (v := .sc (.bool false)) rfl rfl rfl rfl ?_
    refine s_mv (.inr rfl) (by conv => lhs; whnf) rfl rfl rfl ?_
    refine rt_nil ?_
    refine tri_ret ?_
    exact endBool rfl (by have := of_decide_eq_false hb10; simp [this]) rfl

/- spec.KindText -/


set_option maxRecDepth 4000 in
theorem r15 (n : Int) : Runs Try.prog 15 [.sc (.int .i64 n)] [] (.sc (.string (ktext n))) [] := by
  refine runsT [2] Try.func15 rfl rfl rfl rfl ?_
  rw [Try.ntmps15]
  refine tri_seq ?_
  refine tri_region ?_
  refine s_mv (.inr rfl) (v := .sc (.string ⟨#[]⟩)) rfl rfl rfl rfl ?_
  refine rt_nil ?_
  refine tri_seq ?_
  refine tri_region ?_
  refine s_buildSlice (rows' := kt.map strV) rfl rfl rfl sl54 zc9 rfl rfl rfl rfl rfl rfl rfl rfl rfl ?_
  refine s_mv (.inr rfl) (by conv => lhs; whnf) rfl rfl rfl ?_
  refine rt_nil ?_
  refine tri_seq ?_
  refine tri_seq ?_
  refine tri_region ?_
  refine s_mv (.inl rfl) (by conv => lhs; whnf) rfl rfl rfl ?_
  refine s_mv (.inl rfl) (by conv => lhs; whnf) rfl rfl rfl ?_
  refine s_len rfl sl54 (by first | exact congrArg some (List.length_map ..) | rfl) rfl rfl rfl ?_
  refine s_subI rfl rfl rfl (show ((6 : Nat) : Int) - 1 = 5 from rfl) (by omega) rfl rfl rfl ?_
  refine s_callV (kb := []) rfl rfl c63 (r63 n 0 5) rfl (.cons (.free rfl) (.cons (.free rfl) (.cons (.free rfl) .nil))) rfl rfl rfl rfl ?_
  refine s_of (st_not rfl rfl) rfl rfl rfl rfl ?_
  refine rt_nil ?_
  refine tri_cond rfl (fun hc10 => ?_) (fun hc10 => ?_)
  · skip
    refine tri_seq ?_
    refine tri_region ?_
    refine s_mv (.inr rfl) (v := .sc (.string ⟨#[]⟩)) rfl rfl rfl rfl ?_
    refine rt_nil ?_
    refine tri_ret ?_
    exact endStr rfl (by unfold ktext; rw [if_neg (by simp at hc10; omega)]) rfl
  · skip
    obtain ⟨h0, h5⟩ : 0 ≤ n ∧ n ≤ 5 := by simpa using hc10
    obtain ⟨m, rfl⟩ := Int.eq_ofNat_of_zero_le h0
    refine tri_skip ?_
    refine tri_seq ?_
    refine tri_region ?_
    refine s_mv (.inl rfl) (by conv => lhs; whnf) rfl rfl rfl ?_
    refine s_mv (.inl rfl) (by conv => lhs; whnf) rfl rfl rfl ?_
    refine s_index rfl rfl rfl rfl sl54 rfl (by omega) rfl rfl rfl ?_
    refine s_load rfl rfl rfl (rowAt (by show 0 + m < 6; omega)) ty9 rfl (.inr rfl) (by conv => lhs; whnf) rfl rfl rfl ?_
    refine s_mv (.inr rfl) (by conv => lhs; whnf) rfl rfl rfl ?_
    refine rt_nil ?_
    refine tri_ret ?_
    exact endStr rfl (ktext_at h5 _) rfl

/- impl.KindText -/


set_option maxRecDepth 4000 in
theorem r16 (n : Int) : Runs Try.prog 16 [.sc (.int .i64 n)] [] (.sc (.string (ktext n))) [] := by
  refine runsT [2] Try.func16 rfl rfl rfl rfl ?_
  rw [Try.ntmps16]
  refine tri_seq ?_
  refine tri_region ?_
  refine s_mv (.inr rfl) (v := .sc (.string ⟨#[]⟩)) rfl rfl rfl rfl ?_
  refine rt_nil ?_
  refine tri_seq ?_
  refine tri_region ?_
  refine s_buildSlice (rows' := kt.map strV) rfl rfl rfl sl54 zc9 rfl rfl rfl rfl rfl rfl rfl rfl rfl ?_
  refine s_mv (.inr rfl) (by conv => lhs; whnf) rfl rfl rfl ?_
  refine rt_nil ?_
  refine tri_seq ?_
  refine tri_cut (mkT 17 [(12, .sc (.bool (decide (n < 0 ∨ 6 ≤ n)))), (0, .sc (.int .i64 n)), (3, .ref (4, 0) 0 6)] [((4, 0), some ⟨9, 1, kt.map strV, false, true⟩)]) ?_ ?_
  · skip
    refine tri_region ?_
    refine s_mv (.inl rfl) (by conv => lhs; whnf) rfl rfl rfl ?_
    refine s_of (st_lss rfl rfl rfl) rfl rfl rfl rfl ?_
    refine s_mv (.inl rfl) (by conv => lhs; whnf) rfl rfl rfl ?_
    refine s_split (t := 7) rfl (fun hb7 => ?_) (fun hb7 => ?_)
    · skip
      refine s_skip rfl rfl rfl ?_
      refine s_skip rfl rfl rfl ?_
      refine s_skip rfl rfl rfl ?_
      refine s_skip rfl rfl rfl ?_
      refine s_pickT rfl rfl (v := .sc (.bool true)) rfl rfl rfl rfl ?_
      refine rt_nil ?_
      refine entT [((4, 0), ⟨9, 1, kt.map strV, false, true⟩, some (4, 0))] [] ⟨⟨rfl, _, rfl, rfl, rfl, rfl, id, rfl, allFree_map strV_free, rowsZ_map strV_len⟩, trivial⟩ trivial rfl rfl ?_
      rw [show decide (n < 0 ∨ 6 ≤ n) = true from by have := of_decide_eq_true hb7; simp [this]]
      exact ⟨.free rfl, .free rfl, .ref rfl, trivial⟩
    · skip
      refine s_mv (.inl rfl) (by conv => lhs; whnf) rfl rfl rfl ?_
      refine s_mv (.inl rfl) (by conv => lhs; whnf) rfl rfl rfl ?_
      refine s_len rfl sl54 (by first | exact congrArg some (List.length_map ..) | rfl) rfl rfl rfl ?_
      refine s_of (st_geq rfl rfl rfl) rfl rfl rfl rfl ?_
      refine s_pickF rfl rfl (by conv => lhs; whnf) rfl rfl rfl ?_
      refine rt_nil ?_
      refine entT [((4, 0), ⟨9, 1, kt.map strV, false, true⟩, some (4, 0))] [] ⟨⟨rfl, _, rfl, rfl, rfl, rfl, id, rfl, allFree_map strV_free, rowsZ_map strV_len⟩, trivial⟩ trivial rfl rfl ?_
      rw [show decide (n < 0 ∨ 6 ≤ n) = decide (((6 : Nat) : Int) ≤ n) from by have := of_decide_eq_false hb7; simp [this]]
      exact ⟨.free rfl, .free rfl, .ref rfl, trivial⟩
  · skip
    refine tri_cond rfl (fun hc12 => ?_) (fun hc12 => ?_)
    · skip
      refine tri_seq ?_
      refine tri_region ?_
      refine s_mv (.inr rfl) (v := .sc (.string ⟨#[]⟩)) rfl rfl rfl rfl ?_
      refine rt_nil ?_
      refine tri_ret ?_
      exact endStr rfl (by unfold ktext; rw [if_neg (by have := of_decide_eq_true hc12; omega)]) rfl
    · skip
      obtain ⟨h0, h5⟩ : 0 ≤ n ∧ n ≤ 5 := by have := of_decide_eq_false hc12; omega
      obtain ⟨m, rfl⟩ := Int.eq_ofNat_of_zero_le h0
      refine tri_skip ?_
      refine tri_seq ?_
      refine tri_region ?_
      refine s_mv (.inl rfl) (by conv => lhs; whnf) rfl rfl rfl ?_
      refine s_mv (.inl rfl) (by conv => lhs; whnf) rfl rfl rfl ?_
      refine s_index rfl rfl rfl rfl sl54 rfl (by omega) rfl rfl rfl ?_
      refine s_load rfl rfl rfl (rowAt (by show 0 + m < 6; omega)) ty9 rfl (.inr rfl) (by conv => lhs; whnf) rfl rfl rfl ?_
      refine s_mv (.inr rfl) (by conv => lhs; whnf) rfl rfl rfl ?_
      refine rt_nil ?_
      refine tri_ret ?_
      exact endStr rfl (ktext_at h5 _) rfl

/- laws.FnExactKindText -/


set_option maxRecDepth 4000 in
theorem r3 (n : Int) : Runs Try.prog 3 [.sc (.int .i64 n)] [] (.sc (.bool true)) [] := by
  refine runsT [2] Try.func3 rfl rfl rfl rfl ?_
  rw [Try.ntmps3]
  refine tri_seq ?_
  refine tri_region ?_
  refine s_mv (.inr rfl) (v := .sc (.bool false)) rfl rfl rfl rfl ?_
  refine rt_nil ?_
  refine tri_seq ?_
  refine tri_region ?_
  refine s_mv (.inl rfl) (by conv => lhs; whnf) rfl rfl rfl ?_
  refine s_callV (kb := []) rfl rfl c15 (r15 _) rfl (.cons (.free rfl) .nil) rfl rfl rfl rfl ?_
  refine s_mv (.inr rfl) (by conv => lhs; whnf) rfl rfl rfl ?_
  refine rt_nil ?_
  refine tri_seq ?_
  refine tri_region ?_
  refine s_mv (.inl rfl) (by conv => lhs; whnf) rfl rfl rfl ?_
  refine s_callV (kb := []) rfl rfl c16 (r16 _) rfl (.cons (.free rfl) .nil) rfl rfl rfl rfl ?_
  refine s_mv (.inr rfl) (by conv => lhs; whnf) rfl rfl rfl ?_
  refine rt_nil ?_
  refine tri_seq ?_
  refine tri_seq ?_
  refine tri_region ?_
  refine s_mv (.inl rfl) (by conv => lhs; whnf) rfl rfl rfl ?_
  refine s_mv (.inl rfl) (by conv => lhs; whnf) rfl rfl rfl ?_
  refine s_of (st_neS rfl rfl rfl) rfl rfl rfl rfl ?_
  refine rt_nil ?_
  refine tri_cond rfl (fun hc11 => ?_) (fun hc11 => ?_)
  · skip
    first | (simp at hc11; done) | (simp at hc11; omega) | (simp [mk_len] at hc11; done)
  · skip
    refine tri_skip ?_
    refine tri_seq ?_
    refine tri_region ?_
    refine s_mv (.inr rfl) (v := .sc (.bool true)) rfl rfl rfl rfl ?_
    refine rt_nil ?_
    refine tri_ret ?_
    exact endBool rfl rfl rfl

end Go.Abs.R1
