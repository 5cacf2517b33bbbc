/- Walks of the functions that the law of SameData reaches: what each of them computes, for all values within the bounds that its premises name. -/
import Derived.Test.YtaggdjciembpdaaAbsB2
import Derived.Test.YtaggdjciembpdaaAbsA23
import Derived.Test.YtaggdjciembpdaaChecked
namespace Go.Abs.R1
open Go Go.Abs Go.Proofs

structure Rec where
  a : ByteArray
  b : Int
  c : Int
  d : Int
  e : ByteArray
  f : ByteArray
  deriving DecidableEq
def recV (r : Rec) : List V := [.sc (.string r.a), .sc (.int .i64 r.b), .sc (.int .i64 r.c), .sc (.int .i64 r.d), .sc (.string r.e), .sc (.string r.f)]
theorem recV_free (r : Rec) : (recV r).all (·.free) = true := rfl
theorem recV_sc (r : Rec) : (recV r).all isScN = true := rfl
theorem recV_len (r : Rec) : (recV r).length = 6 := rfl
def Rec.ok (r : Rec) : Prop := r.a.size ≤ 9223372036854775807 ∧ r.e.size ≤ 9223372036854775807 ∧ r.f.size ≤ 9223372036854775807
def szRec (r : Rec) (n : Int) : Int :=
  if n - r.a.size < 0 then -1 else if n - r.a.size - r.e.size < 0 then -1 else if n - r.a.size - r.e.size - r.f.size < 0 then -1 else n - r.a.size - r.e.size - r.f.size
theorem szRec_le {r : Rec} {n : Int} (hn : 0 ≤ n) (_ : r.ok) : szRec r n ≤ n := by
  unfold szRec; split
  · omega
  · split
    · omega
    · split <;> omega
def szL : List Rec → Int → Int
  | [], n => n
  | r :: l, n => if szRec r n < 0 then -1 else szL l (szRec r n)
def szS (l : List Rec) (n : Int) : Int := if n - l.length < 0 then -1 else szL l (n - l.length)
theorem szL_le : ∀ (l : List Rec) (n : Int), 0 ≤ n → (∀ r, r ∈ l → r.ok) → szL l n ≤ n
  | [], n, _, _ => Int.le_refl _
  | r :: l, n, hn, hr => by
    unfold szL
    split
    · omega
    · exact Int.le_trans (szL_le l _ (by omega) fun q hq => hr q (.tail _ hq)) (szRec_le hn (hr r (.head _)))
theorem szS_len {l : List Rec} {n : Int} (h : 0 ≤ szS l n) : (l.length : Int) ≤ n := by
  unfold szS at h
  split at h <;> omega
def zrec : Rec := ⟨⟨#[]⟩, 0, 0, 0, ⟨#[]⟩, ⟨#[]⟩⟩
def copied (l : List Rec) (i : Nat) : List Rec := l.take i ++ List.replicate (l.length - i) zrec
theorem copied_len {l : List Rec} {i : Nat} (h : i ≤ l.length) : (copied l i).length = l.length := by unfold copied; simp; omega
theorem copied_zero (l : List Rec) : (copied l 0).map recV = List.replicate l.length [V.sc (.string ⟨#[]⟩), V.sc (.int .i64 0), V.sc (.int .i64 0), V.sc (.int .i64 0), V.sc (.string ⟨#[]⟩), V.sc (.string ⟨#[]⟩)] := by
  unfold copied; simp [List.map_replicate, recV, zrec]
theorem copied_all (l : List Rec) : copied l l.length = l := by unfold copied; simp
theorem copied_set {l : List Rec} {i : Nat} (h : i < l.length) : (copied l i).set i l[i] = copied l (i + 1) := by
  unfold copied
  have e : l.length - i = (l.length - (i + 1)) + 1 := by omega
  rw [List.set_append_right _ _ (by simp; omega), List.length_take, Nat.min_eq_left (by omega), Nat.sub_self, e, List.replicate_succ, List.set_cons_zero, List.take_add_one, List.getElem?_eq_getElem h]
  simp only [Option.toList, List.append_assoc, List.singleton_append]
theorem copied_step {l : List Rec} {i : Nat} (h : i < l.length) {x : Rec} : (copied l (i + 1)).map recV = ((copied l i).map recV).set (0 + i) (splice (recV x) 0 (recV l[i])) := by
  rw [← copied_set h, List.map_set, Nat.zero_add]
  rfl
def dig (n : Int) : ByteArray := strOfNums [IntKind.u8.wrap (IntKind.i64.wrap (48 + n.tmod 10))]
theorem dig_size (n : Int) : (dig n).size = 1 := rfl
def digs : Nat → Int → ByteArray → ByteArray
  | 0, _, s => s
  | k + 1, n, s => if 0 < n then digs k (n / 10) (dig n ++ s) else s
theorem digs_zero {k : Nat} {n : Int} {s : ByteArray} (h : n ≤ 0) : digs k n s = s := by
  cases k
  · rfl
  · simp only [digs]; rw [if_neg (by omega)]
def markT (n : Int) : ByteArray := if n ≤ 0 then ⟨#[109, 48]⟩ else ⟨#[109]⟩ ++ digs n.toNat n ⟨#[]⟩
def markR (n : Int) : Rec := ⟨markT n, n + 1, n + 1 + 1, n + 1 + 1 + 1, markT (n + 1 + 1 + 1 + 1), markT (n + 1 + 1 + 1 + 1 + 1)⟩
def mk (n : Int) (k : Nat) : List Rec := (List.range k).map fun (i : Nat) => markR (n + 6 * (i : Int))
theorem mk_len (n : Int) (k : Nat) : (mk n k).length = k := by simp [mk]
theorem mk_succ (n : Int) (k : Nat) : mk n (k + 1) = mk n k ++ [markR (n + 6 * (k : Int))] := by simp [mk, List.range_succ]
theorem mk_at {l : List Rec} {n m : Int} {i : Nat} (hl : l = mk n l.length) (hlt : i < l.length) (hm : m = n + 6 * (i : Int)) : l[i] = markR m := by
  have h2 : (mk n l.length)[i]? = some (markR m) := by simp [mk, hlt, hm]
  have h3 : (mk n l.length)[i]? = some l[i] := by rw [← hl]; exact List.getElem?_eq_getElem hlt
  rw [h3] at h2
  exact Option.some.inj h2
def marked (l : List Rec) (n : Int) (i : Nat) : List Rec := mk n i ++ l.drop i
theorem marked_len {l : List Rec} {n : Int} {i : Nat} (h : i ≤ l.length) : (marked l n i).length = l.length := by unfold marked; simp [mk_len]; omega
theorem marked_zero (l : List Rec) (n : Int) : marked l n 0 = l := by simp [marked, mk]
theorem marked_all (l : List Rec) (n : Int) : marked l n l.length = mk n l.length := by simp [marked]
theorem marked_set {l : List Rec} {n m : Int} {i : Nat} (h : i < l.length) (hm : m = n + 6 * (i : Int)) : (marked l n i).set i (markR m) = marked l n (i + 1) := by
  unfold marked
  rw [List.set_append_right _ _ (by rw [mk_len]; omega), mk_len, Nat.sub_self, List.drop_eq_getElem_cons h, List.set_cons_zero, mk_succ, hm]
  simp
theorem marked_step {l : List Rec} {n m : Int} {i : Nat} (h : i < l.length) (hm : m = n + 6 * (i : Int)) : (marked l n (i + 1)).map recV = ((marked l n i).map recV).set (0 + i) (recV (markR m)) := by
  rw [← marked_set h hm, List.map_set, Nat.zero_add]
def setP (nm : ByteArray) (k : Int) (r : Rec) : Bool := decide (r.a = nm) && decide (r.b = k)
theorem filter_take {α : Type} {l : List α} {p : α → Bool} {i : Nat} (h : i < l.length) : (l.take (i + 1)).filter p = (l.take i).filter p ++ (if p l[i] then [l[i]] else []) := by
  rw [List.take_add_one, List.getElem?_eq_getElem h]
  simp only [Option.toList, List.filter_append, List.filter_cons, List.filter_nil]
def outR (l : List Rec) (nm : ByteArray) (k : Int) (i : Nat) : List Rec := (l.take i).filter (setP nm k)
theorem outR_len {l : List Rec} (nm : ByteArray) (k : Int) {i : Nat} (h : i ≤ l.length) : (outR l nm k i).length ≤ i := by
  unfold outR; exact Nat.le_trans (List.length_filter_le _ _) (by simp only [List.length_take]; omega)
def lst (l : List Rec) : Nat → Int
  | 0 => 0
  | i + 1 => if i = 0 ∨ ((l[i]?).map (·.c)).getD 0 < lst l i then ((l[i]?).map (·.c)).getD 0 else lst l i
theorem lst_succ {l : List Rec} {i : Nat} (h : i < l.length) : lst l (i + 1) = if i = 0 ∨ l[i].c < lst l i then l[i].c else lst l i := by simp [lst, h]
def mi (l : List Rec) (i : Nat) : Int := if i = 0 then ((l[0]?).map (·.c)).getD 0 else lst l i
theorem mi_zero {l : List Rec} (h : 0 < l.length) : mi l 0 = l[0].c := by simp [mi, h]
theorem mi_succ {l : List Rec} {i : Nat} (h : i < l.length) : mi l (i + 1) = if l[i].c < mi l i then l[i].c else mi l i := by
  have e : mi l (i + 1) = lst l (i + 1) := by simp [mi]
  rw [e, lst_succ h]
  cases i with
  | zero => simp [mi, h]
  | succ i => simp [mi]
theorem mi_end {l : List Rec} (h : 0 < l.length) : mi l l.length = lst l l.length := by unfold mi; rw [if_neg (by omega)]
def setC (k : Int) (r : Rec) : Rec := ⟨r.a, r.b, k, r.d, r.e, r.f⟩
def ttlU (l : List Rec) (k : Int) (i : Nat) : List Rec := (l.take i).map (setC k) ++ l.drop i
theorem ttlU_len {l : List Rec} {k : Int} {i : Nat} (h : i ≤ l.length) : (ttlU l k i).length = l.length := by unfold ttlU; simp; omega
theorem ttlU_zero (l : List Rec) (k : Int) : ttlU l k 0 = l := by simp [ttlU]
theorem ttlU_all (l : List Rec) (k : Int) : ttlU l k l.length = l.map (setC k) := by simp [ttlU]
theorem ttlU_set {l : List Rec} {k : Int} {i : Nat} (h : i < l.length) : (ttlU l k i).set i (setC k l[i]) = ttlU l k (i + 1) := by
  unfold ttlU
  rw [List.set_append_right _ _ (by simp; omega), List.length_map, List.length_take, Nat.min_eq_left (by omega), Nat.sub_self, List.drop_eq_getElem_cons h, List.set_cons_zero, List.take_add_one, List.getElem?_eq_getElem h]
  simp only [List.map_append, List.append_assoc, Option.toList, List.map_cons, List.map_nil, List.singleton_append]
theorem ttlU_at {l : List Rec} {k : Int} {i : Nat} (h : i < l.length) (h' : 0 + i < (ttlU l k i).length) : (ttlU l k i)[0 + i] = l[i] := by
  have : (ttlU l k i)[0 + i]? = some l[i] := by
    unfold ttlU
    rw [Nat.zero_add, List.getElem?_append_right (by simp; omega)]
    simp [Nat.min_eq_left (Nat.le_of_lt h), h]
  rw [List.getElem?_eq_getElem h'] at this
  exact Option.some.inj this
theorem ttlU_step {l : List Rec} {k : Int} {i : Nat} (h : i < l.length) {h' : 0 + i < (ttlU l k i).length} : (ttlU l k (i + 1)).map recV = ((ttlU l k i).map recV).set (0 + i) (splice (recV (ttlU l k i)[0 + i]) 2 [.sc (.int .i64 k)]) := by
  rw [ttlU_at h h', ← ttlU_set h, List.map_set, Nat.zero_add]; rfl
def intV (n : Int) : List V := [.sc (.int .i64 n)]
theorem intV_free (s : Int) : (intV s).all (·.free) = true := rfl
theorem intV_sc (s : Int) : (intV s).all isScN = true := rfl
theorem intV_len (s : Int) : (intV s).length = 1 := rfl
def mkG {α : Type} (g : Int → α) (s n : Int) (k : Nat) : List α := (List.range k).map fun (i : Nat) => g (n + s * (i : Int))
section
variable {α : Type} {g : Int → α} {s n : Int}
theorem mkG_len {k : Nat} : (mkG g s n k).length = k := by simp [mkG]
theorem mkG_succ {k : Nat} : mkG g s n (k + 1) = mkG g s n k ++ [g (n + s * (k : Int))] := by simp [mkG, List.range_succ]
theorem mkG_at {l : List α} {m : Int} {i : Nat} (hl : l = mkG g s n l.length) (hlt : i < l.length) (hm : m = n + s * (i : Int)) : l[i] = g m := by
  have h2 : (mkG g s n l.length)[i]? = some (g m) := by simp [mkG, hlt, hm]
  have h3 : (mkG g s n l.length)[i]? = some l[i] := by rw [← hl]; exact List.getElem?_eq_getElem hlt
  rw [h3] at h2
  exact Option.some.inj h2
def markedG (g : Int → α) (s : Int) (l : List α) (n : Int) (i : Nat) : List α := mkG g s n i ++ l.drop i
theorem markedG_len {l : List α} {i : Nat} (h : i ≤ l.length) : (markedG g s l n i).length = l.length := by unfold markedG; simp [mkG_len]; omega
theorem markedG_zero (l : List α) : markedG g s l n 0 = l := by simp [markedG, mkG]
theorem markedG_all (l : List α) : markedG g s l n l.length = mkG g s n l.length := by simp [markedG]
theorem markedG_set {l : List α} {m : Int} {i : Nat} (h : i < l.length) (hm : m = n + s * (i : Int)) : (markedG g s l n i).set i (g m) = markedG g s l n (i + 1) := by
  unfold markedG
  rw [List.set_append_right _ _ (by rw [mkG_len]; omega), mkG_len, Nat.sub_self, List.drop_eq_getElem_cons h, List.set_cons_zero, mkG_succ, hm]
  simp
theorem markedG_step {f : α → List V} {l : List α} {m : Int} {i : Nat} (h : i < l.length) (hm : m = n + s * (i : Int)) : (markedG g s l n (i + 1)).map f = ((markedG g s l n i).map f).set (0 + i) (f (g m)) := by
  rw [← markedG_set h hm, List.map_set, Nat.zero_add]
theorem not_mem_take {l : List α} {x : α} {i : Nat} (h : i < l.length) (hn : x ∉ l.take i) (hne : l[i] ≠ x) : x ∉ l.take (i + 1) := by
  rw [List.take_add_one, List.getElem?_eq_getElem h]
  simp only [Option.toList, List.mem_append, List.mem_singleton, not_or]
  exact ⟨hn, fun e => hne e.symm⟩
def fidx [DecidableEq α] : List α → α → Nat → Int
  | [], _, _ => -1
  | y :: l, x, i => if y = x then (i : Int) else fidx l x (i + 1)
theorem fidx_cons [DecidableEq α] (y : α) (l : List α) (x : α) (i : Nat) : fidx (y :: l) x i = if y = x then (i : Int) else fidx l x (i + 1) := rfl
theorem fidx_mem [DecidableEq α] : ∀ (l : List α) (x : α) (i : Nat), 0 ≤ fidx l x i ↔ x ∈ l
  | [], x, i => by simp [fidx]
  | y :: l, x, i => by
    unfold fidx
    split
    · rename_i e; subst e; simp
    · rename_i e
      rw [fidx_mem l x (i + 1)]
      simp only [List.mem_cons]
      exact ⟨.inr, fun h => h.elim (fun q => absurd q.symm e) id⟩
end
instance (priority := high) memDec {α : Type} [DecidableEq α] (x : α) (l : List α) : Decidable (x ∈ l) := decidable_of_iff (0 ≤ fidx l x 0) (fidx_mem l x 0)
def adP (nm : ByteArray) (r : Rec) : Bool := decide (r.b = 1) && decide (r.a = nm)
def hoP (r : Rec) : Bool := decide (r.b = 2)
def col {β : Type} [DecidableEq β] (p : Rec → Bool) (f : Rec → β) (l : List Rec) : Nat → List β
  | 0 => []
  | i + 1 => match l[i]? with
    | some r => if (p r && !decide (f r ∈ col p f l i)) = true then col p f l i ++ [f r] else col p f l i
    | none => col p f l i
theorem col_succ {β : Type} [DecidableEq β] {p : Rec → Bool} {f : Rec → β} {l : List Rec} {i : Nat} (h : i < l.length) : col p f l (i + 1) = if (p l[i] && !decide (f l[i] ∈ col p f l i)) = true then col p f l i ++ [f l[i]] else col p f l i := by
  rw [col, List.getElem?_eq_getElem h]
theorem col_len {β : Type} [DecidableEq β] (p : Rec → Bool) (f : Rec → β) (l : List Rec) : ∀ i : Nat, (col p f l i).length ≤ i
  | 0 => by simp [col]
  | i + 1 => by
    have := col_len p f l i
    rw [col]
    split
    · split
      · simp; omega
      · omega
    · omega
structure Quest where
  a : ByteArray
  b : Int
  deriving DecidableEq
def questV (q : Quest) : List V := [.sc (.string q.a), .sc (.int .i64 q.b)]
theorem questV_free (r : Quest) : (questV r).all (·.free) = true := rfl
theorem questV_sc (r : Quest) : (questV r).all isScN = true := rfl
theorem questV_len (r : Quest) : (questV r).length = 2 := rfl
theorem questEq (x y : Quest) : (decide (x.a = y.a) && (decide (x.b = y.b) && true)) = decide (x = y) := by
  cases x; cases y; simp
def markQ (n : Int) : Quest := ⟨markT n, n + 1⟩
def qOf (r : Rec) : Quest := ⟨r.a, r.b⟩
def allP (_ : Rec) : Bool := true
theorem mem_take_t {α : Type} [DecidableEq α] {l : List α} {x : α} {j : Nat} (_ : j < l.length) (h : decide (x ∈ l.take j) = true) : decide (x ∈ l.take (j + 1)) = true := by
  simp only [decide_eq_true_eq] at h ⊢
  rw [List.take_add_one]; exact List.mem_append_left _ h
theorem mem_take_f {α : Type} [DecidableEq α] {l : List α} {x : α} {j : Nat} (h : j < l.length) (hb : decide (x ∈ l.take j) = false) (h' : 0 + j < l.length) : decide (x ∈ l.take (j + 1)) = decide (l[0 + j] = x) := by
  simp only [decide_eq_false_iff_not] at hb
  refine decide_eq_decide.2 ⟨fun q => ?_, fun q => ?_⟩
  · rw [List.take_add_one, List.getElem?_eq_getElem h] at q
    simp only [Option.toList, List.mem_append, List.mem_singleton] at q
    rcases q with q | q
    · exact absurd q hb
    · simp only [Nat.zero_add]; exact q.symm
  · rw [List.take_add_one, List.getElem?_eq_getElem h]
    simp only [Nat.zero_add] at q
    simp only [Option.toList, List.mem_append, List.mem_singleton]
    exact .inr q.symm
def pidx (p : Rec → Bool) : List Rec → Nat → Int
  | [], _ => -1
  | y :: l, i => if p y = true then (i : Int) else pidx p l (i + 1)
theorem pidx_cons (p : Rec → Bool) (y : Rec) (l : List Rec) (i : Nat) : pidx p (y :: l) i = if p y = true then (i : Int) else pidx p l (i + 1) := rfl
theorem pidx_any (p : Rec → Bool) : ∀ (l : List Rec) (i : Nat), decide (0 ≤ pidx p l i) = l.any p
  | [], i => by simp [pidx]
  | y :: l, i => by
    rw [pidx_cons, List.any_cons]
    cases h : p y with
    | true => simp
    | false => simp only [Bool.false_eq_true, if_false, Bool.false_or]; exact pidx_any p l (i + 1)
theorem recEq (x y : Rec) : (decide (x.a = y.a) && (decide (x.b = y.b) && (decide (x.c = y.c) && (decide (x.d = y.d) && (decide (x.e = y.e) && (decide (x.f = y.f) && true)))))) = decide (x = y) := by
  cases x; cases y; simp
def nlP (r q : Rec) : Bool := decide (setC r.c q = r) && decide (r.c ≤ q.c)
theorem szS_le {l : List Rec} (hr : ∀ r, r ∈ l → r.ok) : szS l 1048576 ≤ 1048576 := by
  unfold szS
  split
  · omega
  · exact Int.le_trans (szL_le l _ (by omega) hr) (by omega)
theorem all_false {l : List Rec} {p : Rec → Bool} {i : Nat} (h : i < l.length) (hf : p l[i] = false) : l.all p = false := by
  rw [List.all_eq_false]; exact ⟨l[i], List.getElem_mem h, by simp [hf]⟩
theorem any_take {l : List Rec} {p : Rec → Bool} {j : Nat} (h : j < l.length) : (l.take (j + 1)).any p = ((l.take j).any p || p l[j]) := by
  rw [List.take_add_one, List.getElem?_eq_getElem h, List.any_append]; simp
def sdP (x y : Rec) : Bool := decide (setC x.c y = x)
def wit (k : Int) (l q : List Rec) : Bool := !((l.map (setC k)).any fun r => !decide (r ∈ q.map (setC k)))
theorem sdP_iff {k : Int} {x y : Rec} : sdP x y = true ↔ setC k y = setC k x := by
  cases x; cases y; simp only [sdP, setC, decide_eq_true_eq, Rec.mk.injEq, true_and]
theorem wit_eq (k : Int) (l q : List Rec) : wit k l q = l.all fun r => q.any (sdP r) := by
  unfold wit
  rw [Bool.eq_iff_iff]
  simp only [Bool.not_eq_true', List.any_eq_false, List.mem_map, List.all_eq_true, List.any_eq_true]
  constructor
  · intro h r hr
    have h1 := h (setC k r) ⟨r, hr, rfl⟩
    simp at h1
    obtain ⟨y, hy, e⟩ := h1
    exact ⟨y, hy, sdP_iff.2 e⟩
  · rintro h _ ⟨r, hr, rfl⟩
    obtain ⟨y, hy, e⟩ := h r hr
    simp
    exact ⟨y, hy, sdP_iff.1 e⟩
def strV (s : ByteArray) : List V := [.sc (.string s)]
theorem strV_free (s : ByteArray) : (strV s).all (·.free) = true := rfl
theorem strV_sc (s : ByteArray) : (strV s).all isScN = true := rfl
theorem strV_len (s : ByteArray) : (strV s).length = 1 := rfl
def kt : List ByteArray := [⟨#[110, 111, 116]⟩, ⟨#[100, 111, 119, 110]⟩, ⟨#[97, 108, 105, 97, 115]⟩, ⟨#[115, 101, 116]⟩, ⟨#[110, 111, 100, 97, 116, 97]⟩, ⟨#[110, 111, 110, 97, 109, 101]⟩]
def ktext (n : Int) : ByteArray := if 0 ≤ n ∧ n ≤ 5 then (kt[n.toNat]?).getD ⟨#[]⟩ else ⟨#[]⟩
theorem ktext_at {m : Nat} (h : (m : Int) ≤ 5) (h2 : 0 + m < kt.length) : kt[0 + m] = ktext (m : Int) := by
  unfold ktext
  rw [if_pos ⟨by omega, h⟩]
  simp only [Int.toNat_natCast, Nat.zero_add]
  rw [List.getElem?_eq_getElem (by omega)]; rfl
theorem mixed : Try.prog.follows .mixedOrders = true := by kernel_rfl

theorem c17 : callable Try.prog 17 = true := by kernel_rfl
theorem c19 : callable Try.prog 19 = true := by kernel_rfl
theorem c21 : callable Try.prog 21 = true := by kernel_rfl
theorem c28 : callable Try.prog 28 = true := by kernel_rfl
theorem c30 : callable Try.prog 30 = true := by kernel_rfl
theorem c31 : callable Try.prog 31 = true := by kernel_rfl
theorem c37 : callable Try.prog 37 = true := by kernel_rfl
theorem c64 : callable Try.prog 64 = true := by kernel_rfl
theorem c65 : callable Try.prog 65 = true := by kernel_rfl
theorem c66 : callable Try.prog 66 = true := by kernel_rfl
theorem c67 : callable Try.prog 67 = true := by kernel_rfl
theorem c69 : callable Try.prog 69 = true := by kernel_rfl
theorem c70 : callable Try.prog 70 = true := by kernel_rfl
theorem c72 : callable Try.prog 72 = true := by kernel_rfl
theorem c73 : callable Try.prog 73 = true := by kernel_rfl
theorem c87 : callable Try.prog 87 = true := by kernel_rfl
theorem c88 : callable Try.prog 88 = true := by kernel_rfl
theorem c89 : callable Try.prog 89 = true := by kernel_rfl
theorem c97 : callable Try.prog 97 = true := by kernel_rfl
theorem fd36_0 : fldTy Try.prog 36 0 = some (0, 0 + 1, false) := by kernel_rfl
theorem fd36_1 : fldTy Try.prog 36 1 = some (1, 0 + 1, false) := by kernel_rfl
theorem fd36_2 : fldTy Try.prog 36 2 = some (2, 0 + 1, false) := by kernel_rfl
theorem fd36_3 : fldTy Try.prog 36 3 = some (3, 0 + 1, false) := by kernel_rfl
theorem fd36_4 : fldTy Try.prog 36 4 = some (4, 0 + 1, false) := by kernel_rfl
theorem fd36_5 : fldTy Try.prog 36 5 = some (5, 0 + 1, false) := by kernel_rfl
theorem fd84_0 : fldTy Try.prog 84 0 = some (0, 0 + 1, false) := by kernel_rfl
theorem fd84_1 : fldTy Try.prog 84 1 = some (1, 0 + 1, false) := by kernel_rfl
theorem fd84_2 : fldTy Try.prog 84 2 = some (2, 0 + 1, false) := by kernel_rfl
theorem fd84_3 : fldTy Try.prog 84 3 = some (3, 0 + 1, false) := by kernel_rfl
theorem fd84_4 : fldTy Try.prog 84 4 = some (4, 0 + 1, false) := by kernel_rfl
theorem fd84_5 : fldTy Try.prog 84 5 = some (5, 0 + 1, false) := by kernel_rfl
theorem fk36 : flatK Try.prog 36 = some [2, 1, 1, 1, 2, 2] := by kernel_rfl
theorem isb4 : isBool Try.prog 4 = true := by kernel_rfl
theorem iss9 : isStr Try.prog 9 = true := by kernel_rfl
theorem sl24 : slTy Try.prog 24 = some (84, 6, 72) := by kernel_rfl
theorem sl27 : slTy Try.prog 27 = some (36, 6, 72) := by kernel_rfl
theorem ty27 : tyK Try.prog 27 = some (false, 1) := by kernel_rfl
theorem ty3 : tyK Try.prog 3 = some (false, 1) := by kernel_rfl
theorem ty36 : tyK Try.prog 36 = some (true, 6) := by kernel_rfl
theorem ty84 : tyK Try.prog 84 = some (true, 6) := by kernel_rfl
theorem ty9 : tyK Try.prog 9 = some (false, 1) := by kernel_rfl
theorem zc27 : zeroC Try.prog 27 = some [.slice none 0 0] := by kernel_rfl
theorem zc36 : zeroC Try.prog 36 = some [.string ⟨#[]⟩, .int .i64 0, .int .i64 0, .int .i64 0, .string ⟨#[]⟩, .string ⟨#[]⟩] := by kernel_rfl

/- laws.eqRecord -/


set_option maxRecDepth 4000 in
theorem r28 (r q : Rec) : Runs Try.prog 28 [.agg (recV r), .agg (recV q)] [] (.sc (.bool (decide (r = q)))) [] := by
  refine runsT [4] Try.func28 rfl rfl rfl rfl ?_
  rw [Try.ntmps28]
  refine tri_seq ?_
  refine tri_region ?_
  refine s_box rfl rfl rfl rfl rfl rfl rfl ?_
  refine s_box rfl rfl rfl rfl rfl rfl rfl ?_
  refine s_mv (.inr rfl) (v := .sc (.bool false)) rfl rfl rfl rfl ?_
  refine rt_nil ?_
  refine tri_seq ?_
  refine tri_seq ?_
  refine tri_region ?_
  refine s_fieldAddr rfl rfl fd36_0 rfl rfl rfl rfl ?_
  refine s_load rfl rfl rfl rfl ty9 rfl (.inr rfl) (by conv => lhs; whnf) rfl rfl rfl ?_
  refine s_fieldAddr rfl rfl fd36_0 rfl rfl rfl rfl ?_
  refine s_load rfl rfl rfl rfl ty9 rfl (.inr rfl) (by conv => lhs; whnf) rfl rfl rfl ?_
  refine s_of (st_neS rfl rfl rfl) rfl rfl rfl rfl ?_
  refine rt_nil ?_
  refine tri_cond rfl (fun hc9 => ?_) (fun hc9 => ?_)
  · skip
    refine tri_seq ?_
    refine tri_region ?_
    refine s_mv (.inr rfl) (v := .sc (.bool false)) rfl rfl rfl rfl ?_
    refine rt_nil ?_
    refine tri_ret ?_
    exact endBool rfl (by symm; simp only [decide_eq_false_iff_not]; intro e; subst e; simp at hc9) rfl
  · skip
    refine tri_skip ?_
    refine tri_seq ?_
    refine tri_seq ?_
    refine tri_region ?_
    refine s_fieldAddr rfl rfl fd36_1 rfl rfl rfl rfl ?_
    refine s_load rfl rfl rfl rfl ty3 rfl (.inr rfl) (by conv => lhs; whnf) rfl rfl rfl ?_
    refine s_fieldAddr rfl rfl fd36_1 rfl rfl rfl rfl ?_
    refine s_load rfl rfl rfl rfl ty3 rfl (.inr rfl) (by conv => lhs; whnf) rfl rfl rfl ?_
    refine s_of (st_neI rfl rfl rfl) rfl rfl rfl rfl ?_
    refine rt_nil ?_
    refine tri_cond rfl (fun hc14 => ?_) (fun hc14 => ?_)
    · skip
      refine tri_seq ?_
      refine tri_region ?_
      refine s_mv (.inr rfl) (v := .sc (.bool false)) rfl rfl rfl rfl ?_
      refine rt_nil ?_
      refine tri_ret ?_
      exact endBool rfl (by symm; simp only [decide_eq_false_iff_not]; intro e; subst e; simp at hc14) rfl
    · skip
      refine tri_skip ?_
      refine tri_seq ?_
      refine tri_seq ?_
      refine tri_region ?_
      refine s_fieldAddr rfl rfl fd36_2 rfl rfl rfl rfl ?_
      refine s_load rfl rfl rfl rfl ty3 rfl (.inr rfl) (by conv => lhs; whnf) rfl rfl rfl ?_
      refine s_fieldAddr rfl rfl fd36_2 rfl rfl rfl rfl ?_
      refine s_load rfl rfl rfl rfl ty3 rfl (.inr rfl) (by conv => lhs; whnf) rfl rfl rfl ?_
      refine s_of (st_neI rfl rfl rfl) rfl rfl rfl rfl ?_
      refine rt_nil ?_
      refine tri_cond rfl (fun hc19 => ?_) (fun hc19 => ?_)
      · skip
        refine tri_seq ?_
        refine tri_region ?_
        refine s_mv (.inr rfl) (v := .sc (.bool false)) rfl rfl rfl rfl ?_
        refine rt_nil ?_
        refine tri_ret ?_
        exact endBool rfl (by symm; simp only [decide_eq_false_iff_not]; intro e; subst e; simp at hc19) rfl
      · skip
        refine tri_skip ?_
        refine tri_seq ?_
        refine tri_seq ?_
        refine tri_region ?_
        refine s_fieldAddr rfl rfl fd36_3 rfl rfl rfl rfl ?_
        refine s_load rfl rfl rfl rfl ty3 rfl (.inr rfl) (by conv => lhs; whnf) rfl rfl rfl ?_
        refine s_fieldAddr rfl rfl fd36_3 rfl rfl rfl rfl ?_
        refine s_load rfl rfl rfl rfl ty3 rfl (.inr rfl) (by conv => lhs; whnf) rfl rfl rfl ?_
        refine s_of (st_neI rfl rfl rfl) rfl rfl rfl rfl ?_
        refine rt_nil ?_
        refine tri_cond rfl (fun hc24 => ?_) (fun hc24 => ?_)
        · skip
          refine tri_seq ?_
          refine tri_region ?_
          refine s_mv (.inr rfl) (v := .sc (.bool false)) rfl rfl rfl rfl ?_
          refine rt_nil ?_
          refine tri_ret ?_
          exact endBool rfl (by symm; simp only [decide_eq_false_iff_not]; intro e; subst e; simp at hc24) rfl
        · skip
          refine tri_skip ?_
          refine tri_seq ?_
          refine tri_seq ?_
          refine tri_region ?_
          refine s_fieldAddr rfl rfl fd36_4 rfl rfl rfl rfl ?_
          refine s_load rfl rfl rfl rfl ty9 rfl (.inr rfl) (by conv => lhs; whnf) rfl rfl rfl ?_
          refine s_fieldAddr rfl rfl fd36_4 rfl rfl rfl rfl ?_
          refine s_load rfl rfl rfl rfl ty9 rfl (.inr rfl) (by conv => lhs; whnf) rfl rfl rfl ?_
          refine s_of (st_neS rfl rfl rfl) rfl rfl rfl rfl ?_
          refine rt_nil ?_
          refine tri_cond rfl (fun hc29 => ?_) (fun hc29 => ?_)
          · skip
            refine tri_seq ?_
            refine tri_region ?_
            refine s_mv (.inr rfl) (v := .sc (.bool false)) rfl rfl rfl rfl ?_
            refine rt_nil ?_
            refine tri_ret ?_
            exact endBool rfl (by symm; simp only [decide_eq_false_iff_not]; intro e; subst e; simp at hc29) rfl
          · skip
            refine tri_skip ?_
            refine tri_seq ?_
            refine tri_seq ?_
            refine tri_region ?_
            refine s_fieldAddr rfl rfl fd36_5 rfl rfl rfl rfl ?_
            refine s_load rfl rfl rfl rfl ty9 rfl (.inr rfl) (by conv => lhs; whnf) rfl rfl rfl ?_
            refine s_fieldAddr rfl rfl fd36_5 rfl rfl rfl rfl ?_
            refine s_load rfl rfl rfl rfl ty9 rfl (.inr rfl) (by conv => lhs; whnf) rfl rfl rfl ?_
            refine s_of (st_neS rfl rfl rfl) rfl rfl rfl rfl ?_
            refine rt_nil ?_
            refine tri_cond rfl (fun hc34 => ?_) (fun hc34 => ?_)
            · skip
              refine tri_seq ?_
              refine tri_region ?_
              refine s_mv (.inr rfl) (v := .sc (.bool false)) rfl rfl rfl rfl ?_
              refine rt_nil ?_
              refine tri_ret ?_
              exact endBool rfl (by symm; simp only [decide_eq_false_iff_not]; intro e; subst e; simp at hc34) rfl
            · skip
              refine tri_skip ?_
              refine tri_seq ?_
              refine tri_region ?_
              refine s_mv (.inr rfl) (v := .sc (.bool true)) rfl rfl rfl rfl ?_
              refine rt_nil ?_
              refine tri_ret ?_
              exact endBool rfl (by symm; simp only [decide_eq_true_eq]; cases r; cases q; simp_all) rfl

/- laws.eqRecordS -/
def inv21 (l q : List Rec) (i : Nat) : St :=
  mkT 27 [(0, .lst 6 (l.map recV)), (1, .lst 6 (q.map recV)), (5, .sc (.int .i64 ((i : Nat) : Int)))]
    []

set_option maxRecDepth 4000 in
theorem r21 (l q : List Rec) (hl : l.length ≤ 9223372036854775807) : Runs Try.prog 21 [.lst 6 (l.map recV), .lst 6 (q.map recV)] [] (.sc (.bool (decide (l = q)))) [] := by
  refine runsT [4] Try.func21 rfl rfl rfl rfl ?_
  rw [Try.ntmps21]
  refine tri_seq ?_
  refine tri_region ?_
  refine s_mv (.inr rfl) (v := .sc (.bool false)) rfl rfl rfl rfl ?_
  refine rt_nil ?_
  refine tri_seq ?_
  refine tri_seq ?_
  refine tri_region ?_
  refine s_mv (.inl rfl) (by conv => lhs; whnf) rfl rfl rfl ?_
  refine s_len rfl sl27 (by first | exact congrArg some (List.length_map ..) | rfl) rfl rfl rfl ?_
  refine s_mv (.inl rfl) (by conv => lhs; whnf) rfl rfl rfl ?_
  refine s_len rfl sl27 (by first | exact congrArg some (List.length_map ..) | rfl) rfl rfl rfl ?_
  refine s_of (st_neI rfl rfl rfl) rfl rfl rfl rfl ?_
  refine rt_nil ?_
  refine tri_cond rfl (fun hc10 => ?_) (fun hc10 => ?_)
  · skip
    refine tri_seq ?_
    refine tri_region ?_
    refine s_mv (.inr rfl) (v := .sc (.bool false)) rfl rfl rfl rfl ?_
    refine rt_nil ?_
    refine tri_ret ?_
    exact endBool rfl (by symm; simp only [decide_eq_false_iff_not]; intro e; subst e; simp at hc10) rfl
  · skip
    have hlq : l.length = q.length := by simp at hc10; omega
    refine tri_skip ?_
    refine tri_seq ?_
    refine tri_seq ?_
    refine tri_region ?_
    refine s_mv (.inr rfl) (v := .sc (.int .i64 0)) rfl rfl rfl rfl ?_
    refine rt_nil ?_
    refine tri_block ?_
    refine tri_loop (ι := {i : Nat // i ≤ l.length ∧ l.take i = q.take i}) (fun p => inv21 l q p.1) (fun p => l.length - p.1) ⟨0, Nat.zero_le _, rfl⟩ ?_ ?_
    · skip
      refine entT [] [] trivial trivial rfl rfl ?_
      exact ⟨.free rfl, .free rfl, .free rfl, trivial⟩
    · intro p
      obtain ⟨i, hi, ht⟩ := p
      simp only
      refine tri_seq ?_
      refine tri_seq ?_
      refine tri_region ?_
      refine s_mv (.inl rfl) (by conv => lhs; whnf) rfl rfl rfl ?_
      refine s_mv (.inl rfl) (by conv => lhs; whnf) rfl rfl rfl ?_
      refine s_len rfl sl27 (by first | exact congrArg some (List.length_map ..) | rfl) rfl rfl rfl ?_
      refine s_of (st_lss rfl rfl rfl) rfl rfl rfl rfl ?_
      refine rt_nil ?_
      refine tri_cond rfl (fun hc14 => ?_) (fun hc14 => ?_)
      · skip
        have hlt : i < l.length := by simpa using hc14
        refine tri_skip ?_
        refine tri_seq ?_
        refine tri_block ?_
        refine tri_seq ?_
        refine tri_draw mixed ?_
        refine s_mv (.inl rfl) (by conv => lhs; whnf) rfl rfl rfl ?_
        refine s_mv (.inl rfl) (by conv => lhs; whnf) rfl rfl rfl ?_
        refine s_indexF rfl rfl rfl sl27 (by first | omega | (simp only [List.length_map]; omega)) rfl rfl rfl ?_
        refine s_loadFR rfl rfl (rowAt (by omega)) ty36 rfl rfl rfl ?_
        refine s_mv (.inl rfl) (by conv => lhs; whnf) rfl rfl rfl ?_
        refine s_mv (.inl rfl) (by conv => lhs; whnf) rfl rfl rfl ?_
        refine s_indexF rfl rfl rfl sl27 (by first | omega | (simp only [List.length_map]; omega)) rfl rfl rfl ?_
        refine s_loadFR rfl rfl (rowAt (by omega)) ty36 rfl rfl rfl ?_
        refine s_callV (kb := []) rfl rfl c28 (r28 _ _) rfl (.cons (relAgg rfl) (.cons (relAgg rfl) .nil)) rfl rfl rfl rfl ?_
        refine s_of (st_not rfl rfl) rfl rfl rfl rfl ?_
        refine rt_nil ⟨by kernel_rfl, ?_⟩
        refine tri_cond rfl (fun hc26 => ?_) (fun hc26 => ?_)
        · skip
          have hne : l[i] ≠ q[i] := by simpa using hc26
          refine tri_seq ?_
          refine tri_region ?_
          refine s_mv (.inr rfl) (v := .sc (.bool false)) rfl rfl rfl rfl ?_
          refine rt_nil ?_
          refine tri_ret ?_
          exact endBool rfl (by symm; simp only [decide_eq_false_iff_not]; intro e; subst e; exact hne rfl) rfl
        · skip
          have heq : l[i] = q[i] := by simpa using hc26
          have hnx : l.take (i + 1) = q.take (i + 1) := by rw [List.take_add_one, List.take_add_one, ht, List.getElem?_eq_getElem hlt, List.getElem?_eq_getElem (hlq ▸ hlt), heq]
          refine tri_skip ?_
          refine tri_region ?_
          refine s_mv (.inl rfl) (by conv => lhs; whnf) rfl rfl rfl ?_
          refine s_inc (b := 1) rfl rfl rfl rfl (by omega) rfl rfl rfl ?_
          refine s_mv (.inr rfl) (by conv => lhs; whnf) rfl rfl rfl ?_
          refine rt_nil ?_
          refine Exists.intro ⟨i + 1, hlt, hnx⟩ (And.intro (by simp only; omega) ?_)
          refine entT [] [] trivial trivial rfl rfl ?_
          exact ⟨.free rfl, .free rfl, .free rfl, trivial⟩
      · skip
        have hge : i = l.length := by simp at hc14; omega
        refine tri_exit ?_
        refine tri_seq ?_
        refine tri_region ?_
        refine s_mv (.inr rfl) (v := .sc (.bool true)) rfl rfl rfl rfl ?_
        refine rt_nil ?_
        refine tri_ret ?_
        exact endBool rfl (by symm; simp only [decide_eq_true_eq]; rw [hge, List.take_length, hlq, List.take_length] at ht; exact ht) rfl

/- laws.szRecord -/


set_option maxRecDepth 4000 in
theorem r64 (r : Rec) (n : Int) (hn : 0 ≤ n ∧ n ≤ 1048576) (hr : r.ok) : Runs Try.prog 64 [.agg (recV r), .sc (.int .i64 n)] [] (.sc (.int .i64 (szRec r n))) [] := by
  unfold Rec.ok at hr
  refine runsT [4] Try.func64 rfl rfl rfl rfl ?_
  rw [Try.ntmps64]
  refine tri_seq ?_
  refine tri_region ?_
  refine s_box rfl rfl rfl rfl rfl rfl rfl ?_
  refine s_mv (.inr rfl) (v := .sc (.int .i64 0)) rfl rfl rfl rfl ?_
  refine rt_nil ?_
  refine tri_seq ?_
  refine tri_region ?_
  refine s_mv (.inl rfl) (by conv => lhs; whnf) rfl rfl rfl ?_
  refine s_fieldAddr rfl rfl fd84_0 rfl rfl rfl rfl ?_
  refine s_load rfl rfl rfl rfl ty9 rfl (.inr rfl) (by conv => lhs; whnf) rfl rfl rfl ?_
  refine s_of (st_lenS rfl rfl iss9) rfl rfl rfl rfl ?_
  refine s_subI rfl rfl rfl rfl (by omega) rfl rfl rfl ?_
  refine s_mv (.inr rfl) (by conv => lhs; whnf) rfl rfl rfl ?_
  refine rt_nil ?_
  refine tri_seq ?_
  refine tri_seq ?_
  refine tri_region ?_
  refine s_mv (.inl rfl) (by conv => lhs; whnf) rfl rfl rfl ?_
  refine s_of (st_lss rfl rfl rfl) rfl rfl rfl rfl ?_
  refine rt_nil ?_
  refine tri_cond rfl (fun hc11 => ?_) (fun hc11 => ?_)
  · skip
    simp at hc11
    refine tri_seq ?_
    refine tri_region ?_
    refine s_mv (.inr rfl) (v := .sc (.int .i64 (-1))) rfl rfl rfl rfl ?_
    refine rt_nil ?_
    refine tri_ret ?_
    exact endInt rfl (by unfold szRec; first | (split <;> omega) | (split <;> first | omega | (split <;> first | omega | (split <;> omega)))) rfl
  · skip
    simp at hc11
    refine tri_skip ?_
    refine tri_seq ?_
    refine tri_region ?_
    refine s_mv (.inl rfl) (by conv => lhs; whnf) rfl rfl rfl ?_
    refine s_fieldAddr rfl rfl fd84_4 rfl rfl rfl rfl ?_
    refine s_load rfl rfl rfl rfl ty9 rfl (.inr rfl) (by conv => lhs; whnf) rfl rfl rfl ?_
    refine s_of (st_lenS rfl rfl iss9) rfl rfl rfl rfl ?_
    refine s_subI rfl rfl rfl rfl (by omega) rfl rfl rfl ?_
    refine s_mv (.inr rfl) (by conv => lhs; whnf) rfl rfl rfl ?_
    refine rt_nil ?_
    refine tri_seq ?_
    refine tri_seq ?_
    refine tri_region ?_
    refine s_mv (.inl rfl) (by conv => lhs; whnf) rfl rfl rfl ?_
    refine s_of (st_lss rfl rfl rfl) rfl rfl rfl rfl ?_
    refine rt_nil ?_
    refine tri_cond rfl (fun hc18 => ?_) (fun hc18 => ?_)
    · skip
      simp at hc18
      refine tri_seq ?_
      refine tri_region ?_
      refine s_mv (.inr rfl) (v := .sc (.int .i64 (-1))) rfl rfl rfl rfl ?_
      refine rt_nil ?_
      refine tri_ret ?_
      exact endInt rfl (by unfold szRec; first | (split <;> omega) | (split <;> first | omega | (split <;> first | omega | (split <;> omega)))) rfl
    · skip
      simp at hc18
      refine tri_skip ?_
      refine tri_seq ?_
      refine tri_region ?_
      refine s_mv (.inl rfl) (by conv => lhs; whnf) rfl rfl rfl ?_
      refine s_fieldAddr rfl rfl fd84_5 rfl rfl rfl rfl ?_
      refine s_load rfl rfl rfl rfl ty9 rfl (.inr rfl) (by conv => lhs; whnf) rfl rfl rfl ?_
      refine s_of (st_lenS rfl rfl iss9) rfl rfl rfl rfl ?_
      refine s_subI rfl rfl rfl rfl (by omega) rfl rfl rfl ?_
      refine s_mv (.inr rfl) (by conv => lhs; whnf) rfl rfl rfl ?_
      refine rt_nil ?_
      refine tri_seq ?_
      refine tri_seq ?_
      refine tri_region ?_
      refine s_mv (.inl rfl) (by conv => lhs; whnf) rfl rfl rfl ?_
      refine s_of (st_lss rfl rfl rfl) rfl rfl rfl rfl ?_
      refine rt_nil ?_
      refine tri_cond rfl (fun hc25 => ?_) (fun hc25 => ?_)
      · skip
        simp at hc25
        refine tri_seq ?_
        refine tri_region ?_
        refine s_mv (.inr rfl) (v := .sc (.int .i64 (-1))) rfl rfl rfl rfl ?_
        refine rt_nil ?_
        refine tri_ret ?_
        exact endInt rfl (by unfold szRec; first | (split <;> omega) | (split <;> first | omega | (split <;> first | omega | (split <;> omega)))) rfl
      · skip
        simp at hc25
        refine tri_skip ?_
        refine tri_seq ?_
        refine tri_region ?_
        refine s_mv (.inl rfl) (by conv => lhs; whnf) rfl rfl rfl ?_
        refine s_mv (.inr rfl) (by conv => lhs; whnf) rfl rfl rfl ?_
        refine rt_nil ?_
        refine tri_ret ?_
        exact endInt rfl (by unfold szRec; first | (split <;> omega) | (split <;> first | omega | (split <;> first | omega | (split <;> omega)))) rfl

/- laws.szRecordS -/
def inv17 (l : List Rec) (i : Nat) (m : Int) : St :=
  mkT 27 [(0, .lst 6 (l.map recV)), (1, .sc (.int .i64 m)), (5, .sc (.int .i64 ((i : Nat) : Int)))]
    []

set_option maxRecDepth 4000 in
theorem r17 (l : List Rec) (n : Int) (hn : 0 ≤ n ∧ n ≤ 1048576) (hl : l.length ≤ 9223372036854775807) (hr : ∀ r, r ∈ l → r.ok) : Runs Try.prog 17 [.lst 6 (l.map recV), .sc (.int .i64 n)] [] (.sc (.int .i64 (szS l n))) [] := by
  refine runsT [4] Try.func17 rfl rfl rfl rfl ?_
  rw [Try.ntmps17]
  refine tri_seq ?_
  refine tri_region ?_
  refine s_mv (.inr rfl) (v := .sc (.int .i64 0)) rfl rfl rfl rfl ?_
  refine rt_nil ?_
  refine tri_seq ?_
  refine tri_region ?_
  refine s_mv (.inl rfl) (by conv => lhs; whnf) rfl rfl rfl ?_
  refine s_mv (.inl rfl) (by conv => lhs; whnf) rfl rfl rfl ?_
  refine s_len rfl sl24 (by first | exact congrArg some (List.length_map ..) | rfl) rfl rfl rfl ?_
  refine s_subI rfl rfl rfl rfl (by omega) rfl rfl rfl ?_
  refine s_mv (.inr rfl) (by conv => lhs; whnf) rfl rfl rfl ?_
  refine rt_nil ?_
  refine tri_seq ?_
  refine tri_seq ?_
  refine tri_region ?_
  refine s_mv (.inl rfl) (by conv => lhs; whnf) rfl rfl rfl ?_
  refine s_of (st_lss rfl rfl rfl) rfl rfl rfl rfl ?_
  refine rt_nil ?_
  refine tri_cond rfl (fun hc11 => ?_) (fun hc11 => ?_)
  · skip
    refine tri_seq ?_
    refine tri_region ?_
    refine s_mv (.inr rfl) (v := .sc (.int .i64 (-1))) rfl rfl rfl rfl ?_
    refine rt_nil ?_
    refine tri_ret ?_
    exact endInt rfl (by unfold szS; rw [if_pos (by simpa using hc11)]) rfl
  · skip
    refine tri_skip ?_
    refine tri_seq ?_
    refine tri_seq ?_
    refine tri_region ?_
    refine s_mv (.inr rfl) (v := .sc (.int .i64 0)) rfl rfl rfl rfl ?_
    refine rt_nil ?_
    refine tri_block ?_
    refine tri_loop (ι := {p : Nat × Int // p.1 ≤ l.length ∧ 0 ≤ p.2 ∧ p.2 ≤ 1048576 ∧ szL (l.drop p.1) p.2 = szS l n}) (fun p => inv17 l p.1.1 p.1.2) (fun p => l.length - p.1.1) ⟨(0, n - l.length), Nat.zero_le _, by simp at hc11 ⊢; omega, by simp at hc11 ⊢; omega, by simp only [List.drop_zero]; unfold szS; rw [if_neg (by simp at hc11 ⊢; omega)]⟩ ?_ ?_
    · skip
      refine entT [] [] trivial trivial rfl rfl ?_
      exact ⟨.free rfl, .free rfl, .free rfl, trivial⟩
    · intro p
      obtain ⟨⟨i, m⟩, hi, hm0, hm1, hs⟩ := p
      simp only at hi hm0 hm1 hs ⊢
      refine tri_seq ?_
      refine tri_seq ?_
      refine tri_region ?_
      refine s_mv (.inl rfl) (by conv => lhs; whnf) rfl rfl rfl ?_
      refine s_mv (.inl rfl) (by conv => lhs; whnf) rfl rfl rfl ?_
      refine s_len rfl sl24 (by first | exact congrArg some (List.length_map ..) | rfl) rfl rfl rfl ?_
      refine s_of (st_lss rfl rfl rfl) rfl rfl rfl rfl ?_
      refine rt_nil ?_
      refine tri_cond rfl (fun hc15 => ?_) (fun hc15 => ?_)
      · skip
        have hlt : i < l.length := by simpa using hc15
        have hri : (l[i]).ok := hr _ (List.getElem_mem hlt)
        have hdr : l.drop i = l[i] :: l.drop (i + 1) := List.drop_eq_getElem_cons hlt
        refine tri_skip ?_
        refine tri_seq ?_
        refine tri_block ?_
        refine tri_seq ?_
        refine tri_region ?_
        refine s_mv (.inl rfl) (by conv => lhs; whnf) rfl rfl rfl ?_
        refine s_mv (.inl rfl) (by conv => lhs; whnf) rfl rfl rfl ?_
        refine s_indexF rfl rfl rfl sl24 (by first | omega | (simp only [List.length_map]; omega)) rfl rfl rfl ?_
        refine s_loadFR rfl rfl (rowAt (by omega)) ty84 rfl rfl rfl ?_
        refine s_mv (.inl rfl) (by conv => lhs; whnf) rfl rfl rfl ?_
        refine s_callV (kb := []) rfl rfl c64 (r64 _ _ ⟨by omega, by omega⟩ (by assumption)) rfl (.cons (relAgg rfl) (.cons (.free rfl) .nil)) rfl rfl rfl rfl ?_
        refine s_mv (.inr rfl) (by conv => lhs; whnf) rfl rfl rfl ?_
        refine rt_nil ?_
        refine tri_seq ?_
        refine tri_region ?_
        refine s_mv (.inl rfl) (by conv => lhs; whnf) rfl rfl rfl ?_
        refine s_of (st_lss rfl rfl rfl) rfl rfl rfl rfl ?_
        refine rt_nil ?_
        refine tri_cond rfl (fun hc25 => ?_) (fun hc25 => ?_)
        · skip
          have hz : szRec l[i] m < 0 := by simpa using hc25
          refine tri_seq ?_
          refine tri_region ?_
          refine s_mv (.inr rfl) (v := .sc (.int .i64 (-1))) rfl rfl rfl rfl ?_
          refine rt_nil ?_
          refine tri_ret ?_
          exact endInt rfl (by rw [← hs, hdr]; unfold szL; rw [if_pos hz]) rfl
        · skip
          have hz : 0 ≤ szRec l[i] m := by simpa using hc25
          have hnx : szL (l.drop (i + 1)) (szRec l[i] m) = szS l n := by rw [← hs, hdr]; unfold szL; rw [if_neg (by omega)]; cases l.drop (i + 1) <;> rfl
          refine tri_skip ?_
          refine tri_region ?_
          refine s_mv (.inl rfl) (by conv => lhs; whnf) rfl rfl rfl ?_
          refine s_inc (b := 1) rfl rfl rfl rfl (by omega) rfl rfl rfl ?_
          refine s_mv (.inr rfl) (by conv => lhs; whnf) rfl rfl rfl ?_
          refine rt_nil ?_
          refine Exists.intro ⟨(i + 1, szRec l[i] m), hlt, hz, by have := szRec_le hm0 hri; simp only; omega, hnx⟩ (And.intro (by simp only; omega) ?_)
          refine entT [] [] trivial trivial rfl rfl ?_
          exact ⟨.free rfl, .free rfl, .free rfl, trivial⟩
      · skip
        have hge : i = l.length := by simp at hc15; omega
        refine tri_exit ?_
        refine tri_seq ?_
        refine tri_region ?_
        refine s_mv (.inl rfl) (by conv => lhs; whnf) rfl rfl rfl ?_
        refine s_mv (.inr rfl) (by conv => lhs; whnf) rfl rfl rfl ?_
        refine rt_nil ?_
        refine tri_ret ?_
        exact endInt rfl (by rw [← hs, hge, List.drop_length]; rfl) rfl

/- laws.toRecord -/


set_option maxRecDepth 4000 in
theorem r65 (r : Rec) : Runs Try.prog 65 [.agg (recV r)] [] (.agg (recV r)) [] := by
  refine runsR [.cell 2 36] Try.func65 rfl rfl rfl rfl ?_
  rw [Try.ntmps65]
  refine tri_seq ?_
  refine tri_region ?_
  refine s_box rfl rfl rfl rfl rfl rfl rfl ?_
  refine s_alloc rfl rfl rfl zc36 rfl rfl rfl rfl rfl ?_
  refine rt_nil ?_
  refine tri_seq ?_
  refine tri_region ?_
  refine s_alloc rfl rfl rfl zc36 rfl rfl rfl rfl rfl ?_
  refine rt_nil ?_
  refine tri_seq ?_
  refine tri_region ?_
  refine s_fieldAddr rfl rfl fd84_0 rfl rfl rfl rfl ?_
  refine s_load rfl rfl rfl rfl ty9 rfl (.inr rfl) (by conv => lhs; whnf) rfl rfl rfl ?_
  refine s_fieldAddr rfl rfl fd36_0 rfl rfl rfl rfl ?_
  refine s_store rfl rfl rfl rfl ty9 rfl rfl rfl rfl rfl rfl ?_
  refine rt_nil ?_
  refine tri_seq ?_
  refine tri_region ?_
  refine s_fieldAddr rfl rfl fd84_1 rfl rfl rfl rfl ?_
  refine s_load rfl rfl rfl rfl ty3 rfl (.inr rfl) (by conv => lhs; whnf) rfl rfl rfl ?_
  refine s_fieldAddr rfl rfl fd36_1 rfl rfl rfl rfl ?_
  refine s_store rfl rfl rfl rfl ty3 rfl rfl rfl rfl rfl rfl ?_
  refine rt_nil ?_
  refine tri_seq ?_
  refine tri_region ?_
  refine s_fieldAddr rfl rfl fd84_2 rfl rfl rfl rfl ?_
  refine s_load rfl rfl rfl rfl ty3 rfl (.inr rfl) (by conv => lhs; whnf) rfl rfl rfl ?_
  refine s_fieldAddr rfl rfl fd36_2 rfl rfl rfl rfl ?_
  refine s_store rfl rfl rfl rfl ty3 rfl rfl rfl rfl rfl rfl ?_
  refine rt_nil ?_
  refine tri_seq ?_
  refine tri_region ?_
  refine s_fieldAddr rfl rfl fd84_3 rfl rfl rfl rfl ?_
  refine s_load rfl rfl rfl rfl ty3 rfl (.inr rfl) (by conv => lhs; whnf) rfl rfl rfl ?_
  refine s_fieldAddr rfl rfl fd36_3 rfl rfl rfl rfl ?_
  refine s_store rfl rfl rfl rfl ty3 rfl rfl rfl rfl rfl rfl ?_
  refine rt_nil ?_
  refine tri_seq ?_
  refine tri_region ?_
  refine s_fieldAddr rfl rfl fd84_4 rfl rfl rfl rfl ?_
  refine s_load rfl rfl rfl rfl ty9 rfl (.inr rfl) (by conv => lhs; whnf) rfl rfl rfl ?_
  refine s_fieldAddr rfl rfl fd36_4 rfl rfl rfl rfl ?_
  refine s_store rfl rfl rfl rfl ty9 rfl rfl rfl rfl rfl rfl ?_
  refine rt_nil ?_
  refine tri_seq ?_
  refine tri_region ?_
  refine s_fieldAddr rfl rfl fd84_5 rfl rfl rfl rfl ?_
  refine s_load rfl rfl rfl rfl ty9 rfl (.inr rfl) (by conv => lhs; whnf) rfl rfl rfl ?_
  refine s_fieldAddr rfl rfl fd36_5 rfl rfl rfl rfl ?_
  refine s_store rfl rfl rfl rfl ty9 rfl rfl rfl rfl rfl rfl ?_
  refine rt_nil ?_
  refine tri_seq ?_
  refine tri_region ?_
  refine s_loadR rfl rfl rfl rfl ty36 rfl rfl rfl ?_
  refine s_storeB rfl rfl rfl ty36 rfl rfl rfl rfl rfl ?_
  refine rt_nil ?_
  refine tri_ret ?_
  exact endAgg rfl rfl ty36 rfl rfl rfl

/- laws.toRecordS -/
def inv19 (l : List Rec) (i : Nat) : St :=
  mkT 23 [(0, .lst 6 (l.map recV)), (3, .ref (2003, 0) 0 l.length), (4, .sc (.int .i64 ((i : Nat) : Int)))]
    [((2003, 0), some ⟨36, 6, (copied l i).map recV, false, true⟩)]

set_option maxRecDepth 4000 in
theorem r19 (l : List Rec) (hl : l.length ≤ 1099511627776) : Runs Try.prog 19 [.lst 6 (l.map recV)] [] (.own 36 6 (l.map recV)) [] := by
  refine runsT [2] Try.func19 rfl rfl rfl rfl ?_
  rw [Try.ntmps19]
  refine tri_seq ?_
  refine tri_region ?_
  refine s_mv (.inr rfl) (v := .nils) rfl rfl rfl rfl ?_
  refine rt_nil ?_
  refine tri_seq ?_
  refine tri_region ?_
  refine s_mv (.inl rfl) (by conv => lhs; whnf) rfl rfl rfl ?_
  refine s_len rfl sl24 (by first | exact congrArg some (List.length_map ..) | rfl) rfl rfl rfl ?_
  refine s_makeSlice rfl rfl rfl rfl rfl sl27 zc36 rfl rfl rfl rfl (by omega) rfl rfl rfl rfl ?_
  refine s_mv (.inr rfl) (by conv => lhs; whnf) rfl rfl rfl ?_
  refine rt_nil ?_
  refine tri_seq ?_
  refine tri_seq ?_
  refine tri_region ?_
  refine s_mv (.inr rfl) (v := .sc (.int .i64 0)) rfl rfl rfl rfl ?_
  refine rt_nil ?_
  refine tri_block ?_
  refine tri_loop (ι := {i : Nat // i ≤ l.length}) (fun p => inv19 l p.1) (fun p => l.length - p.1) ⟨0, Nat.zero_le _⟩ ?_ ?_
  · skip
    refine entT [((2003, 0), ⟨36, 6, (copied l 0).map recV, false, true⟩, some (7, 0))] [] ⟨⟨rfl, _, rfl, rfl, rfl, rfl, id, (copied_zero l), allFree_map recV_free, rowsZ_map recV_len⟩, trivial⟩ trivial rfl rfl ?_
    exact ⟨.free rfl, .ref rfl, .free rfl, trivial⟩
  · intro p
    obtain ⟨i, hi⟩ := p
    simp only
    refine tri_seq ?_
    refine tri_seq ?_
    refine tri_region ?_
    refine s_mv (.inl rfl) (by conv => lhs; whnf) rfl rfl rfl ?_
    refine s_mv (.inl rfl) (by conv => lhs; whnf) rfl rfl rfl ?_
    refine s_len rfl sl24 (by first | exact congrArg some (List.length_map ..) | rfl) rfl rfl rfl ?_
    refine s_of (st_lss rfl rfl rfl) rfl rfl rfl rfl ?_
    refine rt_nil ?_
    refine tri_cond rfl (fun hc11 => ?_) (fun hc11 => ?_)
    · skip
      have hlt : i < l.length := by simpa using hc11
      refine tri_skip ?_
      refine tri_seq ?_
      refine tri_block ?_
      refine tri_region ?_
      refine s_mv (.inl rfl) (by conv => lhs; whnf) rfl rfl rfl ?_
      refine s_mv (.inl rfl) (by conv => lhs; whnf) rfl rfl rfl ?_
      refine s_mv (.inl rfl) (by conv => lhs; whnf) rfl rfl rfl ?_
      refine s_mv (.inl rfl) (by conv => lhs; whnf) rfl rfl rfl ?_
      refine s_indexF rfl rfl rfl sl24 (by first | omega | (simp only [List.length_map]; omega)) rfl rfl rfl ?_
      refine s_loadFR rfl rfl (rowAt (by omega)) ty84 rfl rfl rfl ?_
      refine s_callA (kb := []) rfl rfl c65 (r65 _) rfl (.cons (relAgg rfl) .nil) rfl rfl rfl rfl ?_
      refine s_index rfl rfl rfl rfl sl27 rfl (by first | omega | (simp only [List.length_map]; omega)) rfl rfl rfl ?_
      refine s_store rfl rfl rfl (rowAt (by simp only [copied_len hi]; omega)) ty36 rfl rfl rfl rfl rfl rfl ?_
      refine rt_nil ?_
      refine tri_region ?_
      refine s_mv (.inl rfl) (by conv => lhs; whnf) rfl rfl rfl ?_
      refine s_inc (b := 1) rfl rfl rfl rfl (by omega) rfl rfl rfl ?_
      refine s_mv (.inr rfl) (by conv => lhs; whnf) rfl rfl rfl ?_
      refine rt_nil ?_
      refine Exists.intro ⟨i + 1, hlt⟩ (And.intro (by simp only; omega) ?_)
      refine entT [((2003, 0), ⟨36, 6, (copied l (i + 1)).map recV, false, true⟩, some (2003, 0))] [] ⟨⟨rfl, _, rfl, rfl, rfl, rfl, id, (copied_step hlt), allFree_map recV_free, rowsZ_map recV_len⟩, trivial⟩ trivial rfl rfl ?_
      exact ⟨.free rfl, .ref rfl, .free rfl, trivial⟩
    · skip
      have hge : i = l.length := by simp at hc11; omega
      subst hge
      refine tri_exit ?_
      refine tri_seq ?_
      refine tri_region ?_
      refine s_mv (.inl rfl) (by conv => lhs; whnf) rfl rfl rfl ?_
      refine s_mv (.inr rfl) (by conv => lhs; whnf) rfl rfl rfl ?_
      refine rt_nil ?_
      refine tri_ret ?_
      exact endT [((2000, 0), ⟨36, 6, l.map recV, false, true⟩, some (2003, 0))] [] ⟨⟨rfl, _, rfl, rfl, rfl, rfl, id, (by rw [copied_all]), allFree_map recV_free, rowsZ_map recV_len⟩, trivial⟩ trivial rfl rfl rfl (by show Cv _ _ _ _ _ (.ref (2000, 0) 0 (l.map recV).length); rw [List.length_map]; exact .ref rfl)

/- spec.l7Copy -/


set_option maxRecDepth 4000 in
theorem r72 (l : List Rec) (hl : l.length ≤ 1099511627776) : Runs Try.prog 72 [.lst 6 (l.map recV)] [] (.own 36 6 (l.map recV)) [] := by
  refine runsT [2] Try.func72 rfl rfl rfl rfl ?_
  rw [Try.ntmps72]
  refine tri_seq ?_
  refine tri_region ?_
  refine s_mv (.inr rfl) (v := .nils) rfl rfl rfl rfl ?_
  refine rt_nil ?_
  refine tri_seq ?_
  refine tri_region ?_
  refine s_buildSlice rfl rfl rfl sl27 zc36 rfl rfl rfl rfl rfl rfl rfl rfl rfl ?_
  refine s_mv (.inl rfl) (by conv => lhs; whnf) rfl rfl rfl ?_
  refine s_append rfl rfl rfl sl27 zc36 rfl rfl rfl rfl rfl (by first | rfl | simp only [List.length_map]) src_lst rfl (by first | omega | (simp only [List.length_map]; omega) | (simp only [List.length_cons, List.length_nil]; omega)) rfl rfl ?_
  refine s_mv (.inr rfl) (by conv => lhs; whnf) rfl rfl rfl ?_
  refine rt_nil ?_
  refine tri_ret ?_
  exact endT [((2000, 0), ⟨36, 6, l.map recV, false, true⟩, some (5, 0))] [] ⟨⟨rfl, _, rfl, rfl, rfl, rfl, id, (List.nil_append _).symm, allFree_map recV_free, rowsZ_map recV_len⟩, trivial⟩ trivial rfl rfl rfl (by show Cv _ _ _ _ (.ref (5, 0) 0 _) (.ref (2000, 0) 0 (l.map recV).length); first | (simp only [Nat.zero_add]; exact .ref rfl) | (simp only [List.length_map]; exact .ref rfl))

/- impl.Record] -/


set_option maxRecDepth 4000 in
theorem r73 (l : List Rec) (hl : l.length ≤ 1099511627776) : Runs Try.prog 73 [.lst 6 (l.map recV)] [] (.own 36 6 (l.map recV)) [] := by
  refine runsT [2] Try.func73 rfl rfl rfl rfl ?_
  rw [Try.ntmps73]
  refine tri_seq ?_
  refine tri_region ?_
  refine s_mv (.inr rfl) (v := .nils) rfl rfl rfl rfl ?_
  refine rt_nil ?_
  refine tri_seq ?_
  refine tri_seq ?_
  refine tri_isNil rfl (by conv => lhs; whnf) rfl rfl rfl rfl rfl (by first | exact congrArg some (List.length_map ..) | rfl) sl27 rfl rfl rfl (fun b4 hb4 => ?_)
  refine tri_cond rfl (fun hc4 => ?_) (fun hc4 => ?_)
  · skip
    have hm := hb4 hc4
    obtain rfl : l = [] := List.eq_nil_of_length_eq_zero hm
    refine tri_seq ?_
    refine tri_region ?_
    refine s_mv (.inr rfl) (v := .nils) rfl rfl rfl rfl ?_
    refine rt_nil ?_
    refine tri_ret ?_
    exact endT [((2000, 0), ⟨36, 6, [], false, true⟩, none)] [] ⟨rfl, trivial⟩ trivial rfl rfl rfl (.nilRef rfl)
  · skip
    refine tri_skip ?_
    refine tri_seq ?_
    refine tri_region ?_
    refine s_buildSlice rfl rfl rfl sl27 zc36 rfl rfl rfl rfl rfl rfl rfl rfl rfl ?_
    refine s_mv (.inl rfl) (by conv => lhs; whnf) rfl rfl rfl ?_
    refine s_append rfl rfl rfl sl27 zc36 rfl rfl rfl rfl rfl (by first | rfl | simp only [List.length_map]) src_lst rfl (by first | omega | (simp only [List.length_map]; omega) | (simp only [List.length_cons, List.length_nil]; omega)) rfl rfl ?_
    refine s_mv (.inr rfl) (by conv => lhs; whnf) rfl rfl rfl ?_
    refine rt_nil ?_
    refine tri_ret ?_
    exact endT [((2000, 0), ⟨36, 6, l.map recV, false, true⟩, some (7, 0))] [] ⟨⟨rfl, _, rfl, rfl, rfl, rfl, id, (List.nil_append _).symm, allFree_map recV_free, rowsZ_map recV_len⟩, trivial⟩ trivial rfl rfl rfl (by show Cv _ _ _ _ (.ref (7, 0) 0 _) (.ref (2000, 0) 0 (l.map recV).length); first | (simp only [Nat.zero_add]; exact .ref rfl) | (simp only [List.length_map]; exact .ref rfl))

/- spec.WithTtl -/
def inv36 (l : List Rec) (k : Int) (i : Nat) : St :=
  mkT 21 [(1, .sc (.int .i64 k)), (5, .ref (2005, 0) 0 l.length), (6, .sc (.int .i64 ((i : Nat) : Int)))]
    [((2005, 0), some ⟨36, 6, (ttlU l k i).map recV, false, true⟩)]

set_option maxRecDepth 4000 in
theorem r36 (l : List Rec) (k : Int) (hl : l.length ≤ 1099511627776) : Runs Try.prog 36 [.lst 6 (l.map recV), .sc (.int .i64 k)] [] (.own 36 6 ((l.map (setC k)).map recV)) [] := by
  refine runsT [4] Try.func36 rfl rfl rfl rfl ?_
  rw [Try.ntmps36]
  refine tri_seq ?_
  refine tri_region ?_
  refine s_mv (.inr rfl) (v := .nils) rfl rfl rfl rfl ?_
  refine rt_nil ?_
  refine tri_seq ?_
  refine tri_region ?_
  refine s_mv (.inl rfl) (by conv => lhs; whnf) rfl rfl rfl ?_
  refine s_callO (kb := []) rfl rfl c72 (r72 l (by omega)) rfl (.cons (.free rfl) .nil) (allSc_map recV_sc) (List.length_map ..) rfl rfl rfl rfl ?_
  refine s_mv (.inr rfl) (by conv => lhs; whnf) rfl rfl rfl ?_
  refine rt_nil ?_
  refine tri_seq ?_
  refine tri_seq ?_
  refine tri_region ?_
  refine s_mv (.inr rfl) (v := .sc (.int .i64 0)) rfl rfl rfl rfl ?_
  refine rt_nil ?_
  refine tri_block ?_
  refine tri_loop (ι := {i : Nat // i ≤ l.length}) (fun p => inv36 l k p.1) (fun p => l.length - p.1) ⟨0, Nat.zero_le _⟩ ?_ ?_
  · skip
    refine entT [((2005, 0), ⟨36, 6, (ttlU l k 0).map recV, false, true⟩, some (8, 0))] [] ⟨⟨rfl, _, rfl, rfl, rfl, rfl, id, (by rw [ttlU_zero]), allFree_map recV_free, rowsZ_map recV_len⟩, trivial⟩ trivial rfl rfl ?_
    exact ⟨.free rfl, .ref rfl, .free rfl, trivial⟩
  · intro p
    obtain ⟨i, hi⟩ := p
    simp only
    refine tri_seq ?_
    refine tri_seq ?_
    refine tri_region ?_
    refine s_mv (.inl rfl) (by conv => lhs; whnf) rfl rfl rfl ?_
    refine s_mv (.inl rfl) (by conv => lhs; whnf) rfl rfl rfl ?_
    refine s_len rfl sl27 (by first | exact congrArg some (List.length_map ..) | rfl) rfl rfl rfl ?_
    refine s_of (st_lss rfl rfl rfl) rfl rfl rfl rfl ?_
    refine rt_nil ?_
    refine tri_cond rfl (fun hc12 => ?_) (fun hc12 => ?_)
    · skip
      have hlt : i < l.length := by simpa using hc12
      refine tri_skip ?_
      refine tri_seq ?_
      refine tri_block ?_
      refine tri_region ?_
      refine s_mv (.inl rfl) (by conv => lhs; whnf) rfl rfl rfl ?_
      refine s_mv (.inl rfl) (by conv => lhs; whnf) rfl rfl rfl ?_
      refine s_mv (.inl rfl) (by conv => lhs; whnf) rfl rfl rfl ?_
      refine s_index rfl rfl rfl rfl sl27 rfl (by first | omega | (simp only [List.length_map]; omega)) rfl rfl rfl ?_
      refine s_fieldAddr rfl rfl fd36_2 rfl rfl rfl rfl ?_
      refine s_store rfl rfl rfl (rowAt (by simp only [ttlU_len hi]; omega)) ty3 rfl rfl rfl rfl rfl rfl ?_
      refine rt_nil ?_
      refine tri_region ?_
      refine s_mv (.inl rfl) (by conv => lhs; whnf) rfl rfl rfl ?_
      refine s_inc (b := 1) rfl rfl rfl rfl (by omega) rfl rfl rfl ?_
      refine s_mv (.inr rfl) (by conv => lhs; whnf) rfl rfl rfl ?_
      refine rt_nil ?_
      refine Exists.intro ⟨i + 1, hlt⟩ (And.intro (by simp only; omega) ?_)
      refine entT [((2005, 0), ⟨36, 6, (ttlU l k (i + 1)).map recV, false, true⟩, some (2005, 0))] [] ⟨⟨rfl, _, rfl, rfl, rfl, rfl, id, (ttlU_step hlt), allFree_map recV_free, rowsZ_map recV_len⟩, trivial⟩ trivial rfl rfl ?_
      exact ⟨.free rfl, .ref rfl, .free rfl, trivial⟩
    · skip
      have hge : i = l.length := by simp at hc12; omega
      subst hge
      refine tri_exit ?_
      refine tri_seq ?_
      refine tri_region ?_
      refine s_mv (.inl rfl) (by conv => lhs; whnf) rfl rfl rfl ?_
      refine s_mv (.inr rfl) (by conv => lhs; whnf) rfl rfl rfl ?_
      refine rt_nil ?_
      refine tri_ret ?_
      exact endT [((2000, 0), ⟨36, 6, (l.map (setC k)).map recV, false, true⟩, some (2005, 0))] [] ⟨⟨rfl, _, rfl, rfl, rfl, rfl, id, (by rw [ttlU_all]), allFree_map recV_free, rowsZ_map recV_len⟩, trivial⟩ trivial rfl rfl rfl (by show Cv _ _ _ _ (.ref (2005, 0) 0 _) (.ref (2000, 0) 0 ((l.map (setC k)).map recV).length); first | (simp only [Nat.zero_add]; exact .ref rfl) | (simp only [List.length_map]; exact .ref rfl))

/- impl.WithTtl -/
def inv37 (l : List Rec) (k : Int) (i : Nat) : St :=
  mkT 21 [(1, .sc (.int .i64 k)), (5, .ref (2005, 0) 0 l.length), (10, .sc (.int .i64 (l.length : Int))), (11, .sc (.int .i64 ((i : Nat) : Int)))]
    [((2005, 0), some ⟨36, 6, (ttlU l k i).map recV, false, true⟩)]

set_option maxRecDepth 4000 in
theorem r37 (l : List Rec) (k : Int) (hl : l.length ≤ 1099511627776) : Runs Try.prog 37 [.lst 6 (l.map recV), .sc (.int .i64 k)] [] (.own 36 6 ((l.map (setC k)).map recV)) [] := by
  refine runsT [4] Try.func37 rfl rfl rfl rfl ?_
  rw [Try.ntmps37]
  refine tri_seq ?_
  refine tri_region ?_
  refine s_mv (.inr rfl) (v := .nils) rfl rfl rfl rfl ?_
  refine rt_nil ?_
  refine tri_seq ?_
  refine tri_region ?_
  refine s_mv (.inl rfl) (by conv => lhs; whnf) rfl rfl rfl ?_
  refine s_callO (kb := []) rfl rfl c73 (r73 l (by omega)) rfl (.cons (.free rfl) .nil) (allSc_map recV_sc) (List.length_map ..) rfl rfl rfl rfl ?_
  refine s_mv (.inr rfl) (by conv => lhs; whnf) rfl rfl rfl ?_
  refine rt_nil ?_
  refine tri_seq ?_
  refine tri_seq ?_
  refine tri_region ?_
  refine s_mv (.inl rfl) (by conv => lhs; whnf) rfl rfl rfl ?_
  refine s_len rfl sl27 (by first | exact congrArg some (List.length_map ..) | rfl) rfl rfl rfl ?_
  refine s_mv (.inl rfl) (v := .sc (.int .i64 0)) rfl rfl rfl rfl ?_
  refine rt_nil ?_
  refine tri_block ?_
  refine tri_loop (ι := {i : Nat // i ≤ l.length}) (fun p => inv37 l k p.1) (fun p => l.length - p.1) ⟨0, Nat.zero_le _⟩ ?_ ?_
  · skip
    refine entT [((2005, 0), ⟨36, 6, (ttlU l k 0).map recV, false, true⟩, some (8, 0))] [] ⟨⟨rfl, _, rfl, rfl, rfl, rfl, id, (by rw [ttlU_zero]), allFree_map recV_free, rowsZ_map recV_len⟩, trivial⟩ trivial rfl rfl ?_
    exact ⟨.free rfl, .ref rfl, .free rfl, .free rfl, trivial⟩
  · intro p
    obtain ⟨i, hi⟩ := p
    simp only
    refine tri_seq ?_
    refine tri_region ?_
    refine s_of (st_lss rfl rfl rfl) rfl rfl rfl rfl ?_
    refine rt_nil ?_
    refine tri_seq ?_
    refine tri_cond rfl (fun hc12 => ?_) (fun hc12 => ?_)
    · skip
      have hlt : i < l.length := by simpa using hc12
      refine tri_skip ?_
      refine tri_seq ?_
      refine tri_block ?_
      refine tri_seq ?_
      refine tri_region ?_
      refine s_mv (.inl rfl) (by conv => lhs; whnf) rfl rfl rfl ?_
      refine s_mv (.inr rfl) (by conv => lhs; whnf) rfl rfl rfl ?_
      refine rt_nil ?_
      refine tri_region ?_
      refine s_mv (.inl rfl) (by conv => lhs; whnf) rfl rfl rfl ?_
      refine s_mv (.inl rfl) (by conv => lhs; whnf) rfl rfl rfl ?_
      refine s_mv (.inl rfl) (by conv => lhs; whnf) rfl rfl rfl ?_
      refine s_index rfl rfl rfl rfl sl27 rfl (by first | omega | (simp only [List.length_map]; omega)) rfl rfl rfl ?_
      refine s_fieldAddr rfl rfl fd36_2 rfl rfl rfl rfl ?_
      refine s_store rfl rfl rfl (rowAt (by simp only [ttlU_len hi]; omega)) ty3 rfl rfl rfl rfl rfl rfl ?_
      refine rt_nil ?_
      refine tri_region ?_
      refine s_inc (b := 1) rfl rfl rfl rfl (by omega) rfl rfl rfl ?_
      refine s_mv (.inl rfl) (by conv => lhs; whnf) rfl rfl rfl ?_
      refine rt_nil ?_
      refine Exists.intro ⟨i + 1, hlt⟩ (And.intro (by simp only; omega) ?_)
      refine entT [((2005, 0), ⟨36, 6, (ttlU l k (i + 1)).map recV, false, true⟩, some (2005, 0))] [] ⟨⟨rfl, _, rfl, rfl, rfl, rfl, id, (ttlU_step hlt), allFree_map recV_free, rowsZ_map recV_len⟩, trivial⟩ trivial rfl rfl ?_
      exact ⟨.free rfl, .ref rfl, .free rfl, .free rfl, trivial⟩
    · skip
      have hge : i = l.length := by simp at hc12; omega
      subst hge
      refine tri_exit ?_
      refine tri_seq ?_
      refine tri_region ?_
      refine s_mv (.inl rfl) (by conv => lhs; whnf) rfl rfl rfl ?_
      refine s_mv (.inr rfl) (by conv => lhs; whnf) rfl rfl rfl ?_
      refine rt_nil ?_
      refine tri_ret ?_
      exact endT [((2000, 0), ⟨36, 6, (l.map (setC k)).map recV, false, true⟩, some (2005, 0))] [] ⟨⟨rfl, _, rfl, rfl, rfl, rfl, id, (by rw [ttlU_all]), allFree_map recV_free, rowsZ_map recV_len⟩, trivial⟩ trivial rfl rfl rfl (by show Cv _ _ _ _ (.ref (2005, 0) 0 _) (.ref (2000, 0) 0 ((l.map (setC k)).map recV).length); first | (simp only [Nat.zero_add]; exact .ref rfl) | (simp only [List.length_map]; exact .ref rfl))

/- impl.Record] -/
def inv87 (l : List Rec) (g : Nat) (caps : List V) (i : Nat) : St :=
  mkT 19 [(0, .lst 6 (l.map recV)), (1, .fn g caps), (7, .sc (.int .i64 (l.length : Int))), (8, .sc (.int .i64 ((i : Nat) : Int)))]
    []

set_option maxRecDepth 4000 in
theorem r87 (l : List Rec) (p : Rec → Bool) (g : Nat) (caps : List V) (hl : l.length ≤ 9223372036854775807) (hcf : caps.all (·.free) = true) (hca : callable Try.prog g = true) (hg : ∀ r : Rec, Runs Try.prog g ([.agg (recV r)] ++ caps) [] (.sc (.bool (p r))) []) : Runs Try.prog 87 [.lst 6 (l.map recV), .fn g caps] [] (.sc (.int .i64 (pidx p l 0))) [] := by
  refine runsT [4] Try.func87 rfl rfl rfl rfl ?_
  rw [Try.ntmps87]
  refine tri_seq ?_
  refine tri_region ?_
  refine s_mv (.inr rfl) (v := .sc (.int .i64 0)) rfl rfl rfl rfl ?_
  refine rt_nil ?_
  refine tri_seq ?_
  refine tri_seq ?_
  refine tri_region ?_
  refine s_mv (.inl rfl) (by conv => lhs; whnf) rfl rfl rfl ?_
  refine s_len rfl sl27 (by first | exact congrArg some (List.length_map ..) | rfl) rfl rfl rfl ?_
  refine s_mv (.inl rfl) (v := .sc (.int .i64 0)) rfl rfl rfl rfl ?_
  refine rt_nil ?_
  refine tri_block ?_
  refine tri_loop (ι := {i : Nat // i ≤ l.length ∧ pidx p (l.drop i) i = pidx p l 0}) (fun p => inv87 l g caps p.1) (fun p => l.length - p.1) ⟨0, Nat.zero_le _, rfl⟩ ?_ ?_
  · skip
    refine entT [] [] trivial trivial rfl rfl ?_
    exact ⟨.free rfl, (cvFn hcf), .free rfl, .free rfl, trivial⟩
  · intro p
    obtain ⟨i, hi, ht⟩ := p
    simp only
    refine tri_seq ?_
    refine tri_region ?_
    refine s_of (st_lss rfl rfl rfl) rfl rfl rfl rfl ?_
    refine rt_nil ?_
    refine tri_seq ?_
    refine tri_cond rfl (fun hc9 => ?_) (fun hc9 => ?_)
    · skip
      have hlt : i < l.length := by simpa using hc9
      have hdr : l.drop i = l[i] :: l.drop (i + 1) := List.drop_eq_getElem_cons hlt
      rw [hdr, pidx_cons] at ht
      refine tri_skip ?_
      refine tri_seq ?_
      refine tri_block ?_
      refine tri_seq ?_
      refine tri_region ?_
      refine s_mv (.inl rfl) (by conv => lhs; whnf) rfl rfl rfl ?_
      refine s_mv (.inr rfl) (by conv => lhs; whnf) rfl rfl rfl ?_
      refine rt_nil ?_
      refine tri_seq ?_
      refine tri_region ?_
      refine s_mv (.inl rfl) (by conv => lhs; whnf) rfl rfl rfl ?_
      refine s_mv (.inl rfl) (by conv => lhs; whnf) rfl rfl rfl ?_
      refine s_mv (.inl rfl) (by conv => lhs; whnf) rfl rfl rfl ?_
      refine s_indexF rfl rfl rfl sl27 (by first | omega | (simp only [List.length_map]; omega)) rfl rfl rfl ?_
      refine s_loadFR rfl rfl (rowAt (by omega)) ty36 rfl rfl rfl ?_
      refine s_callV (kb := []) rfl rfl hca (hg l[i]) rfl (.cons (relAgg rfl) (argsFree hcf)) rfl rfl rfl rfl ?_
      refine rt_nil ?_
      refine tri_cond rfl (fun hc16 => ?_) (fun hc16 => ?_)
      · skip
        rw [if_pos hc16] at ht
        refine tri_seq ?_
        refine tri_region ?_
        refine s_mv (.inl rfl) (by conv => lhs; whnf) rfl rfl rfl ?_
        refine s_mv (.inr rfl) (by conv => lhs; whnf) rfl rfl rfl ?_
        refine rt_nil ?_
        refine tri_ret ?_
        exact endInt rfl ht rfl
      · skip
        rw [if_neg (by rw [hc16]; exact Bool.false_ne_true)] at ht
        have hnx := ht
        refine tri_skip ?_
        refine tri_region ?_
        refine s_inc (b := 1) rfl rfl rfl rfl (by omega) rfl rfl rfl ?_
        refine s_mv (.inl rfl) (by conv => lhs; whnf) rfl rfl rfl ?_
        refine rt_nil ?_
        refine Exists.intro ⟨i + 1, hlt, hnx⟩ (And.intro (by simp only; omega) ?_)
        refine entT [] [] trivial trivial rfl rfl ?_
        exact ⟨.free rfl, (cvFn hcf), .free rfl, .free rfl, trivial⟩
    · skip
      have hge : i = l.length := by simp at hc9; omega
      refine tri_exit ?_
      refine tri_seq ?_
      refine tri_region ?_
      refine s_mv (.inr rfl) (v := .sc (.int .i64 (-1))) rfl rfl rfl rfl ?_
      refine rt_nil ?_
      refine tri_ret ?_
      exact endInt rfl (by rw [← ht, hge, List.drop_length]; rfl) rfl

/- impl.Record] -/


set_option maxRecDepth 4000 in
theorem r66 (l : List Rec) (p : Rec → Bool) (g : Nat) (caps : List V) (hl : l.length ≤ 9223372036854775807) (hcf : caps.all (·.free) = true) (hca : callable Try.prog g = true) (hg : ∀ r : Rec, Runs Try.prog g ([.agg (recV r)] ++ caps) [] (.sc (.bool (p r))) []) : Runs Try.prog 66 [.lst 6 (l.map recV), .fn g caps] [] (.sc (.bool (l.any p))) [] := by
  refine runsT [4] Try.func66 rfl rfl rfl rfl ?_
  rw [Try.ntmps66]
  refine tri_seq ?_
  refine tri_region ?_
  refine s_mv (.inr rfl) (v := .sc (.bool false)) rfl rfl rfl rfl ?_
  refine rt_nil ?_
  refine tri_seq ?_
  refine tri_region ?_
  refine s_mv (.inl rfl) (by conv => lhs; whnf) rfl rfl rfl ?_
  refine s_mv (.inl rfl) (by conv => lhs; whnf) rfl rfl rfl ?_
  refine s_callV (kb := []) rfl rfl c87 (r87 l p g caps hl hcf hca hg) rfl (.cons (.free rfl) (.cons (relFn hcf) .nil)) rfl rfl rfl rfl ?_
  refine s_of (st_geq rfl rfl rfl) rfl rfl rfl rfl ?_
  refine s_mv (.inr rfl) (by conv => lhs; whnf) rfl rfl rfl ?_
  refine rt_nil ?_
  refine tri_ret ?_
  exact endBool rfl (pidx_any p l 0) rfl

/- impl.Record] -/
def inv97 (l : List Rec) (x : Rec) (i : Nat) : St :=
  mkT 19 [(0, .lst 6 (l.map recV)), (3, .ptr (3, 0) 0 0), (7, .sc (.int .i64 (l.length : Int))), (8, .sc (.int .i64 ((i : Nat) : Int)))]
    [((3, 0), some ⟨36, 6, [recV x], false, true⟩)]

set_option maxRecDepth 4000 in
theorem r97 (l : List Rec) (x : Rec) (hl : l.length ≤ 9223372036854775807) : Runs Try.prog 97 [.lst 6 (l.map recV), .agg (recV x)] [] (.sc (.int .i64 (fidx l x 0))) [] := by
  refine runsT [4] Try.func97 rfl rfl rfl rfl ?_
  rw [Try.ntmps97]
  refine tri_seq ?_
  refine tri_region ?_
  refine s_box rfl rfl rfl rfl rfl rfl rfl ?_
  refine s_mv (.inr rfl) (v := .sc (.int .i64 0)) rfl rfl rfl rfl ?_
  refine rt_nil ?_
  refine tri_seq ?_
  refine tri_seq ?_
  refine tri_region ?_
  refine s_mv (.inl rfl) (by conv => lhs; whnf) rfl rfl rfl ?_
  refine s_len rfl sl27 (by first | exact congrArg some (List.length_map ..) | rfl) rfl rfl rfl ?_
  refine s_mv (.inl rfl) (v := .sc (.int .i64 0)) rfl rfl rfl rfl ?_
  refine rt_nil ?_
  refine tri_block ?_
  refine tri_loop (ι := {i : Nat // i ≤ l.length ∧ fidx (l.drop i) x i = fidx l x 0}) (fun p => inv97 l x p.1) (fun p => l.length - p.1) ⟨0, Nat.zero_le _, rfl⟩ ?_ ?_
  · skip
    refine entT [((3, 0), ⟨36, 6, [recV x], false, true⟩, some (3, 0))] [] ⟨⟨rfl, _, rfl, rfl, rfl, rfl, id, rfl, allFree_one rfl, fun r hr => by simp at hr; subst hr; rfl⟩, trivial⟩ trivial rfl rfl ?_
    exact ⟨.free rfl, .ptr rfl, .free rfl, .free rfl, trivial⟩
  · intro p
    obtain ⟨i, hi, ht⟩ := p
    simp only
    refine tri_seq ?_
    refine tri_region ?_
    refine s_of (st_lss rfl rfl rfl) rfl rfl rfl rfl ?_
    refine rt_nil ?_
    refine tri_seq ?_
    refine tri_cond rfl (fun hc9 => ?_) (fun hc9 => ?_)
    · skip
      have hlt : i < l.length := by simpa using hc9
      have hdr : l.drop i = l[i] :: l.drop (i + 1) := List.drop_eq_getElem_cons hlt
      rw [hdr, fidx_cons] at ht
      refine tri_skip ?_
      refine tri_seq ?_
      refine tri_block ?_
      refine tri_seq ?_
      refine tri_region ?_
      refine s_mv (.inl rfl) (by conv => lhs; whnf) rfl rfl rfl ?_
      refine s_mv (.inr rfl) (by conv => lhs; whnf) rfl rfl rfl ?_
      refine rt_nil ?_
      refine tri_seq ?_
      refine tri_draw mixed ?_
      refine s_loadR rfl rfl rfl rfl ty36 rfl rfl rfl ?_
      refine s_mv (.inl rfl) (by conv => lhs; whnf) rfl rfl rfl ?_
      refine s_mv (.inl rfl) (by conv => lhs; whnf) rfl rfl rfl ?_
      refine s_indexF rfl rfl rfl sl27 (by first | omega | (simp only [List.length_map]; omega)) rfl rfl rfl ?_
      refine s_loadFR rfl rfl (rowAt (by omega)) ty36 rfl rfl rfl ?_
      refine s_eqStruct rfl rfl rfl fk36 rfl (recEq _ _) rfl rfl rfl ?_
      refine rt_nil ⟨by kernel_rfl, ?_⟩
      refine tri_cond rfl (fun hc16 => ?_) (fun hc16 => ?_)
      · skip
        have he : x = l[i] := of_decide_eq_true hc16
        rw [if_pos he.symm] at ht
        refine tri_seq ?_
        refine tri_region ?_
        refine s_mv (.inl rfl) (by conv => lhs; whnf) rfl rfl rfl ?_
        refine s_mv (.inr rfl) (by conv => lhs; whnf) rfl rfl rfl ?_
        refine rt_nil ?_
        refine tri_ret ?_
        exact endInt rfl ht rfl
      · skip
        have hne : ¬ x = l[i] := of_decide_eq_false hc16
        rw [if_neg (fun q => hne q.symm)] at ht
        have hnx := ht
        refine tri_skip ?_
        refine tri_region ?_
        refine s_inc (b := 1) rfl rfl rfl rfl (by omega) rfl rfl rfl ?_
        refine s_mv (.inl rfl) (by conv => lhs; whnf) rfl rfl rfl ?_
        refine rt_nil ?_
        refine Exists.intro ⟨i + 1, hlt, hnx⟩ (And.intro (by simp only; omega) ?_)
        refine entT [((3, 0), ⟨36, 6, [recV x], false, true⟩, some (3, 0))] [] ⟨⟨rfl, _, rfl, rfl, rfl, rfl, id, rfl, allFree_one rfl, fun r hr => by simp at hr; subst hr; rfl⟩, trivial⟩ trivial rfl rfl ?_
        exact ⟨.free rfl, .ptr rfl, .free rfl, .free rfl, trivial⟩
    · skip
      have hge : i = l.length := by simp at hc9; omega
      refine tri_exit ?_
      refine tri_seq ?_
      refine tri_region ?_
      refine s_mv (.inr rfl) (v := .sc (.int .i64 (-1))) rfl rfl rfl rfl ?_
      refine rt_nil ?_
      refine tri_ret ?_
      exact endInt rfl (by rw [← ht, hge, List.drop_length]; rfl) rfl

/- impl.Record] -/


set_option maxRecDepth 4000 in
theorem r89 (l : List Rec) (x : Rec) (hl : l.length ≤ 9223372036854775807) : Runs Try.prog 89 [.lst 6 (l.map recV), .agg (recV x)] [] (.sc (.bool (decide (x ∈ l)))) [] := by
  refine runsT [4] Try.func89 rfl rfl rfl rfl ?_
  rw [Try.ntmps89]
  refine tri_seq ?_
  refine tri_region ?_
  refine s_box rfl rfl rfl rfl rfl rfl rfl ?_
  refine s_mv (.inr rfl) (v := .sc (.bool false)) rfl rfl rfl rfl ?_
  refine rt_nil ?_
  refine tri_seq ?_
  refine tri_region ?_
  refine s_mv (.inl rfl) (by conv => lhs; whnf) rfl rfl rfl ?_
  refine s_loadR rfl rfl rfl rfl ty36 rfl rfl rfl ?_
  refine s_callV (kb := []) rfl rfl c97 (r97 l x hl) rfl (.cons (.free rfl) (.cons (relAgg rfl) .nil)) rfl rfl rfl rfl ?_
  refine s_of (st_geq rfl rfl rfl) rfl rfl rfl rfl ?_
  refine s_mv (.inr rfl) (by conv => lhs; whnf) rfl rfl rfl ?_
  refine rt_nil ?_
  refine tri_ret ?_
  exact endBool rfl (decide_eq_decide.2 (fidx_mem l x 0)) rfl

/- impl.within$1 -/


set_option maxRecDepth 4000 in
theorem r88 (r : Rec) (l : List Rec) (hl : l.length ≤ 9223372036854775807) : Runs Try.prog 88 [.agg (recV r), .lptr 1 [[.lst 6 (l.map recV)]] 0 0] [] (.sc (.bool (!decide (r ∈ l)))) [] := by
  refine runsT [3] Try.func88 rfl rfl rfl rfl ?_
  rw [Try.ntmps88]
  refine tri_seq ?_
  refine tri_region ?_
  refine s_box rfl rfl rfl rfl rfl rfl rfl ?_
  refine s_mv (.inr rfl) (v := .sc (.bool false)) rfl rfl rfl rfl ?_
  refine rt_nil ?_
  refine tri_seq ?_
  refine tri_region ?_
  refine s_loadF rfl rfl rfl ty27 rfl (.inr rfl) (by conv => lhs; whnf) rfl rfl rfl ?_
  refine s_loadR rfl rfl rfl rfl ty36 rfl rfl rfl ?_
  refine s_callV (kb := []) rfl rfl c89 (r89 l r hl) rfl (.cons (.free rfl) (.cons (relAgg rfl) .nil)) rfl rfl rfl rfl ?_
  refine s_of (st_not rfl rfl) rfl rfl rfl rfl ?_
  refine s_mv (.inr rfl) (by conv => lhs; whnf) rfl rfl rfl ?_
  refine rt_nil ?_
  refine tri_ret ?_
  exact endBool rfl rfl rfl

/- impl.within -/


set_option maxRecDepth 4000 in
theorem r70 (l q : List Rec) (hl : l.length ≤ 1099511627776) (hq : q.length ≤ 1099511627776) : Runs Try.prog 70 [.lst 6 (l.map recV), .lst 6 (q.map recV)] [] (.sc (.bool (wit 0 l q))) [] := by
  refine runsT [4] Try.func70 rfl rfl rfl rfl ?_
  rw [Try.ntmps70]
  refine tri_seq ?_
  refine tri_region ?_
  refine s_mv (.inr rfl) (v := .sc (.bool false)) rfl rfl rfl rfl ?_
  refine rt_nil ?_
  refine tri_seq ?_
  refine tri_region ?_
  refine s_mv (.inl rfl) (by conv => lhs; whnf) rfl rfl rfl ?_
  refine s_callO (kb := []) rfl rfl c37 (r37 l 0 hl) rfl (.cons (.free rfl) (.cons (.free rfl) .nil)) (allSc_map recV_sc) (List.length_map ..) rfl rfl rfl rfl ?_
  refine s_mv (.inl rfl) (by conv => lhs; whnf) rfl rfl rfl ?_
  refine s_callO (kb := []) rfl rfl c37 (r37 q 0 hq) rfl (.cons (.free rfl) (.cons (.free rfl) .nil)) (allSc_map recV_sc) (List.length_map ..) rfl rfl rfl rfl ?_
  refine s_alloc rfl rfl rfl zc27 rfl rfl rfl rfl rfl ?_
  refine s_mv (.inr rfl) (by conv => lhs; whnf) rfl rfl rfl ?_
  refine s_storeB rfl rfl rfl ty27 rfl rfl rfl rfl rfl ?_
  refine rt_nil ?_
  refine tri_seq ?_
  refine tri_region ?_
  refine s_mv (.inl rfl) (by conv => lhs; whnf) rfl rfl rfl ?_
  refine s_makeFunc (caps := [.ptr (6, 0) 0 0]) rfl rfl rfl rfl rfl ?_
  refine s_callV (kb := [(8, 0), (6, 0), (10, 0)]) rfl rfl c66 (r66 (l.map (setC 0)) (fun r => !decide (r ∈ (q.map (setC 0)))) 88 [.lptr 1 [[.lst 6 ((q.map (setC 0)).map recV)]] 0 0] (by rw [List.length_map]; omega) rfl c88 (fun r => r88 r (q.map (setC 0)) (by rw [List.length_map]; omega))) rfl (.cons (lend rfl (.head _) (by first | rfl | (simp only [List.length_map]; done) | (simp only [List.length_map, mk_len]; done) | simp only [List.length_map, mkG_len]) (allFree_map recV_free) (rowsZ_map recV_len)) (.cons (relFn1 (relBox rfl (.tail _ (.head _)) (lend rfl (.tail _ (.tail _ (.head _))) (by first | rfl | simp only [List.length_map]) (allFree_map recV_free) (rowsZ_map recV_len)) rfl)) .nil)) rfl rfl rfl rfl ?_
  refine s_of (st_not rfl rfl) rfl rfl rfl rfl ?_
  refine s_mv (.inr rfl) (by conv => lhs; whnf) rfl rfl rfl ?_
  refine rt_nil ?_
  refine tri_ret ?_
  exact endBool rfl rfl rfl

/- impl.SameData -/


set_option maxRecDepth 4000 in
theorem r31 (l q : List Rec) (hl : l.length ≤ 1099511627776) (hq : q.length ≤ 1099511627776) : Runs Try.prog 31 [.lst 6 (l.map recV), .lst 6 (q.map recV)] [] (.sc (.bool (wit 0 l q && wit 0 q l))) [] := by
  refine runsT [4] Try.func31 rfl rfl rfl rfl ?_
  rw [Try.ntmps31]
  refine tri_seq ?_
  refine tri_region ?_
  refine s_mv (.inr rfl) (v := .sc (.bool false)) rfl rfl rfl rfl ?_
  refine rt_nil ?_
  refine tri_seq ?_
  refine tri_region ?_
  refine s_mv (.inl rfl) (by conv => lhs; whnf) rfl rfl rfl ?_
  refine s_mv (.inl rfl) (by conv => lhs; whnf) rfl rfl rfl ?_
  refine s_callV (kb := []) rfl rfl c70 (r70 l q hl hq) rfl (.cons (.free rfl) (.cons (.free rfl) .nil)) rfl rfl rfl rfl ?_
  refine s_mv (.inl rfl) (by conv => lhs; whnf) rfl rfl rfl ?_
  refine s_split (t := 8) rfl (fun hb8 => ?_) (fun hb8 => ?_)
  · skip
    refine s_mv (.inl rfl) (by conv => lhs; whnf) rfl rfl rfl ?_
    refine s_mv (.inl rfl) (by conv => lhs; whnf) rfl rfl rfl ?_
    refine s_callV (kb := []) rfl rfl c70 (r70 q l hq hl) rfl (.cons (.free rfl) (.cons (.free rfl) .nil)) rfl rfl rfl rfl ?_
    refine s_pickT rfl rfl (by conv => lhs; whnf) rfl rfl rfl ?_
    refine s_mv (.inr rfl) (by conv => lhs; whnf) rfl rfl rfl ?_
    refine rt_nil ?_
    refine tri_ret ?_
    exact endBool rfl (by rw [hb8]; rfl) rfl
  · skip
    refine s_skip rfl rfl rfl ?_
    refine s_skip rfl rfl rfl ?_
    refine s_skip rfl rfl rfl ?_
    refine s_pickF rfl rfl (v := .sc (.bool false)) rfl rfl rfl rfl ?_
    refine s_mv (.inr rfl) (by conv => lhs; whnf) rfl rfl rfl ?_
    refine rt_nil ?_
    refine tri_ret ?_
    exact endBool rfl (by rw [hb8]; rfl) rfl

/- spec.l9In -/
def inv69 (l : List Rec) (x : Rec) (i : Nat) : St :=
  mkT 23 [(0, .lst 6 (l.map recV)), (3, .ptr (3, 0) 0 0), (5, .sc (.int .i64 ((i : Nat) : Int)))]
    [((3, 0), some ⟨36, 6, [recV x], false, true⟩)]

set_option maxRecDepth 4000 in
theorem r69 (l : List Rec) (x : Rec) (hl : l.length ≤ 9223372036854775807) : Runs Try.prog 69 [.lst 6 (l.map recV), .agg (recV x)] [] (.sc (.bool (l.any (sdP x)))) [] := by
  refine runsT [4] Try.func69 rfl rfl rfl rfl ?_
  rw [Try.ntmps69]
  refine tri_seq ?_
  refine tri_region ?_
  refine s_box rfl rfl rfl rfl rfl rfl rfl ?_
  refine s_mv (.inr rfl) (v := .sc (.bool false)) rfl rfl rfl rfl ?_
  refine rt_nil ?_
  refine tri_seq ?_
  refine tri_seq ?_
  refine tri_region ?_
  refine s_mv (.inr rfl) (v := .sc (.int .i64 0)) rfl rfl rfl rfl ?_
  refine rt_nil ?_
  refine tri_block ?_
  refine tri_loop (ι := {i : Nat // i ≤ l.length ∧ (l.take i).any (sdP x) = false}) (fun p => inv69 l x p.1) (fun p => l.length - p.1) ⟨0, Nat.zero_le _, rfl⟩ ?_ ?_
  · skip
    refine entT [((3, 0), ⟨36, 6, [recV x], false, true⟩, some (3, 0))] [] ⟨⟨rfl, _, rfl, rfl, rfl, rfl, id, rfl, allFree_one rfl, fun r hr => by simp at hr; subst hr; rfl⟩, trivial⟩ trivial rfl rfl ?_
    exact ⟨.free rfl, .ptr rfl, .free rfl, trivial⟩
  · intro p
    obtain ⟨i, hi, ht⟩ := p
    simp only
    refine tri_seq ?_
    refine tri_seq ?_
    refine tri_region ?_
    refine s_mv (.inl rfl) (by conv => lhs; whnf) rfl rfl rfl ?_
    refine s_mv (.inl rfl) (by conv => lhs; whnf) rfl rfl rfl ?_
    refine s_len rfl sl27 (by first | exact congrArg some (List.length_map ..) | rfl) rfl rfl rfl ?_
    refine s_of (st_lss rfl rfl rfl) rfl rfl rfl rfl ?_
    refine rt_nil ?_
    refine tri_cond rfl (fun hc10 => ?_) (fun hc10 => ?_)
    · skip
      have hlt : i < l.length := by simpa using hc10
      refine tri_skip ?_
      refine tri_seq ?_
      refine tri_block ?_
      refine tri_seq ?_
      refine tri_region ?_
      refine s_mv (.inl rfl) (by conv => lhs; whnf) rfl rfl rfl ?_
      refine s_mv (.inl rfl) (by conv => lhs; whnf) rfl rfl rfl ?_
      refine s_indexF rfl rfl rfl sl27 (by first | omega | (simp only [List.length_map]; omega)) rfl rfl rfl ?_
      refine s_loadFR rfl rfl (rowAt (by omega)) ty36 rfl rfl rfl ?_
      refine s_alloc rfl rfl rfl zc36 rfl rfl rfl rfl rfl ?_
      refine s_storeB rfl rfl rfl ty36 rfl rfl rfl rfl rfl ?_
      refine rt_nil ?_
      refine tri_seq ?_
      refine tri_region ?_
      refine s_fieldAddr rfl rfl fd36_2 rfl rfl rfl rfl ?_
      refine s_load rfl rfl rfl rfl ty3 rfl (.inr rfl) (by conv => lhs; whnf) rfl rfl rfl ?_
      refine s_fieldAddr rfl rfl fd36_2 rfl rfl rfl rfl ?_
      refine s_store rfl rfl rfl rfl ty3 rfl rfl rfl rfl rfl rfl ?_
      refine rt_nil ?_
      refine tri_seq ?_
      refine tri_region ?_
      refine s_loadR rfl rfl rfl rfl ty36 rfl rfl rfl ?_
      refine s_loadR rfl rfl rfl rfl ty36 rfl rfl rfl ?_
      refine s_eqStruct rfl rfl rfl fk36 rfl (recEq (setC x.c l[i]) x) rfl rfl rfl ?_
      refine rt_nil ?_
      refine tri_cond rfl (fun hc22 => ?_) (fun hc22 => ?_)
      · skip
        have hp : sdP x l[i] = true := hc22
        refine tri_seq ?_
        refine tri_region ?_
        refine s_mv (.inr rfl) (v := .sc (.bool true)) rfl rfl rfl rfl ?_
        refine rt_nil ?_
        refine tri_ret ?_
        exact endBool rfl (List.any_eq_true.2 ⟨_, List.getElem_mem hlt, hp⟩).symm rfl
      · skip
        have hp : sdP x l[i] = false := hc22
        have hnx : (l.take (i + 1)).any (sdP x) = false := by rw [any_take hlt, ht, hp]; rfl
        refine tri_skip ?_
        refine tri_region ?_
        refine s_mv (.inl rfl) (by conv => lhs; whnf) rfl rfl rfl ?_
        refine s_inc (b := 1) rfl rfl rfl rfl (by omega) rfl rfl rfl ?_
        refine s_mv (.inr rfl) (by conv => lhs; whnf) rfl rfl rfl ?_
        refine rt_nil ?_
        refine Exists.intro ⟨i + 1, hlt, hnx⟩ (And.intro (by simp only; omega) ?_)
        refine entT [((3, 0), ⟨36, 6, [recV x], false, true⟩, some (3, 0))] [] ⟨⟨rfl, _, rfl, rfl, rfl, rfl, id, rfl, allFree_one rfl, fun r hr => by simp at hr; subst hr; rfl⟩, trivial⟩ trivial rfl rfl ?_
        exact ⟨.free rfl, .ptr rfl, .free rfl, trivial⟩
    · skip
      have hge : i = l.length := by simp at hc10; omega
      refine tri_exit ?_
      refine tri_seq ?_
      refine tri_region ?_
      refine s_mv (.inr rfl) (v := .sc (.bool false)) rfl rfl rfl rfl ?_
      refine rt_nil ?_
      refine tri_ret ?_
      exact endBool rfl (by rw [← ht, hge, List.take_length]) rfl

/- spec.SameData -/
def inv30 (l q : List Rec) (i : Nat) : St :=
  mkT 33 [(0, .lst 6 (l.map recV)), (1, .lst 6 (q.map recV)), (5, .sc (.int .i64 ((i : Nat) : Int)))]
    []
def inv30b (l q : List Rec) (i : Nat) : St :=
  mkT 33 [(0, .lst 6 (l.map recV)), (1, .lst 6 (q.map recV)), (6, .sc (.int .i64 ((i : Nat) : Int)))]
    []

set_option maxRecDepth 4000 in
theorem r30 (l q : List Rec) (hl : l.length ≤ 9223372036854775807) (hq : q.length ≤ 9223372036854775807) : Runs Try.prog 30 [.lst 6 (l.map recV), .lst 6 (q.map recV)] [] (.sc (.bool ((l.all fun r => q.any (sdP r)) && (q.all fun r => l.any (sdP r))))) [] := by
  refine runsT [4] Try.func30 rfl rfl rfl rfl ?_
  rw [Try.ntmps30]
  refine tri_seq ?_
  refine tri_region ?_
  refine s_mv (.inr rfl) (v := .sc (.bool false)) rfl rfl rfl rfl ?_
  refine rt_nil ?_
  refine tri_seq ?_
  refine tri_seq ?_
  refine tri_region ?_
  refine s_mv (.inr rfl) (v := .sc (.int .i64 0)) rfl rfl rfl rfl ?_
  refine rt_nil ?_
  refine tri_block ?_
  refine tri_loop (ι := {i : Nat // i ≤ l.length ∧ (l.take i).all (fun r => q.any (sdP r)) = true}) (fun p => inv30 l q p.1) (fun p => l.length - p.1) ⟨0, Nat.zero_le _, rfl⟩ ?_ ?_
  · skip
    refine entT [] [] trivial trivial rfl rfl ?_
    exact ⟨.free rfl, .free rfl, .free rfl, trivial⟩
  · intro p
    obtain ⟨i, hi, ht⟩ := p
    simp only
    refine tri_seq ?_
    refine tri_seq ?_
    refine tri_region ?_
    refine s_mv (.inl rfl) (by conv => lhs; whnf) rfl rfl rfl ?_
    refine s_mv (.inl rfl) (by conv => lhs; whnf) rfl rfl rfl ?_
    refine s_len rfl sl27 (by first | exact congrArg some (List.length_map ..) | rfl) rfl rfl rfl ?_
    refine s_of (st_lss rfl rfl rfl) rfl rfl rfl rfl ?_
    refine rt_nil ?_
    refine tri_cond rfl (fun hc10 => ?_) (fun hc10 => ?_)
    · skip
      have hlt : i < l.length := by simpa using hc10
      refine tri_skip ?_
      refine tri_seq ?_
      refine tri_block ?_
      refine tri_seq ?_
      refine tri_region ?_
      refine s_mv (.inl rfl) (by conv => lhs; whnf) rfl rfl rfl ?_
      refine s_mv (.inl rfl) (by conv => lhs; whnf) rfl rfl rfl ?_
      refine s_mv (.inl rfl) (by conv => lhs; whnf) rfl rfl rfl ?_
      refine s_indexF rfl rfl rfl sl27 (by first | omega | (simp only [List.length_map]; omega)) rfl rfl rfl ?_
      refine s_loadFR rfl rfl (rowAt (by omega)) ty36 rfl rfl rfl ?_
      refine s_callV (kb := []) rfl rfl c69 (r69 q l[i] hq) rfl (.cons (.free rfl) (.cons (relAgg rfl) .nil)) rfl rfl rfl rfl ?_
      refine s_of (st_not rfl rfl) rfl rfl rfl rfl ?_
      refine rt_nil ?_
      refine tri_cond rfl (fun hc19 => ?_) (fun hc19 => ?_)
      · skip
        have hf : q.any (sdP l[i]) = false := by simpa using hc19
        refine tri_seq ?_
        refine tri_region ?_
        refine s_mv (.inr rfl) (v := .sc (.bool false)) rfl rfl rfl rfl ?_
        refine rt_nil ?_
        refine tri_ret ?_
        exact endBool rfl (by rw [all_false (p := fun r => q.any (sdP r)) hlt hf]; rfl) rfl
      · skip
        have hf : q.any (sdP l[i]) = true := by simpa using hc19
        have hnx : (l.take (i + 1)).all (fun r => q.any (sdP r)) = true := by rw [List.take_add_one, List.getElem?_eq_getElem hlt, List.all_append, ht]; simp [hf]
        refine tri_skip ?_
        refine tri_region ?_
        refine s_mv (.inl rfl) (by conv => lhs; whnf) rfl rfl rfl ?_
        refine s_inc (b := 1) rfl rfl rfl rfl (by omega) rfl rfl rfl ?_
        refine s_mv (.inr rfl) (by conv => lhs; whnf) rfl rfl rfl ?_
        refine rt_nil ?_
        refine Exists.intro ⟨i + 1, hlt, hnx⟩ (And.intro (by simp only; omega) ?_)
        refine entT [] [] trivial trivial rfl rfl ?_
        exact ⟨.free rfl, .free rfl, .free rfl, trivial⟩
    · skip
      have hge : i = l.length := by simp at hc10; omega
      have hA : (l.all fun r => q.any (sdP r)) = true := by rw [← ht, hge, List.take_length]
      refine tri_exit ?_
      refine tri_seq ?_
      refine tri_seq ?_
      refine tri_region ?_
      refine s_mv (.inr rfl) (v := .sc (.int .i64 0)) rfl rfl rfl rfl ?_
      refine rt_nil ?_
      refine tri_block ?_
      refine tri_loop (ι := {i : Nat // i ≤ q.length ∧ (q.take i).all (fun r => l.any (sdP r)) = true}) (fun p => inv30b l q p.1) (fun p => q.length - p.1) ⟨0, Nat.zero_le _, rfl⟩ ?_ ?_
      · skip
        refine entT [] [] trivial trivial rfl rfl ?_
        exact ⟨.free rfl, .free rfl, .free rfl, trivial⟩
      · intro p
        obtain ⟨i, hi, ht⟩ := p
        simp only
        refine tri_seq ?_
        refine tri_seq ?_
        refine tri_region ?_
        refine s_mv (.inl rfl) (by conv => lhs; whnf) rfl rfl rfl ?_
        refine s_mv (.inl rfl) (by conv => lhs; whnf) rfl rfl rfl ?_
        refine s_len rfl sl27 (by first | exact congrArg some (List.length_map ..) | rfl) rfl rfl rfl ?_
        refine s_of (st_lss rfl rfl rfl) rfl rfl rfl rfl ?_
        refine rt_nil ?_
        refine tri_cond rfl (fun hc23 => ?_) (fun hc23 => ?_)
        · skip
          have hlt : i < q.length := by simpa using hc23
          refine tri_skip ?_
          refine tri_seq ?_
          refine tri_block ?_
          refine tri_seq ?_
          refine tri_region ?_
          refine s_mv (.inl rfl) (by conv => lhs; whnf) rfl rfl rfl ?_
          refine s_mv (.inl rfl) (by conv => lhs; whnf) rfl rfl rfl ?_
          refine s_mv (.inl rfl) (by conv => lhs; whnf) rfl rfl rfl ?_
          refine s_indexF rfl rfl rfl sl27 (by first | omega | (simp only [List.length_map]; omega)) rfl rfl rfl ?_
          refine s_loadFR rfl rfl (rowAt (by omega)) ty36 rfl rfl rfl ?_
          refine s_callV (kb := []) rfl rfl c69 (r69 l q[i] hl) rfl (.cons (.free rfl) (.cons (relAgg rfl) .nil)) rfl rfl rfl rfl ?_
          refine s_of (st_not rfl rfl) rfl rfl rfl rfl ?_
          refine rt_nil ?_
          refine tri_cond rfl (fun hc32 => ?_) (fun hc32 => ?_)
          · skip
            have hf : l.any (sdP q[i]) = false := by simpa using hc32
            refine tri_seq ?_
            refine tri_region ?_
            refine s_mv (.inr rfl) (v := .sc (.bool false)) rfl rfl rfl rfl ?_
            refine rt_nil ?_
            refine tri_ret ?_
            exact endBool rfl (by rw [hA, all_false (p := fun r => l.any (sdP r)) hlt hf]; rfl) rfl
          · skip
            have hf : l.any (sdP q[i]) = true := by simpa using hc32
            have hnx : (q.take (i + 1)).all (fun r => l.any (sdP r)) = true := by rw [List.take_add_one, List.getElem?_eq_getElem hlt, List.all_append, ht]; simp [hf]
            refine tri_skip ?_
            refine tri_region ?_
            refine s_mv (.inl rfl) (by conv => lhs; whnf) rfl rfl rfl ?_
            refine s_inc (b := 1) rfl rfl rfl rfl (by omega) rfl rfl rfl ?_
            refine s_mv (.inr rfl) (by conv => lhs; whnf) rfl rfl rfl ?_
            refine rt_nil ?_
            refine Exists.intro ⟨i + 1, hlt, hnx⟩ (And.intro (by simp only; omega) ?_)
            refine entT [] [] trivial trivial rfl rfl ?_
            exact ⟨.free rfl, .free rfl, .free rfl, trivial⟩
        · skip
          have hge : i = q.length := by simp at hc23; omega
          refine tri_exit ?_
          refine tri_seq ?_
          refine tri_region ?_
          refine s_mv (.inr rfl) (v := .sc (.bool true)) rfl rfl rfl rfl ?_
          refine rt_nil ?_
          refine tri_ret ?_
          exact endBool rfl (by rw [hA, show (q.all fun r => l.any (sdP r)) = true from by rw [← ht, hge, List.take_length]]; rfl) rfl

/- laws.FnExactSameData -/


set_option maxRecDepth 4000 in
theorem r7 (l q : List Rec) (hl : l.length ≤ 9223372036854775807) (hr : ∀ r, r ∈ l → r.ok) (hl2 : q.length ≤ 9223372036854775807) (hr2 : ∀ r, r ∈ q → r.ok) : Runs Try.prog 7 [.lst 6 (l.map recV), .lst 6 (q.map recV)] [] (.sc (.bool true)) [] := by
  refine runsT [4] Try.func7 rfl rfl rfl rfl ?_
  rw [Try.ntmps7]
  refine tri_seq ?_
  refine tri_region ?_
  refine s_mv (.inr rfl) (v := .sc (.bool false)) rfl rfl rfl rfl ?_
  refine rt_nil ?_
  refine tri_seq ?_
  refine tri_region ?_
  refine s_mv (.inr rfl) (v := .sc (.int .i64 1048576)) rfl rfl rfl rfl ?_
  refine rt_nil ?_
  refine tri_seq ?_
  refine tri_region ?_
  refine s_mv (.inl rfl) (by conv => lhs; whnf) rfl rfl rfl ?_
  refine s_mv (.inl rfl) (by conv => lhs; whnf) rfl rfl rfl ?_
  refine s_callV (kb := []) rfl rfl c17 (r17 _ _ ⟨by omega, by omega⟩ (by assumption) (by assumption)) rfl (.cons (.free rfl) (.cons (.free rfl) .nil)) rfl rfl rfl rfl ?_
  refine s_mv (.inr rfl) (by conv => lhs; whnf) rfl rfl rfl ?_
  refine rt_nil ?_
  refine tri_seq ?_
  refine tri_seq ?_
  refine tri_region ?_
  refine s_mv (.inl rfl) (by conv => lhs; whnf) rfl rfl rfl ?_
  refine s_of (st_lss rfl rfl rfl) rfl rfl rfl rfl ?_
  refine rt_nil ?_
  refine tri_cond rfl (fun hc14 => ?_) (fun hc14 => ?_)
  · skip
    refine tri_seq ?_
    refine tri_region ?_
    refine s_mv (.inr rfl) (v := .sc (.bool true)) rfl rfl rfl rfl ?_
    refine rt_nil ?_
    refine tri_ret ?_
    exact endBool rfl rfl rfl
  · skip
    have hs : 0 ≤ szS l 1048576 := by simpa using hc14
    have hlen : (l.length : Int) ≤ 1048576 := szS_len hs
    have hs1 : szS l 1048576 ≤ 1048576 := szS_le hr
    refine tri_skip ?_
    refine tri_seq ?_
    refine tri_region ?_
    refine s_mv (.inl rfl) (by conv => lhs; whnf) rfl rfl rfl ?_
    refine s_mv (.inl rfl) (by conv => lhs; whnf) rfl rfl rfl ?_
    refine s_callV (kb := []) rfl rfl c17 (r17 _ _ ⟨by omega, by omega⟩ (by assumption) (by assumption)) rfl (.cons (.free rfl) (.cons (.free rfl) .nil)) rfl rfl rfl rfl ?_
    refine s_mv (.inr rfl) (by conv => lhs; whnf) rfl rfl rfl ?_
    refine rt_nil ?_
    refine tri_seq ?_
    refine tri_seq ?_
    refine tri_region ?_
    refine s_mv (.inl rfl) (by conv => lhs; whnf) rfl rfl rfl ?_
    refine s_of (st_lss rfl rfl rfl) rfl rfl rfl rfl ?_
    refine rt_nil ?_
    refine tri_cond rfl (fun hc19 => ?_) (fun hc19 => ?_)
    · skip
      refine tri_seq ?_
      refine tri_region ?_
      refine s_mv (.inr rfl) (v := .sc (.bool true)) rfl rfl rfl rfl ?_
      refine rt_nil ?_
      refine tri_ret ?_
      exact endBool rfl rfl rfl
    · skip
      have hs2 : 0 ≤ szS q (szS l 1048576) := by simpa using hc19
      have hlen2 : (q.length : Int) ≤ szS l 1048576 := szS_len hs2
      refine tri_skip ?_
      refine tri_seq ?_
      refine tri_region ?_
      refine s_mv (.inl rfl) (by conv => lhs; whnf) rfl rfl rfl ?_
      refine s_callO (kb := []) rfl rfl c19 (r19 _ (by omega)) rfl (.cons (.free rfl) .nil) (allSc_map recV_sc) (List.length_map ..) rfl rfl rfl rfl ?_
      refine s_mv (.inl rfl) (by conv => lhs; whnf) rfl rfl rfl ?_
      refine s_callO (kb := []) rfl rfl c19 (r19 _ (by omega)) rfl (.cons (.free rfl) .nil) (allSc_map recV_sc) (List.length_map ..) rfl rfl rfl rfl ?_
      refine s_callV (kb := [(21, 0), (23, 0)]) rfl rfl c30 (r30 l q (by omega) (by omega)) rfl (.cons (lend rfl (.head _) (by first | rfl | (simp only [List.length_map]; done) | (simp only [List.length_map, mk_len]; done) | simp only [List.length_map, mkG_len]) (allFree_map recV_free) (rowsZ_map recV_len)) (.cons (lend rfl (.tail _ (.head _)) (by first | rfl | (simp only [List.length_map]; done) | (simp only [List.length_map, mk_len]; done) | simp only [List.length_map, mkG_len]) (allFree_map recV_free) (rowsZ_map recV_len)) .nil)) rfl rfl rfl rfl ?_
      refine s_mv (.inr rfl) (by conv => lhs; whnf) rfl rfl rfl ?_
      refine rt_nil ?_
      refine tri_seq ?_
      refine tri_region ?_
      refine s_mv (.inl rfl) (by conv => lhs; whnf) rfl rfl rfl ?_
      refine s_callO (kb := []) rfl rfl c19 (r19 _ (by omega)) rfl (.cons (.free rfl) .nil) (allSc_map recV_sc) (List.length_map ..) rfl rfl rfl rfl ?_
      refine s_mv (.inr rfl) (by conv => lhs; whnf) rfl rfl rfl ?_
      refine rt_nil ?_
      refine tri_seq ?_
      refine tri_region ?_
      refine s_mv (.inl rfl) (by conv => lhs; whnf) rfl rfl rfl ?_
      refine s_callO (kb := []) rfl rfl c19 (r19 _ (by omega)) rfl (.cons (.free rfl) .nil) (allSc_map recV_sc) (List.length_map ..) rfl rfl rfl rfl ?_
      refine s_mv (.inr rfl) (by conv => lhs; whnf) rfl rfl rfl ?_
      refine rt_nil ?_
      refine tri_seq ?_
      refine tri_region ?_
      refine s_mv (.inl rfl) (by conv => lhs; whnf) rfl rfl rfl ?_
      refine s_mv (.inl rfl) (by conv => lhs; whnf) rfl rfl rfl ?_
      refine s_callV (kb := [(26, 0), (28, 0)]) rfl rfl c31 (r31 l q (by omega) (by omega)) rfl (.cons (lend rfl (.head _) (by first | rfl | (simp only [List.length_map]; done) | (simp only [List.length_map, mk_len]; done) | simp only [List.length_map, mkG_len]) (allFree_map recV_free) (rowsZ_map recV_len)) (.cons (lend rfl (.tail _ (.head _)) (by first | rfl | (simp only [List.length_map]; done) | (simp only [List.length_map, mk_len]; done) | simp only [List.length_map, mkG_len]) (allFree_map recV_free) (rowsZ_map recV_len)) .nil)) rfl rfl rfl rfl ?_
      refine s_mv (.inr rfl) (by conv => lhs; whnf) rfl rfl rfl ?_
      refine rt_nil ?_
      refine tri_seq ?_
      refine tri_seq ?_
      refine tri_region ?_
      refine s_mv (.inl rfl) (by conv => lhs; whnf) rfl rfl rfl ?_
      refine s_mv (.inl rfl) (by conv => lhs; whnf) rfl rfl rfl ?_
      refine s_of (st_neB isb4 rfl rfl rfl) rfl rfl rfl rfl ?_
      refine rt_nil ?_
      refine tri_cond rfl (fun hc34 => ?_) (fun hc34 => ?_)
      · skip
        rw [wit_eq, wit_eq] at hc34; simp at hc34
      · skip
        refine tri_skip ?_
        refine tri_seq ?_
        refine tri_seq ?_
        refine tri_region ?_
        refine s_mv (.inl rfl) (by conv => lhs; whnf) rfl rfl rfl ?_
        refine s_mv (.inl rfl) (by conv => lhs; whnf) rfl rfl rfl ?_
        refine s_callO (kb := []) rfl rfl c19 (r19 _ (by omega)) rfl (.cons (.free rfl) .nil) (allSc_map recV_sc) (List.length_map ..) rfl rfl rfl rfl ?_
        refine s_callV (kb := [(26, 0), (37, 0)]) rfl rfl c21 (r21 l l (by omega)) rfl (.cons (lend rfl (.head _) (by first | rfl | (simp only [List.length_map]; done) | (simp only [List.length_map, mk_len]; done) | simp only [List.length_map, mkG_len]) (allFree_map recV_free) (rowsZ_map recV_len)) (.cons (lend rfl (.tail _ (.head _)) (by first | rfl | (simp only [List.length_map]; done) | (simp only [List.length_map, mk_len]; done) | simp only [List.length_map, mkG_len]) (allFree_map recV_free) (rowsZ_map recV_len)) .nil)) rfl rfl rfl rfl ?_
        refine s_of (st_not rfl rfl) rfl rfl rfl rfl ?_
        refine rt_nil ?_
        refine tri_cond rfl (fun hc39 => ?_) (fun hc39 => ?_)
        · skip
          first | (simp at hc39; done) | (simp at hc39; omega) | (simp [mk_len] at hc39; done) | (simp [mkG_len] at hc39; done) | (simp [mkG_len] at hc39; omega)
        · skip
          refine tri_skip ?_
          refine tri_seq ?_
          refine tri_seq ?_
          refine tri_region ?_
          refine s_mv (.inl rfl) (by conv => lhs; whnf) rfl rfl rfl ?_
          refine s_mv (.inl rfl) (by conv => lhs; whnf) rfl rfl rfl ?_
          refine s_callO (kb := []) rfl rfl c19 (r19 _ (by omega)) rfl (.cons (.free rfl) .nil) (allSc_map recV_sc) (List.length_map ..) rfl rfl rfl rfl ?_
          refine s_callV (kb := [(28, 0), (42, 0)]) rfl rfl c21 (r21 q q (by omega)) rfl (.cons (lend rfl (.head _) (by first | rfl | (simp only [List.length_map]; done) | (simp only [List.length_map, mk_len]; done) | simp only [List.length_map, mkG_len]) (allFree_map recV_free) (rowsZ_map recV_len)) (.cons (lend rfl (.tail _ (.head _)) (by first | rfl | (simp only [List.length_map]; done) | (simp only [List.length_map, mk_len]; done) | simp only [List.length_map, mkG_len]) (allFree_map recV_free) (rowsZ_map recV_len)) .nil)) rfl rfl rfl rfl ?_
          refine s_of (st_not rfl rfl) rfl rfl rfl rfl ?_
          refine rt_nil ?_
          refine tri_cond rfl (fun hc44 => ?_) (fun hc44 => ?_)
          · skip
            first | (simp at hc44; done) | (simp at hc44; omega) | (simp [mk_len] at hc44; done) | (simp [mkG_len] at hc44; done) | (simp [mkG_len] at hc44; omega)
          · skip
            refine tri_skip ?_
            refine tri_seq ?_
            refine tri_region ?_
            refine s_mv (.inr rfl) (v := .sc (.bool true)) rfl rfl rfl rfl ?_
            refine rt_nil ?_
            refine tri_ret ?_
            exact endBool rfl rfl rfl

end Go.Abs.R1
