/- The functions that the law of FnKeeps reaches, as pure functions that may fail. -/
import Derived.Test.YtcdpmfnjajjlkaaDoorAbsA33
namespace Go.Abs.M
open Go Go.Abs
structure Cur where
  b : List Int
  i : Int
  h : Int
  deriving DecidableEq
def curV (r : Cur) : List V := [.lst 1 (List.map byteV r.b), .sc (.int .i64 r.i), .sc (.int .i64 r.h)]
theorem curV_free (r : Cur) : (curV r).all (·.free) = true := rfl
theorem curV_len (r : Cur) : (curV r).length = 3 := rfl
def Cur.ok (r : Cur) : Prop := (r.b.length ≤ 9223372036854775807 ∧ ∀ q, q ∈ r.b → True) ∧ i64 r.i ∧ i64 r.h
structure Quest where
  name : ByteArray
  ty : Int
  deriving DecidableEq
def questV (r : Quest) : List V := [.sc (.string r.name), .sc (.int .i64 r.ty)]
theorem questV_free (r : Quest) : (questV r).all (·.free) = true := rfl
theorem questV_len (r : Quest) : (questV r).length = 2 := rfl
def Quest.ok (r : Quest) : Prop := r.name.size ≤ 9223372036854775807 ∧ i64 r.ty
theorem questV_sc (r : Quest) : (questV r).all isScN = true := rfl
structure Rec where
  name : ByteArray
  ty : Int
  ttl : Int
  n : Int
  host : ByteArray
  text : ByteArray
  deriving DecidableEq
def recV (r : Rec) : List V := [.sc (.string r.name), .sc (.int .i64 r.ty), .sc (.int .i64 r.ttl), .sc (.int .i64 r.n), .sc (.string r.host), .sc (.string r.text)]
theorem recV_free (r : Rec) : (recV r).all (·.free) = true := rfl
theorem recV_len (r : Rec) : (recV r).length = 6 := rfl
def Rec.ok (r : Rec) : Prop := r.name.size ≤ 9223372036854775807 ∧ i64 r.ty ∧ i64 r.ttl ∧ i64 r.n ∧ r.host.size ≤ 9223372036854775807 ∧ r.text.size ≤ 9223372036854775807
theorem recV_sc (r : Rec) : (recV r).all isScN = true := rfl
structure MEntry where
  q : Quest
  kind : Int
  l : List Rec
  rank : Int
  til : Int
  deriving DecidableEq
def mEntryV (r : MEntry) : List V := [.sc (.string r.q.name), .sc (.int .i64 r.q.ty), .sc (.int .i64 r.kind), .lst 6 (List.map recV r.l), .sc (.int .i64 r.rank), .sc (.int .i64 r.til)]
theorem mEntryV_free (r : MEntry) : (mEntryV r).all (·.free) = true := rfl
theorem mEntryV_len (r : MEntry) : (mEntryV r).length = 6 := rfl
def MEntry.ok (r : MEntry) : Prop := r.q.ok ∧ i64 r.kind ∧ (r.l.length ≤ 9223372036854775807 ∧ ∀ q, q ∈ r.l → q.ok) ∧ i64 r.rank ∧ i64 r.til
structure MCache where
  cap : Int
  l : List MEntry
  deriving DecidableEq
def mCacheV (r : MCache) : List V := [.sc (.int .i64 r.cap), .lst 6 (List.map mEntryV r.l)]
theorem mCacheV_free (r : MCache) : (mCacheV r).all (·.free) = true := rfl
theorem mCacheV_len (r : MCache) : (mCacheV r).length = 2 := rfl
def MCache.ok (r : MCache) : Prop := i64 r.cap ∧ (r.l.length ≤ 9223372036854775807 ∧ ∀ q, q ∈ r.l → q.ok)
/- laws.big -/
def w_big (p0 : List Int) : Option Bool :=
  some (decide (1048576 < (p0.length : Int)))
/- spec.l1New -/
def s_l1New_j0 (p0 : List Int) (j0_0 : Int) : Option Cur :=
  some (Cur.mk p0 0 j0_0)
def s_l1New_j2 (p0 : List Int) (v1_0 : Int) (v1_1 : Int) (k1 : Int → Int → Option Cur) (j2_0 : Bool) : Option Cur :=
  bif j2_0 then (bnd1 (idx p0 v1_1) (fun x2 => k1 (iand .i64 (IntKind.i64.wrap ((IntKind.i64.wrap ((IntKind.i64.wrap (v1_0 * 137)) + (IntKind.i64.wrap x2))) + 11)) 1073741823) (IntKind.i64.wrap (v1_1 + 1)))) else (s_l1New_j0 p0 v1_0)
def s_l1New_l1 (p0 : List Int) : Nat → Int → Int → Option Cur
  | 0, _, _ => none
  | f1 + 1, v1_0, v1_1 => bif decide (v1_1 < (p0.length : Int)) then (s_l1New_j2 p0 v1_0 v1_1 (s_l1New_l1 p0 f1) (decide (v1_1 < 4000))) else (s_l1New_j2 p0 v1_0 v1_1 (s_l1New_l1 p0 f1) false)
def s_l1New (p0 : List Int) : Option Cur :=
  s_l1New_l1 p0 fuel0 (IntKind.i64.wrap (160909 + (p0.length : Int))) 0
/- spec.l1Byte -/
def s_l1Byte (p0 : Cur) : Option (Int × Cur) :=
  bif decide (p0.i < (p0.b.length : Int)) then (bnd1 (idx p0.b p0.i) (fun x2 => some ((iand .i64 (IntKind.i64.wrap ((iand .i64 (ixor .i64 (ishr .i64 (IntKind.i64.wrap ((IntKind.i64.wrap (p0.h * 6364136223846793005)) + 1442695040888963407)) 33) (ishr .i64 (IntKind.i64.wrap ((IntKind.i64.wrap (p0.h * 6364136223846793005)) + 1442695040888963407)) 47)) 255) + (IntKind.i64.wrap x2))) 255), Cur.mk p0.b (IntKind.i64.wrap (p0.i + 1)) (IntKind.i64.wrap ((IntKind.i64.wrap (p0.h * 6364136223846793005)) + 1442695040888963407))))) else (some ((iand .i64 (ixor .i64 (ishr .i64 (IntKind.i64.wrap ((IntKind.i64.wrap (p0.h * 6364136223846793005)) + 1442695040888963407)) 33) (ishr .i64 (IntKind.i64.wrap ((IntKind.i64.wrap (p0.h * 6364136223846793005)) + 1442695040888963407)) 47)) 255), Cur.mk p0.b p0.i (IntKind.i64.wrap ((IntKind.i64.wrap (p0.h * 6364136223846793005)) + 1442695040888963407))))
/- spec.l1Below -/
def s_l1Below (p0 : Cur) (p1 : Int) : Option (Int × Cur) :=
  bif decide (p1 ≤ 0) then (some (0, p0)) else (bif decide (p1 ≤ 256) then (bnd2 (s_l1Byte p0) (fun x3 x4 => grd (p1 ≠ 0) (some ((Int.tmod x3 p1), x4)))) else (bnd2 (s_l1Byte p0) (fun x7 x8 => bnd2 (s_l1Byte x8) (fun x10 x11 => bnd2 (s_l1Byte x11) (fun x13 x14 => grd (i64 (x7 * 65536)) (grd (i64 (x10 * 256)) (grd (i64 ((x7 * 65536) + (x10 * 256))) (grd (i64 (((x7 * 65536) + (x10 * 256)) + x13)) (grd (p1 ≠ 0) (some ((Int.tmod (((x7 * 65536) + (x10 * 256)) + x13) p1), x14)))))))))))
/- spec.l1In -/
def s_l1In (p0 : Int) (p1 : Int) (p2 : Int) : Option Bool :=
  bif decide (p1 ≤ p0) then (some (decide (p0 ≤ p2))) else (some false)
/- spec.CacheNew -/
def s_CacheNew_j0  (j0_0 : Int) : Option MCache :=
  some (MCache.mk j0_0 ([] : List MEntry))
def s_CacheNew (p0 : Int) : Option MCache :=
  bnd1 (s_l1In p0 1 60) (fun x1 => bif !x1 then (s_CacheNew_j0 1) else (s_CacheNew_j0 p0))
/- spec.l1Str -/
def s_l1Str (p0 : Cur) (p1 : List ByteArray) : Option (ByteArray × Cur) :=
  bnd2 (s_l1Below p0 (p1.length : Int)) (fun x1 x2 => bnd1 (idx p1 x1) (fun x4 => some (x4, x2)))
/- spec.l3Name -/
def s_l3Name (p0 : Cur) : Option (ByteArray × Cur) :=
  bnd2 (s_l1Str p0 ([(⟨#[]⟩ : ByteArray), (⟨#[99, 111, 109]⟩ : ByteArray), (⟨#[101, 120, 46, 99, 111, 109]⟩ : ByteArray), (⟨#[119, 119, 119, 46, 101, 120, 46, 99, 111, 109]⟩ : ByteArray), (⟨#[110, 115, 46, 101, 120, 46, 99, 111, 109]⟩ : ByteArray), (⟨#[111, 114, 103]⟩ : ByteArray), (⟨#[97, 46, 111, 114, 103]⟩ : ByteArray), (⟨#[98, 46, 97, 46, 111, 114, 103]⟩ : ByteArray), (⟨#[110, 115, 49, 46, 111, 114, 103]⟩ : ByteArray), (⟨#[120, 46, 121, 46, 122, 46, 101, 120, 46, 99, 111, 109]⟩ : ByteArray)])) (fun x1 x2 => some (x1, x2))
/- spec.l1Int -/
def s_l1Int (p0 : Cur) (p1 : List Int) : Option (Int × Cur) :=
  bnd2 (s_l1Below p0 (p1.length : Int)) (fun x1 x2 => bnd1 (idx p1 x1) (fun x4 => some (x4, x2)))
/- spec.l5Type -/
def s_l5Type (p0 : Cur) : Option (Int × Cur) :=
  bnd2 (s_l1Int p0 [1, 1, 1, 2, 2, 5, 6, 16]) (fun x1 x2 => some (x1, x2))
/- spec.l5Draw -/
def s_l5Draw_j0 (x1 : ByteArray) (x4 : Int) (x7 : Int) (x8 : Cur) (j0_0 : Bool) : Option (Rec × Cur) :=
  bif j0_0 then (bnd2 (s_l3Name x8) (fun x16 x17 => some ((Rec.mk x1 x4 x7 0 x16 (⟨#[]⟩ : ByteArray)), x17))) else (bif decide (x4 = 6) then (bnd2 (s_l3Name x8) (fun x20 x21 => bnd2 (s_l1Int x21 [0, 5, 60]) (fun x23 x24 => some ((Rec.mk x1 x4 x7 x23 x20 (⟨#[]⟩ : ByteArray)), x24)))) else (bif decide (x4 = 16) then (bnd2 (s_l1Str x8 ([(⟨#[]⟩ : ByteArray), (⟨#[104, 105]⟩ : ByteArray), (⟨#[116, 119, 101, 108, 118, 101, 98, 121, 116, 101, 115, 33]⟩ : ByteArray)])) (fun x27 x28 => some ((Rec.mk x1 x4 x7 0 (⟨#[]⟩ : ByteArray) x27), x28))) else (some ((Rec.mk x1 x4 x7 0 (⟨#[]⟩ : ByteArray) (⟨#[]⟩ : ByteArray)), x8))))
def s_l5Draw (p0 : Cur) : Option (Rec × Cur) :=
  bnd2 (s_l3Name p0) (fun x1 x2 => bnd2 (s_l5Type x2) (fun x4 x5 => bnd2 (s_l1Int x5 [0, 1, 5, 60, 300, 100000]) (fun x7 x8 => bif decide (x4 = 1) then (bnd2 (s_l1Below x8 9) (fun x11 x12 => grd (i64 (1 + x11)) (some ((Rec.mk x1 x4 x7 (1 + x11) (⟨#[]⟩ : ByteArray) (⟨#[]⟩ : ByteArray)), x12)))) else (bif decide (x4 = 2) then (s_l5Draw_j0 x1 x4 x7 x8 (decide (x4 = 2))) else (s_l5Draw_j0 x1 x4 x7 x8 (decide (x4 = 5)))))))
/- spec.l15Draw -/
def s_l15Draw (p0 : Cur) : Option (MEntry × Cur) :=
  bnd2 (s_l5Draw p0) (fun x1 x2 => bnd2 (s_l1Below x2 3) (fun x4 x5 => grd (i64 (1 + x4)) (bnd2 (s_l1Below x5 40) (fun x8 x9 => bnd2 (s_l1Below x9 4) (fun x11 x12 => bif decide (x11 = 0) then (some ((MEntry.mk (Quest.mk x1.name x1.ty) 1 ([] : List Rec) (1 + x4) x8), x12)) else (bif decide (x11 = 1) then (some ((MEntry.mk (Quest.mk x1.name 0) 2 ([] : List Rec) (1 + x4) x8), x12)) else (some ((MEntry.mk (Quest.mk x1.name x1.ty) 0 [x1] (1 + x4) x8), x12))))))))
/- spec.l7Copy -/
def s_l7Copy (p0 : List Rec) : Option (List Rec) :=
  grd ((([] : List Rec) ++ p0).length ≤ 1099511627776) (some (([] : List Rec) ++ p0))
/- spec.l15Entry -/
def s_l15Entry (p0 : MEntry) : Option MEntry :=
  bnd1 (s_l7Copy p0.l) (fun x1 => some (MEntry.mk p0.q p0.kind x1 p0.rank p0.til))
/- spec.l15Copy -/
def s_l15Copy_l0 (p0 : MCache) : List MEntry → (List MEntry) → Nat → Option MCache
  | [], v0_0, v0_1 => some (MCache.mk p0.cap v0_0)
  | e0 :: rs0, v0_0, v0_1 => bnd1 (s_l15Entry e0) (fun x2 => grd ((v0_0 ++ [x2]).length ≤ 1099511627776) (s_l15Copy_l0 p0 rs0 (v0_0 ++ [x2]) (v0_1 + 1)))
def s_l15Copy (p0 : MCache) : Option MCache :=
  s_l15Copy_l0 p0 p0.l ([] : List MEntry) 0
/- spec.Labels -/
def s_Labels_j2 (p0 : ByteArray) (v0_0 : List ByteArray) (v0_1 : Int) (v0_2 : Int) (k0 : (List ByteArray) → Int → Int → Option (List ByteArray)) (j2_0 : Bool) : Option (List ByteArray) :=
  bif j2_0 then (grd (0 ≤ v0_1 ∧ v0_1 ≤ v0_2 ∧ v0_2 ≤ (p0.size : Int)) (grd ((v0_0 ++ [p0.extract v0_1.toNat v0_2.toNat]).length ≤ 1099511627776) (grd (i64 (v0_2 + 1)) (grd (i64 (v0_2 + 1)) (k0 (v0_0 ++ [p0.extract v0_1.toNat v0_2.toNat]) (v0_2 + 1) (v0_2 + 1)))))) else (grd (i64 (v0_2 + 1)) (k0 v0_0 v0_1 (v0_2 + 1)))
def s_Labels_j1 (p0 : ByteArray) (v0_0 : List ByteArray) (v0_1 : Int) (v0_2 : Int) (k0 : (List ByteArray) → Int → Int → Option (List ByteArray)) (j1_0 : Bool) : Option (List ByteArray) :=
  bif j1_0 then (bif decide (v0_2 = (p0.size : Int)) then (s_Labels_j2 p0 v0_0 v0_1 v0_2 (k0) true) else (bnd1 (sidx p0 v0_2) (fun x3 => s_Labels_j2 p0 v0_0 v0_1 v0_2 (k0) (decide (x3 = 46))))) else (some v0_0)
def s_Labels_l0 (p0 : ByteArray) : Nat → (List ByteArray) → Int → Int → Option (List ByteArray)
  | 0, _, _, _ => none
  | f0 + 1, v0_0, v0_1, v0_2 => bif decide (v0_2 ≤ (p0.size : Int)) then (s_Labels_j1 p0 v0_0 v0_1 v0_2 (s_Labels_l0 p0 f0) (!decide (p0 = (⟨#[]⟩ : ByteArray)))) else (s_Labels_j1 p0 v0_0 v0_1 v0_2 (s_Labels_l0 p0 f0) false)
def s_Labels (p0 : ByteArray) : Option (List ByteArray) :=
  s_Labels_l0 p0 fuel0 ([] : List ByteArray) 0 0
/- spec.l2Byte -/
def s_l2Byte (p0 : Int) : Option Bool :=
  bnd1 (s_l1In (IntKind.i64.wrap p0) 97 122) (fun x1 => bif x1 then (some true) else (bnd1 (s_l1In (IntKind.i64.wrap p0) 48 57) (fun x4 => bif x4 then (some true) else (bif decide (p0 = 45) then (some true) else (some (decide (p0 = 95)))))))
/- spec.LabelOk -/
def s_LabelOk_j0 (p0 : ByteArray) : Option Bool :=
  bnd1 (s_l1In (p0.size : Int) 1 12) (fun x1 => some x1)
def s_LabelOk_l1 (p0 : ByteArray) : Nat → Int → Option Bool
  | 0, _ => none
  | f1 + 1, v1_0 => bif decide (v1_0 < (p0.size : Int)) then (bnd1 (sidx p0 v1_0) (fun x2 => bnd1 (s_l2Byte x2) (fun x4 => bif !x4 then (some false) else (grd (i64 (v1_0 + 1)) (s_LabelOk_l1 p0 f1 (v1_0 + 1)))))) else (s_LabelOk_j0 p0)
def s_LabelOk (p0 : ByteArray) : Option Bool :=
  s_LabelOk_l1 p0 fuel0 0
/- spec.NameOk -/
def s_NameOk_j0 (p0 : ByteArray) (x1 : List ByteArray) : Option Bool :=
  bif decide ((p0.size : Int) ≤ 50) then (some (decide ((x1.length : Int) ≤ 6))) else (some false)
def s_NameOk_l1 (p0 : ByteArray) (x1 : List ByteArray) : List ByteArray → Nat → Option Bool
  | [], v1_0 => s_NameOk_j0 p0 x1
  | e1 :: rs1, v1_0 => bnd1 (s_LabelOk e1) (fun x4 => bif !x4 then (some false) else (s_NameOk_l1 p0 x1 rs1 (v1_0 + 1)))
def s_NameOk (p0 : ByteArray) : Option Bool :=
  bnd1 (s_Labels p0) (fun x1 => s_NameOk_l1 p0 x1 x1 0)
/- spec.TypeOk -/
def s_TypeOk (p0 : Int) : Option Bool :=
  bif decide (p0 = 1) then (some true) else (bif decide (p0 = 2) then (some true) else (bif decide (p0 = 5) then (some true) else (bif decide (p0 = 6) then (some true) else (some (decide (p0 = 16))))))
/- spec.QuestOk -/
def s_QuestOk (p0 : Quest) : Option Bool :=
  bnd1 (s_NameOk p0.name) (fun x1 => bif x1 then (bnd1 (s_TypeOk p0.ty) (fun x4 => some x4)) else (some false))
/- spec.l5Text -/
def s_l5Text_j0 (p0 : ByteArray) : Option Bool :=
  some (decide ((p0.size : Int) ≤ 12))
def s_l5Text_l1 (p0 : ByteArray) : Nat → Int → Option Bool
  | 0, _ => none
  | f1 + 1, v1_0 => bif decide (v1_0 < (p0.size : Int)) then (bnd1 (sidx p0 v1_0) (fun x2 => bnd1 (s_l1In (IntKind.i64.wrap x2) 33 126) (fun x4 => bif !x4 then (some false) else (grd (i64 (v1_0 + 1)) (s_l5Text_l1 p0 f1 (v1_0 + 1)))))) else (s_l5Text_j0 p0)
def s_l5Text (p0 : ByteArray) : Option Bool :=
  s_l5Text_l1 p0 fuel0 0
/- spec.RecordOk -/
def s_RecordOk_j1 (p0 : Rec) (j1_0 : Bool) : Option Bool :=
  bif j1_0 then (bif decide (p0.n = 0) then (bnd1 (s_NameOk p0.host) (fun x9 => bif x9 then (some (decide (p0.text = (⟨#[]⟩ : ByteArray)))) else (some false))) else (some false)) else (bif decide (p0.ty = 6) then (bnd1 (s_l1In p0.n 0 100000) (fun x13 => bif x13 then (bnd1 (s_NameOk p0.host) (fun x16 => bif x16 then (some (decide (p0.text = (⟨#[]⟩ : ByteArray)))) else (some false))) else (some false))) else (bif decide (p0.ty = 16) then (bif decide (p0.n = 0) then (bif decide (p0.host = (⟨#[]⟩ : ByteArray)) then (bnd1 (s_l5Text p0.text) (fun x22 => some x22)) else (some false)) else (some false)) else (some false)))
def s_RecordOk_j0 (p0 : Rec) (j0_0 : Bool) : Option Bool :=
  bif j0_0 then (some false) else (bif decide (p0.ty = 1) then (bnd1 (s_l1In p0.n 0 2147483647) (fun x3 => bif x3 then (bif decide (p0.host = (⟨#[]⟩ : ByteArray)) then (some (decide (p0.text = (⟨#[]⟩ : ByteArray)))) else (some false)) else (some false))) else (bif decide (p0.ty = 2) then (s_RecordOk_j1 p0 (decide (p0.ty = 2))) else (s_RecordOk_j1 p0 (decide (p0.ty = 5)))))
def s_RecordOk (p0 : Rec) : Option Bool :=
  bnd1 (s_NameOk p0.name) (fun x1 => bif !x1 then (s_RecordOk_j0 p0 true) else (bnd1 (s_l1In p0.ttl 0 100000) (fun x4 => s_RecordOk_j0 p0 (!x4))))
/- spec.l7List -/
def s_l7List_j0 (p0 : List Rec) : Option Bool :=
  some (decide ((p0.length : Int) ≤ 8))
def s_l7List_l1 (p0 : List Rec) : List Rec → Nat → Option Bool
  | [], v1_0 => s_l7List_j0 p0
  | e1 :: rs1, v1_0 => bnd1 (s_RecordOk e1) (fun x2 => bif !x2 then (some false) else (s_l7List_l1 p0 rs1 (v1_0 + 1)))
def s_l7List (p0 : List Rec) : Option Bool :=
  s_l7List_l1 p0 p0 0
/- spec.EntryOk -/
def s_EntryOk_j1 (p0 : MEntry) : Option Bool :=
  bif decide (p0.kind = 2) then (bnd1 (s_NameOk p0.q.name) (fun x3 => bif x3 then (bif decide (p0.q.ty = 0) then (some (decide ((p0.l.length : Int) = 0))) else (some false)) else (some false))) else (some false)
def s_EntryOk_j2 (p0 : MEntry) : Option Bool :=
  bnd1 (s_QuestOk p0.q) (fun x3 => bif x3 then (bif decide (0 < (p0.l.length : Int)) then (bnd1 (s_l7List p0.l) (fun x7 => some x7)) else (some false)) else (some false))
def s_EntryOk_j4 (v3_0 : Nat) (k3 : Nat → Option Bool) (j4_0 : Bool) : Option Bool :=
  bif j4_0 then (some false) else (k3 (v3_0 + 1))
def s_EntryOk_l3 (p0 : MEntry) : List Rec → Nat → Option Bool
  | [], v3_0 => s_EntryOk_j2 p0
  | e3 :: rs3, v3_0 => bif !decide (e3.name = p0.q.name) then (s_EntryOk_j4 v3_0 (s_EntryOk_l3 p0 rs3) true) else (s_EntryOk_j4 v3_0 (s_EntryOk_l3 p0 rs3) (!decide (e3.ty = p0.q.ty)))
def s_EntryOk_j0 (p0 : MEntry) (j0_0 : Bool) : Option Bool :=
  bif j0_0 then (some false) else (bif decide (p0.kind = 0) then (s_EntryOk_l3 p0 p0.l 0) else (bif decide (p0.kind = 1) then (bnd1 (s_QuestOk p0.q) (fun x10 => bif x10 then (some (decide ((p0.l.length : Int) = 0))) else (some false))) else (s_EntryOk_j1 p0)))
def s_EntryOk (p0 : MEntry) : Option Bool :=
  bnd1 (s_l1In p0.rank 1 3) (fun x1 => bif !x1 then (s_EntryOk_j0 p0 true) else (s_EntryOk_j0 p0 (decide (p0.til < 0))))
/- spec.l15Lives -/
def s_l15Lives (p0 : MEntry) (p1 : Int) : Option Bool :=
  some (decide (p1 < p0.til))
/- spec.l15At -/
def s_l15At_l0 (p1 : Quest) : List MEntry → Nat → Option Int
  | [], v0_0 => some (-1)
  | e0 :: rs0, v0_0 => bif (decide (e0.q.name = p1.name) && (decide (e0.q.ty = p1.ty) && true)) then (some (v0_0 : Int)) else (s_l15At_l0 p1 rs0 (v0_0 + 1))
def s_l15At (p0 : MCache) (p1 : Quest) : Option Int :=
  s_l15At_l0 p1 p0.l 0
/- spec.l15Oldest -/
def s_l15Oldest_l0 (p0 : MCache) : List MEntry → Int → Nat → Option Int
  | [], v0_0, v0_1 => some v0_0
  | e0 :: rs0, v0_0, v0_1 => bnd1 (idx p0.l v0_0) (fun x2 => bif decide (e0.til < x2.til) then (s_l15Oldest_l0 p0 rs0 (v0_1 : Int) (v0_1 + 1)) else (s_l15Oldest_l0 p0 rs0 v0_0 (v0_1 + 1)))
def s_l15Oldest (p0 : MCache) : Option Int :=
  s_l15Oldest_l0 p0 (p0.l.drop 1) 0 1
/- spec.Keep -/
def s_Keep_j1 (x1 : MCache) (x4 : MEntry) (x6 : Int) (j1_0 : Bool) : Option MCache :=
  bif j1_0 then (bnd1 (idx x1.l x6) (fun x10 => some (MCache.mk x1.cap (x1.l.set x6.toNat x4)))) else (some x1)
def s_Keep_j2 (x1 : MCache) (x4 : MEntry) (j2_0 : List MEntry) : Option MCache :=
  grd ((j2_0 ++ [x4]).length ≤ 1099511627776) (some (MCache.mk x1.cap (j2_0 ++ [x4])))
def s_Keep_j3 (x1 : MCache) (x4 : MEntry) (j3_0 : Bool) : Option MCache :=
  bif j3_0 then (bnd1 (s_l15Oldest x1) (fun x15 => grd (0 ≤ ((0 : Nat) : Int) ∧ ((0 : Nat) : Int) ≤ x15 ∧ x15 ≤ (x1.l.length : Int)) (grd ((([] : List MEntry) ++ ((x1.l.drop (0 + ((0 : Nat) : Int).toNat)).take (x15.toNat - ((0 : Nat) : Int).toNat))).length ≤ 1099511627776) (grd (i64 (x15 + 1)) (grd (0 ≤ x15 + 1 ∧ x15 + 1 ≤ (x1.l.length : Int) ∧ (x1.l.length : Int) ≤ (x1.l.length : Int)) (grd (((([] : List MEntry) ++ ((x1.l.drop (0 + ((0 : Nat) : Int).toNat)).take (x15.toNat - ((0 : Nat) : Int).toNat))) ++ ((x1.l.drop (0 + (x15 + 1).toNat)).take ((x1.l.length : Int).toNat - (x15 + 1).toNat))).length ≤ 1099511627776) (s_Keep_j2 x1 x4 ((([] : List MEntry) ++ ((x1.l.drop (0 + ((0 : Nat) : Int).toNat)).take (x15.toNat - ((0 : Nat) : Int).toNat))) ++ ((x1.l.drop (0 + (x15 + 1).toNat)).take ((x1.l.length : Int).toNat - (x15 + 1).toNat)))))))))) else (s_Keep_j2 x1 x4 x1.l)
def s_Keep_j0 (p0 : MCache) (p1 : Int) (p2 : MEntry) (x1 : MCache) (j0_0 : Bool) : Option MCache :=
  bif j0_0 then (some x1) else (bnd1 (s_l15Entry p2) (fun x4 => bnd1 (s_l15At p0 p2.q) (fun x6 => bif decide (0 ≤ x6) then (bnd1 (idx p0.l x6) (fun x9 => bif decide (x9.rank ≤ p2.rank) then (s_Keep_j1 x1 x4 x6 true) else (bnd1 (s_l15Lives x9 p1) (fun x12 => s_Keep_j1 x1 x4 x6 (!x12))))) else (bif decide (0 < (x1.l.length : Int)) then (s_Keep_j3 x1 x4 (decide (p0.cap ≤ (x1.l.length : Int)))) else (s_Keep_j3 x1 x4 false)))))
def s_Keep (p0 : MCache) (p1 : Int) (p2 : MEntry) : Option MCache :=
  bnd1 (s_l15Copy p0) (fun x1 => bnd1 (s_EntryOk p2) (fun x3 => bif !x3 then (s_Keep_j0 p0 p1 p2 x1 true) else (bnd1 (s_l15Lives p2 p1) (fun x6 => s_Keep_j0 p0 p1 p2 x1 (!x6)))))
/- spec.l15Cache -/
def s_l15Cache_l0  : Nat → (List Int) → Int → Int → Int → (List MEntry) → Int → Option (MCache × Cur)
  | 0, _, _, _, _, _, _ => none
  | f0 + 1, v0_0, v0_1, v0_2, v0_3, v0_4, v0_5 => bif decide (0 < v0_5) then (bnd2 (s_l1Below (Cur.mk v0_0 v0_1 v0_2) 9) (fun x11 x12 => bnd2 (s_l15Draw x12) (fun x14 x15 => bnd1 (s_Keep (MCache.mk v0_3 v0_4) x11 x14) (fun x17 => grd (i64 (v0_5 - 1)) (s_l15Cache_l0 f0 x15.b x15.i x15.h x17.cap x17.l (v0_5 - 1)))))) else (some ((MCache.mk v0_3 v0_4), Cur.mk v0_0 v0_1 v0_2))
def s_l15Cache (p0 : Cur) : Option (MCache × Cur) :=
  bnd2 (s_l1Below p0 6) (fun x1 x2 => grd (i64 (1 + x1)) (bnd1 (s_CacheNew (1 + x1)) (fun x5 => bnd2 (s_l1Below x2 8) (fun x7 x8 => s_l15Cache_l0 fuel0 x8.b x8.i x8.h x5.cap x5.l x7))))
/- spec.l15Any -/
def s_l15Any (p0 : Cur) : Option (MEntry × Cur) :=
  bnd2 (s_l15Draw p0) (fun x1 x2 => bnd2 (s_l1Below x2 10) (fun x4 x5 => bif decide (x4 = 0) then (bnd2 (s_l1Below x5 5) (fun x8 x9 => grd (i64 (x8 - 1)) (some ((MEntry.mk x1.q (x8 - 1) x1.l x1.rank x1.til), x9)))) else (bif decide (x4 = 1) then (bnd2 (s_l1Int x5 [0, 4, 3]) (fun x13 x14 => some ((MEntry.mk x1.q x1.kind x1.l x13 x1.til), x14))) else (bif decide (x4 = 2) then (some ((MEntry.mk x1.q x1.kind x1.l x1.rank (-1)), x5)) else (bif decide (x4 = 3) then (bnd2 (s_l1Int x5 [0, 1, 3]) (fun x18 x19 => some ((MEntry.mk (Quest.mk x1.q.name x18) x1.kind x1.l x1.rank x1.til), x19))) else (bif decide (x4 = 4) then (bnd2 (s_l5Draw x5) (fun x22 x23 => grd ((x1.l ++ [x22]).length ≤ 1099511627776) (some ((MEntry.mk x1.q x1.kind (x1.l ++ [x22]) x1.rank x1.til), x23)))) else (some (x1, x5))))))))
/- spec.l15Bent -/
def s_l15Bent (p0 : Cur) : Option (MCache × Cur) :=
  bnd2 (s_l15Cache p0) (fun x1 x2 => bnd2 (s_l1Below x2 8) (fun x4 x5 => bif decide (x4 = 0) then (bnd2 (s_l1Int x5 [0, 1, 60, 61, (-1)]) (fun x8 x9 => some ((MCache.mk x8 x1.l), x9))) else (bif decide (x4 = 1) then (bnd2 (s_l15Any x5) (fun x12 x13 => grd ((x1.l ++ [x12]).length ≤ 1099511627776) (some ((MCache.mk x1.cap (x1.l ++ [x12])), x13)))) else (bif decide (x4 = 2) then (grd ((x1.l ++ x1.l).length ≤ 1099511627776) (some ((MCache.mk x1.cap (x1.l ++ x1.l)), x5))) else (some (x1, x5))))))
/- spec.l1Once -/
def s_l1Once (p0 : Cur) (p1 : Int) : Option (Bool × Cur) :=
  bnd2 (s_l1Below p0 p1) (fun x1 x2 => some ((decide (x1 = 0)), x2))
/- spec.DrawKeep -/
def s_DrawKeep_j0 (x3 : MCache) (x6 : MEntry) (j0_0 : List Int) (j0_1 : Int) (j0_2 : Int) (j0_3 : ByteArray) (j0_4 : Int) (j0_5 : Int) (j0_6 : List Rec) : Option (MCache × Int × MEntry) :=
  bnd2 (s_l1Below (Cur.mk j0_0 j0_1 j0_2) 30) (fun x9 x10 => some (x3, x9, (MEntry.mk (Quest.mk j0_3 j0_4) j0_5 j0_6 x6.rank x6.til)))
def s_DrawKeep_j1 (x3 : MCache) (x6 : MEntry) (j1_0 : List Int) (j1_1 : Int) (j1_2 : Int) (j1_3 : Bool) : Option (MCache × Int × MEntry) :=
  bif j1_3 then (bnd2 (s_l1Below (Cur.mk j1_0 j1_1 j1_2) (x3.l.length : Int)) (fun x10 x11 => bnd1 (idx x3.l x10) (fun x13 => s_DrawKeep_j0 x3 x6 x11.b x11.i x11.h x13.q.name x13.q.ty 1 ([] : List Rec)))) else (s_DrawKeep_j0 x3 x6 j1_0 j1_1 j1_2 x6.q.name x6.q.ty x6.kind x6.l)
def s_DrawKeep (p0 : List Int) : Option (MCache × Int × MEntry) :=
  bnd1 (s_l1New p0) (fun x1 => bnd2 (s_l15Bent x1) (fun x3 x4 => bnd2 (s_l15Any x4) (fun x6 x7 => bif decide (0 < (x3.l.length : Int)) then (bnd2 (s_l1Once x7 2) (fun x10 x11 => s_DrawKeep_j1 x3 x6 x11.b x11.i x11.h x10)) else (s_DrawKeep_j1 x3 x6 x7.b x7.i x7.h false))))
/- impl.Record] -/
def slices_Clone_Record (p0 : List Rec) : Option (List Rec) :=
  grd ((([] : List Rec) ++ p0).length ≤ 1099511627776) (some (([] : List Rec) ++ p0))
/- impl.copyEntry -/
def i_copyEntry (p0 : MEntry) : Option MEntry :=
  bnd1 (slices_Clone_Record p0.l) (fun x1 => some (MEntry.mk p0.q p0.kind x1 p0.rank p0.til))
/- impl.copyCache -/
def i_copyCache_l0 (p0 : MCache) : List MEntry → (List MEntry) → Nat → Option MCache
  | [], v0_0, v0_1 => some (MCache.mk p0.cap v0_0)
  | e0 :: rs0, v0_0, v0_1 => bnd1 (i_copyEntry e0) (fun x2 => grd ((v0_0 ++ [x2]).length ≤ 1099511627776) (i_copyCache_l0 p0 rs0 (v0_0 ++ [x2]) (v0_1 + 1)))
def i_copyCache (p0 : MCache) : Option MCache :=
  i_copyCache_l0 p0 p0.l ([] : List MEntry) 0
/- stringslite.IndexByte -/
def internal_stringslite_IndexByte (p0 : ByteArray) (p1 : Int) : Option Int :=
  some (Lib.indexByte p0.data.toList p1.toNat.toUInt8)
/- stringslite.Index -/
def internal_stringslite_Index_j0 (p0 : ByteArray) (p1 : ByteArray) (j0_0 : Bool) : Option Int :=
  bif j0_0 then (some 0) else (bif decide ((p1.size : Int) = 1) then (bnd1 (sidx p1 0) (fun x3 => bnd1 (internal_stringslite_IndexByte p0 x3) (fun x5 => some x5))) else (bif decide ((p0.size : Int) ≤ (p1.size : Int)) then (some (-1)) else (none)))
def internal_stringslite_Index (p0 : ByteArray) (p1 : ByteArray) : Option Int :=
  bif decide ((p1.size : Int) = 0) then (internal_stringslite_Index_j0 p0 p1 true) else (internal_stringslite_Index_j0 p0 p1 (decide (p1 = p0)))
/- strings.Index -/
def strings_Index (p0 : ByteArray) (p1 : ByteArray) : Option Int :=
  bnd1 (internal_stringslite_Index p0 p1) (fun x1 => some x1)
/- strings.Count -/
def strings_Count_l0 (p1 : ByteArray) : Nat → ByteArray → Int → Option Int
  | 0, _, _ => none
  | f0 + 1, v0_0, v0_1 => bnd1 (strings_Index v0_0 p1) (fun x5 => bif decide (x5 = (-1)) then (some v0_1) else (grd (i64 (v0_1 + 1)) (grd (i64 (x5 + (p1.size : Int))) (grd (0 ≤ x5 + (p1.size : Int) ∧ x5 + (p1.size : Int) ≤ (v0_0.size : Int) ∧ (v0_0.size : Int) ≤ (v0_0.size : Int)) (strings_Count_l0 p1 f0 (v0_0.extract (x5 + (p1.size : Int)).toNat (v0_0.size : Int).toNat) (v0_1 + 1))))))
def strings_Count (p0 : ByteArray) (p1 : ByteArray) : Option Int :=
  bif decide ((p1.size : Int) = 0) then (none) else (bif decide ((p1.size : Int) = 1) then (bnd1 (sidx p1 0) (fun x3 => some (Lib.countByte p0.data.toList x3.toNat.toUInt8 : Int))) else (strings_Count_l0 p1 fuel0 p0 0))
/- strings.genSplit -/
def strings_genSplit_j1  (j1_0 : ByteArray) (j1_1 : List ByteArray) (j1_2 : Int) : Option (List ByteArray) :=
  bnd1 (idx j1_1 j1_2) (fun x6 => grd (i64 (j1_2 + 1)) (grd (0 ≤ ((0 : Nat) : Int) ∧ ((0 : Nat) : Int) ≤ j1_2 + 1 ∧ j1_2 + 1 ≤ (j1_1.length : Int)) (some (((j1_1.set j1_2.toNat j1_0).drop (0 + ((0 : Nat) : Int).toNat)).take ((j1_2 + 1).toNat - ((0 : Nat) : Int).toNat)))))
def strings_genSplit_l2 (p0 : ByteArray) (p1 : ByteArray) (p2 : Int) (j0_0 : Int) : Nat → ByteArray → (List ByteArray) → Int → Option (List ByteArray)
  | 0, _, _, _ => none
  | f2 + 1, v2_0, v2_1, v2_2 => bif decide (v2_2 < (if (p0.size : Int) + 1 < j0_0 then (p0.size : Int) + 1 else j0_0) - 1) then (bnd1 (strings_Index v2_0 p1) (fun x7 => bif decide (x7 < 0) then (strings_genSplit_j1 v2_0 v2_1 v2_2) else (grd (i64 (x7 + p2)) (grd (0 ≤ ((0 : Nat) : Int) ∧ ((0 : Nat) : Int) ≤ x7 + p2 ∧ x7 + p2 ≤ (v2_0.size : Int)) (bnd1 (idx v2_1 v2_2) (fun x12 => grd (i64 (x7 + (p1.size : Int))) (grd (0 ≤ x7 + (p1.size : Int) ∧ x7 + (p1.size : Int) ≤ (v2_0.size : Int) ∧ (v2_0.size : Int) ≤ (v2_0.size : Int)) (grd (i64 (v2_2 + 1)) (strings_genSplit_l2 p0 p1 p2 j0_0 f2 (v2_0.extract (x7 + (p1.size : Int)).toNat (v2_0.size : Int).toNat) (v2_1.set v2_2.toNat (v2_0.extract ((0 : Nat) : Int).toNat (x7 + p2).toNat)) (v2_2 + 1)))))))))) else (strings_genSplit_j1 v2_0 v2_1 v2_2)
def strings_genSplit_j0 (p0 : ByteArray) (p1 : ByteArray) (p2 : Int) (j0_0 : Int) : Option (List ByteArray) :=
  grd (i64 ((p0.size : Int) + 1)) (grd (0 ≤ (if (p0.size : Int) + 1 < j0_0 then (p0.size : Int) + 1 else j0_0) ∧ (if (p0.size : Int) + 1 < j0_0 then (p0.size : Int) + 1 else j0_0).toNat ≤ 1099511627776) (grd (i64 ((if (p0.size : Int) + 1 < j0_0 then (p0.size : Int) + 1 else j0_0) - 1)) (strings_genSplit_l2 p0 p1 p2 j0_0 fuel0 p0 (List.replicate (if (p0.size : Int) + 1 < j0_0 then (p0.size : Int) + 1 else j0_0).toNat (⟨#[]⟩ : ByteArray)) 0)))
def strings_genSplit (p0 : ByteArray) (p1 : ByteArray) (p2 : Int) (p3 : Int) : Option (List ByteArray) :=
  bif decide (p3 = 0) then (some ([] : List ByteArray)) else (bif decide (p1 = (⟨#[]⟩ : ByteArray)) then (none) else (bif decide (p3 < 0) then (bnd1 (strings_Count p0 p1) (fun x4 => grd (i64 (x4 + 1)) (strings_genSplit_j0 p0 p1 p2 (x4 + 1)))) else (strings_genSplit_j0 p0 p1 p2 p3)))
/- strings.Split -/
def strings_Split (p0 : ByteArray) (p1 : ByteArray) : Option (List ByteArray) :=
  bnd1 (strings_genSplit p0 p1 0 (-1)) (fun x1 => some x1)
/- impl.Labels -/
def i_Labels (p0 : ByteArray) : Option (List ByteArray) :=
  bif decide (p0 = (⟨#[]⟩ : ByteArray)) then (some ([] : List ByteArray)) else (bnd1 (strings_Split p0 (⟨#[46]⟩ : ByteArray)) (fun x2 => some x2))
/- slices.IndexFunc[[]string,string] -/
def slices_IndexFunc_string_l0 (p1 : ByteArray → Option Bool) : List ByteArray → Nat → Option Int
  | [], v0_0 => some (-1)
  | e0 :: rs0, v0_0 => bnd1 (p1 e0) (fun x2 => bif x2 then (some (v0_0 : Int)) else (slices_IndexFunc_string_l0 p1 rs0 (v0_0 + 1)))
def slices_IndexFunc_string (p0 : List ByteArray) (p1 : ByteArray → Option Bool) : Option Int :=
  slices_IndexFunc_string_l0 p1 p0 0
/- slices.ContainsFunc[[]string,string] -/
def slices_ContainsFunc_string (p0 : List ByteArray) (p1 : ByteArray → Option Bool) : Option Bool :=
  bnd1 (slices_IndexFunc_string p0 p1) (fun x1 => some (decide (0 ≤ x1)))
/- impl.LabelOk -/
def i_LabelOk_j0 (p0 : ByteArray) : Option Bool :=
  bif decide (1 ≤ (p0.size : Int)) then (some (decide ((p0.size : Int) ≤ 12))) else (some false)
def i_LabelOk_j2 (v1_0 : Int) (k1 : Int → Option Bool) (j2_0 : Bool) : Option Bool :=
  bif j2_0 then (some false) else (grd (i64 (v1_0 + 1)) (k1 (v1_0 + 1)))
def i_LabelOk_l1 (p0 : ByteArray) : Nat → Int → Option Bool
  | 0, _ => none
  | f1 + 1, v1_0 => bif decide (v1_0 < (p0.size : Int)) then (bnd1 (sidx p0 v1_0) (fun x2 => bif decide (x2 < 97) then (bif decide (x2 < 48) then (bif !decide (x2 = 45) then (i_LabelOk_j2 v1_0 (i_LabelOk_l1 p0 f1) (!decide (x2 = 95))) else (i_LabelOk_j2 v1_0 (i_LabelOk_l1 p0 f1) false)) else (bif decide (57 < x2) then (bif !decide (x2 = 45) then (i_LabelOk_j2 v1_0 (i_LabelOk_l1 p0 f1) (!decide (x2 = 95))) else (i_LabelOk_j2 v1_0 (i_LabelOk_l1 p0 f1) false)) else (i_LabelOk_j2 v1_0 (i_LabelOk_l1 p0 f1) false))) else (bif decide (122 < x2) then (bif decide (x2 < 48) then (bif !decide (x2 = 45) then (i_LabelOk_j2 v1_0 (i_LabelOk_l1 p0 f1) (!decide (x2 = 95))) else (i_LabelOk_j2 v1_0 (i_LabelOk_l1 p0 f1) false)) else (bif decide (57 < x2) then (bif !decide (x2 = 45) then (i_LabelOk_j2 v1_0 (i_LabelOk_l1 p0 f1) (!decide (x2 = 95))) else (i_LabelOk_j2 v1_0 (i_LabelOk_l1 p0 f1) false)) else (i_LabelOk_j2 v1_0 (i_LabelOk_l1 p0 f1) false))) else (i_LabelOk_j2 v1_0 (i_LabelOk_l1 p0 f1) false)))) else (i_LabelOk_j0 p0)
def i_LabelOk (p0 : ByteArray) : Option Bool :=
  i_LabelOk_l1 p0 fuel0 0
/- impl.NameOk$1 -/
def i_NameOk_1 (p0 : ByteArray) : Option Bool :=
  bnd1 (i_LabelOk p0) (fun x1 => some (!x1))
/- impl.NameOk -/
def i_NameOk (p0 : ByteArray) : Option Bool :=
  bnd1 (i_Labels p0) (fun x1 => bif decide ((p0.size : Int) ≤ 50) then (bif decide ((x1.length : Int) ≤ 6) then (bnd1 (slices_ContainsFunc_string x1 (fun a0 => i_NameOk_1 a0)) (fun x5 => some (!x5))) else (some false)) else (some false))
/- impl.TypeText -/
def i_TypeText (p0 : Int) : Option ByteArray :=
  bif decide (p0 = 1) then (some (⟨#[97, 100, 100, 114]⟩ : ByteArray)) else (bif decide (p0 = 2) then (some (⟨#[115, 101, 114, 118, 101, 114]⟩ : ByteArray)) else (bif decide (p0 = 5) then (some (⟨#[97, 108, 105, 97, 115]⟩ : ByteArray)) else (bif decide (p0 = 6) then (some (⟨#[115, 116, 97, 114, 116]⟩ : ByteArray)) else (bif decide (p0 = 16) then (some (⟨#[116, 101, 120, 116]⟩ : ByteArray)) else (some (⟨#[]⟩ : ByteArray))))))
/- impl.TypeOk -/
def i_TypeOk (p0 : Int) : Option Bool :=
  bnd1 (i_TypeText p0) (fun x1 => some (!decide (x1 = (⟨#[]⟩ : ByteArray))))
/- impl.QuestOk -/
def i_QuestOk (p0 : Quest) : Option Bool :=
  bnd1 (i_NameOk p0.name) (fun x1 => bif x1 then (bnd1 (i_TypeOk p0.ty) (fun x4 => some x4)) else (some false))
/- impl.Record] -/
def slices_IndexFunc_Record_l0 (p1 : Rec → Option Bool) : List Rec → Nat → Option Int
  | [], v0_0 => some (-1)
  | e0 :: rs0, v0_0 => bnd1 (p1 e0) (fun x2 => bif x2 then (some (v0_0 : Int)) else (slices_IndexFunc_Record_l0 p1 rs0 (v0_0 + 1)))
def slices_IndexFunc_Record (p0 : List Rec) (p1 : Rec → Option Bool) : Option Int :=
  slices_IndexFunc_Record_l0 p1 p0 0
/- impl.Record] -/
def slices_ContainsFunc_Record (p0 : List Rec) (p1 : Rec → Option Bool) : Option Bool :=
  bnd1 (slices_IndexFunc_Record p0 p1) (fun x1 => some (decide (0 ≤ x1)))
/- impl.isTtl -/
def i_isTtl (p0 : Int) : Option Bool :=
  bif decide (0 ≤ p0) then (some (decide (p0 ≤ 100000))) else (some false)
/- impl.isFour -/
def i_isFour (p0 : Int) : Option Bool :=
  bif decide (0 ≤ p0) then (some (decide (p0 ≤ 2147483647))) else (some false)
/- impl.isText -/
def i_isText_j0 (p0 : ByteArray) : Option Bool :=
  some (decide ((p0.size : Int) ≤ 12))
def i_isText_j2 (v1_0 : Int) (k1 : Int → Option Bool) (j2_0 : Bool) : Option Bool :=
  bif j2_0 then (some false) else (grd (i64 (v1_0 + 1)) (k1 (v1_0 + 1)))
def i_isText_l1 (p0 : ByteArray) : Nat → Int → Option Bool
  | 0, _ => none
  | f1 + 1, v1_0 => bif decide (v1_0 < (p0.size : Int)) then (bnd1 (sidx p0 v1_0) (fun x2 => bif decide (x2 < 33) then (i_isText_j2 v1_0 (i_isText_l1 p0 f1) true) else (bnd1 (sidx p0 v1_0) (fun x5 => i_isText_j2 v1_0 (i_isText_l1 p0 f1) (decide (126 < x5)))))) else (i_isText_j0 p0)
def i_isText (p0 : ByteArray) : Option Bool :=
  i_isText_l1 p0 fuel0 0
/- impl.RecordOk -/
def i_RecordOk_j1 (p0 : Rec) (j1_0 : Bool) : Option Bool :=
  bif j1_0 then (bif decide (p0.n = 0) then (bnd1 (i_NameOk p0.host) (fun x9 => bif x9 then (some (decide (p0.text = (⟨#[]⟩ : ByteArray)))) else (some false))) else (some false)) else (bif decide (p0.ty = 6) then (bnd1 (i_isTtl p0.n) (fun x13 => bif x13 then (bnd1 (i_NameOk p0.host) (fun x16 => bif x16 then (some (decide (p0.text = (⟨#[]⟩ : ByteArray)))) else (some false))) else (some false))) else (bif decide (p0.ty = 16) then (bif decide (p0.n = 0) then (bif decide (p0.host = (⟨#[]⟩ : ByteArray)) then (bnd1 (i_isText p0.text) (fun x22 => some x22)) else (some false)) else (some false)) else (some false)))
def i_RecordOk_j0 (p0 : Rec) (j0_0 : Bool) : Option Bool :=
  bif j0_0 then (some false) else (bif decide (p0.ty = 1) then (bnd1 (i_isFour p0.n) (fun x3 => bif x3 then (bif decide (p0.host = (⟨#[]⟩ : ByteArray)) then (some (decide (p0.text = (⟨#[]⟩ : ByteArray)))) else (some false)) else (some false))) else (bif decide (p0.ty = 2) then (i_RecordOk_j1 p0 (decide (p0.ty = 2))) else (i_RecordOk_j1 p0 (decide (p0.ty = 5)))))
def i_RecordOk (p0 : Rec) : Option Bool :=
  bnd1 (i_NameOk p0.name) (fun x1 => bif !x1 then (i_RecordOk_j0 p0 true) else (bnd1 (i_isTtl p0.ttl) (fun x4 => i_RecordOk_j0 p0 (!x4))))
/- impl.allOk$1 -/
def i_allOk_1 (p0 : Rec) : Option Bool :=
  bnd1 (i_RecordOk p0) (fun x1 => some (!x1))
/- impl.allOk -/
def i_allOk (p0 : List Rec) (p1 : Int) : Option Bool :=
  bif decide ((p0.length : Int) ≤ p1) then (bnd1 (slices_ContainsFunc_Record p0 (fun a0 => i_allOk_1 a0)) (fun x2 => some (!x2))) else (some false)
/- impl.SetOf -/
def i_SetOf_j1 (v0_0 : List Rec) (v0_1 : Nat) (e0 : Rec) (k0 : (List Rec) → Nat → Option (List Rec)) (j1_0 : Bool) : Option (List Rec) :=
  bif j1_0 then (grd ((v0_0 ++ [e0]).length ≤ 1099511627776) (k0 (v0_0 ++ [e0]) (v0_1 + 1))) else (k0 v0_0 (v0_1 + 1))
def i_SetOf_l0 (p1 : ByteArray) (p2 : Int) : List Rec → (List Rec) → Nat → Option (List Rec)
  | [], v0_0, v0_1 => some v0_0
  | e0 :: rs0, v0_0, v0_1 => bif decide (e0.name = p1) then (i_SetOf_j1 v0_0 v0_1 e0 (i_SetOf_l0 p1 p2 rs0) (decide (e0.ty = p2))) else (i_SetOf_j1 v0_0 v0_1 e0 (i_SetOf_l0 p1 p2 rs0) false)
def i_SetOf (p0 : List Rec) (p1 : ByteArray) (p2 : Int) : Option (List Rec) :=
  i_SetOf_l0 p1 p2 p0 ([] : List Rec) 0
/- impl.EntryOk -/
def i_EntryOk_j0 (p0 : MEntry) (j0_0 : Bool) : Option Bool :=
  bif j0_0 then (some false) else (bif decide (p0.kind = 0) then (bnd1 (i_QuestOk p0.q) (fun x3 => bif x3 then (bif decide (0 < (p0.l.length : Int)) then (bnd1 (i_allOk p0.l 8) (fun x7 => bif x7 then (bnd1 (i_SetOf p0.l p0.q.name p0.q.ty) (fun x10 => some (decide ((x10.length : Int) = (p0.l.length : Int))))) else (some false))) else (some false)) else (some false))) else (bif decide (p0.kind = 1) then (bnd1 (i_QuestOk p0.q) (fun x13 => bif x13 then (some (decide ((p0.l.length : Int) = 0))) else (some false))) else (bif decide (p0.kind = 2) then (bnd1 (i_NameOk p0.q.name) (fun x17 => bif x17 then (bif decide (p0.q.ty = 0) then (some (decide ((p0.l.length : Int) = 0))) else (some false)) else (some false))) else (some false))))
def i_EntryOk (p0 : MEntry) : Option Bool :=
  bif decide (p0.rank < 1) then (i_EntryOk_j0 p0 true) else (bif decide (3 < p0.rank) then (i_EntryOk_j0 p0 true) else (i_EntryOk_j0 p0 (decide (p0.til < 0))))
/- impl.Entry] -/
def slices_IndexFunc_Entry_l0 (p1 : MEntry → Option Bool) : List MEntry → Nat → Option Int
  | [], v0_0 => some (-1)
  | e0 :: rs0, v0_0 => bnd1 (p1 e0) (fun x2 => bif x2 then (some (v0_0 : Int)) else (slices_IndexFunc_Entry_l0 p1 rs0 (v0_0 + 1)))
def slices_IndexFunc_Entry (p0 : List MEntry) (p1 : MEntry → Option Bool) : Option Int :=
  slices_IndexFunc_Entry_l0 p1 p0 0
/- impl.Keep$1 -/
def i_Keep_1 (p0 : MEntry) (p1 : MEntry) : Option Bool :=
  some (decide (p0.q.name = p1.q.name) && (decide (p0.q.ty = p1.q.ty) && true))
/- impl.Entry] -/
def slices_Delete_Entry (p0 : List MEntry) (p1 : Int) (p2 : Int) : Option ((List MEntry) × (List MEntry)) :=
  grd (0 ≤ p1 ∧ p1 ≤ p2 ∧ p2 ≤ (p0.length : Int) ∧ (p0.length : Int) ≤ (p0.length : Int)) (bif decide (p1 = p2) then (some (p0, p0)) else (grd (0 ≤ ((0 : Nat) : Int) ∧ ((0 : Nat) : Int) ≤ p1 ∧ p1 ≤ (p0.length : Int)) (grd (0 ≤ p2 ∧ p2 ≤ (p0.length : Int) ∧ (p0.length : Int) ≤ (p0.length : Int)) (grd ((p1.toNat - ((0 : Nat) : Int).toNat) + ((p0.drop (0 + p2.toNat)).take ((p0.length : Int).toNat - p2.toNat)).length ≤ p0.length) (grd (0 ≤ (((p1.toNat - ((0 : Nat) : Int).toNat) + ((p0.drop (0 + p2.toNat)).take ((p0.length : Int).toNat - p2.toNat)).length : Nat) : Int) ∧ (((p1.toNat - ((0 : Nat) : Int).toNat) + ((p0.drop (0 + p2.toNat)).take ((p0.length : Int).toNat - p2.toNat)).length : Nat) : Int) ≤ (p0.length : Int) ∧ ((0 : Nat) : Int) + (p0.length : Int) ≤ ((p0.take (p1.toNat - ((0 : Nat) : Int).toNat) ++ ((p0.drop (0 + p2.toNat)).take ((p0.length : Int).toNat - p2.toNat)) ++ p0.drop ((p1.toNat - ((0 : Nat) : Int).toNat) + ((p0.drop (0 + p2.toNat)).take ((p0.length : Int).toNat - p2.toNat)).length)).length : Int)) (some (((p0.take (p1.toNat - ((0 : Nat) : Int).toNat) ++ ((p0.drop (0 + p2.toNat)).take ((p0.length : Int).toNat - p2.toNat)) ++ p0.drop ((p1.toNat - ((0 : Nat) : Int).toNat) + ((p0.drop (0 + p2.toNat)).take ((p0.length : Int).toNat - p2.toNat)).length)).take (0 + (((p1.toNat - ((0 : Nat) : Int).toNat) + ((p0.drop (0 + p2.toNat)).take ((p0.length : Int).toNat - p2.toNat)).length : Nat) : Int).toNat)), (p0.take (p1.toNat - ((0 : Nat) : Int).toNat) ++ ((p0.drop (0 + p2.toNat)).take ((p0.length : Int).toNat - p2.toNat)) ++ p0.drop ((p1.toNat - ((0 : Nat) : Int).toNat) + ((p0.drop (0 + p2.toNat)).take ((p0.length : Int).toNat - p2.toNat)).length)).take (0 + (((p1.toNat - ((0 : Nat) : Int).toNat) + ((p0.drop (0 + p2.toNat)).take ((p0.length : Int).toNat - p2.toNat)).length : Nat) : Int).toNat))))))))
/- impl.Entry] -/
def i_dropFirst_Entry_j0 (p0 : List MEntry) (j0_0 : Int) : Option ((List MEntry) × (List MEntry)) :=
  bif decide ((p0.length : Int) = 0) then (some (p0, p0)) else (grd (i64 (j0_0 + 1)) (bnd2 (slices_Delete_Entry p0 j0_0 (j0_0 + 1)) (fun x3 x4 => some (x4, x4))))
def i_dropFirst_Entry_l1 (p0 : List MEntry) (p1 : MEntry → Option Int) : List MEntry → Int → Nat → Option ((List MEntry) × (List MEntry))
  | [], v1_0, v1_1 => i_dropFirst_Entry_j0 p0 v1_0
  | e1 :: rs1, v1_0, v1_1 => bnd1 (p1 e1) (fun x2 => bnd1 (idx p0 v1_0) (fun x4 => bnd1 (p1 x4) (fun x6 => bif decide (x2 < x6) then (i_dropFirst_Entry_l1 p0 p1 rs1 (v1_1 : Int) (v1_1 + 1)) else (i_dropFirst_Entry_l1 p0 p1 rs1 v1_0 (v1_1 + 1)))))
def i_dropFirst_Entry (p0 : List MEntry) (p1 : MEntry → Option Int) : Option ((List MEntry) × (List MEntry)) :=
  i_dropFirst_Entry_l1 p0 p1 p0 0 0
/- impl.Keep$2 -/
def i_Keep_2 (p0 : MEntry) : Option Int :=
  some p0.til
/- impl.Keep -/
def i_Keep_j1 (x1 : MCache) (x4 : MEntry) (x6 : Int) (j1_0 : Bool) : Option MCache :=
  bif j1_0 then (bnd1 (idx x1.l x6) (fun x10 => some (MCache.mk x1.cap (x1.l.set x6.toNat (MEntry.mk (Quest.mk x4.q.name x4.q.ty) x4.kind x4.l x4.rank x4.til))))) else (some (MCache.mk x1.cap x1.l))
def i_Keep_j2 (x1 : MCache) (x4 : MEntry) (j2_0 : List MEntry) : Option MCache :=
  grd ((j2_0 ++ [MEntry.mk (Quest.mk x4.q.name x4.q.ty) x4.kind x4.l x4.rank x4.til]).length ≤ 1099511627776) (some (MCache.mk x1.cap (j2_0 ++ [MEntry.mk (Quest.mk x4.q.name x4.q.ty) x4.kind x4.l x4.rank x4.til])))
def i_Keep_j0 (p1 : Int) (p2 : MEntry) (x1 : MCache) (j0_0 : Bool) : Option MCache :=
  bif j0_0 then (some (MCache.mk x1.cap x1.l)) else (bnd1 (i_copyEntry (MEntry.mk (Quest.mk p2.q.name p2.q.ty) p2.kind p2.l p2.rank p2.til)) (fun x4 => bnd1 (slices_IndexFunc_Entry x1.l (fun a0 => i_Keep_1 a0 (MEntry.mk (Quest.mk x4.q.name x4.q.ty) x4.kind x4.l x4.rank x4.til))) (fun x6 => bif decide (0 ≤ x6) then (bnd1 (idx x1.l x6) (fun x9 => bif decide (x9.rank ≤ x4.rank) then (i_Keep_j1 x1 x4 x6 true) else (i_Keep_j1 x1 x4 x6 (decide (x9.til ≤ p1))))) else (bif decide (x1.cap ≤ (x1.l.length : Int)) then (bnd2 (i_dropFirst_Entry x1.l (fun a0 => i_Keep_2 a0)) (fun x13 x14 => i_Keep_j2 x1 x4 x14)) else (i_Keep_j2 x1 x4 x1.l)))))
def i_Keep (p0 : MCache) (p1 : Int) (p2 : MEntry) : Option MCache :=
  bnd1 (i_copyCache (MCache.mk p0.cap p0.l)) (fun x1 => bnd1 (i_EntryOk (MEntry.mk (Quest.mk p2.q.name p2.q.ty) p2.kind p2.l p2.rank p2.til)) (fun x3 => bif !x3 then (i_Keep_j0 p1 p2 x1 true) else (i_Keep_j0 p1 p2 x1 (decide (p2.til ≤ p1)))))
/- laws.sameRecs -/
def w_sameRecs_l0 (p1 : List Rec) : List Rec → Nat → Option Bool
  | [], v0_0 => some true
  | e0 :: rs0, v0_0 => bnd1 (idx p1 (v0_0 : Int)) (fun x3 => bif !(decide (e0.name = x3.name) && (decide (e0.ty = x3.ty) && (decide (e0.ttl = x3.ttl) && (decide (e0.n = x3.n) && (decide (e0.host = x3.host) && (decide (e0.text = x3.text) && true)))))) then (some false) else (w_sameRecs_l0 p1 rs0 (v0_0 + 1)))
def w_sameRecs (p0 : List Rec) (p1 : List Rec) : Option Bool :=
  bif !decide ((p0.length : Int) = (p1.length : Int)) then (some false) else (w_sameRecs_l0 p1 p0 0)
/- laws.sameEntry -/
def w_sameEntry (p0 : MEntry) (p1 : MEntry) : Option Bool :=
  bif (decide (p0.q.name = p1.q.name) && (decide (p0.q.ty = p1.q.ty) && true)) then (bif decide (p0.kind = p1.kind) then (bif decide (p0.rank = p1.rank) then (bif decide (p0.til = p1.til) then (bnd1 (w_sameRecs p0.l p1.l) (fun x5 => some x5)) else (some false)) else (some false)) else (some false)) else (some false)
/- laws.sameCache -/
def w_sameCache_l1 (p1 : MCache) : List MEntry → Nat → Option Bool
  | [], v1_0 => some true
  | e1 :: rs1, v1_0 => bnd1 (idx p1.l (v1_0 : Int)) (fun x3 => bnd1 (w_sameEntry e1 x3) (fun x5 => bif !x5 then (some false) else (w_sameCache_l1 p1 rs1 (v1_0 + 1))))
def w_sameCache_j0 (p0 : MCache) (p1 : MCache) (j0_0 : Bool) : Option Bool :=
  bif j0_0 then (some false) else (w_sameCache_l1 p1 p0.l 0)
def w_sameCache (p0 : MCache) (p1 : MCache) : Option Bool :=
  bif !decide (p0.cap = p1.cap) then (w_sameCache_j0 p0 p1 true) else (w_sameCache_j0 p0 p1 (!decide ((p0.l.length : Int) = (p1.l.length : Int))))
/- impl.Entry] -/
def slices_ContainsFunc_Entry (p0 : List MEntry) (p1 : MEntry → Option Bool) : Option Bool :=
  bnd1 (slices_IndexFunc_Entry p0 p1) (fun x1 => some (decide (0 ≤ x1)))
/- impl.CacheOk$1 -/
def i_CacheOk_1 (p0 : MEntry) (p1 : MEntry) : Option Bool :=
  some (decide (p0.q.name = p1.q.name) && (decide (p0.q.ty = p1.q.ty) && true))
/- impl.CacheOk -/
def i_CacheOk_j2 (v1_0 : Nat) (k1 : Nat → Option Bool) (j2_0 : Bool) : Option Bool :=
  bif j2_0 then (some false) else (k1 (v1_0 + 1))
def i_CacheOk_l1 (p0 : MCache) : List MEntry → Nat → Option Bool
  | [], v1_0 => some true
  | e1 :: rs1, v1_0 => bnd1 (i_EntryOk e1) (fun x3 => bif !x3 then (i_CacheOk_j2 v1_0 (i_CacheOk_l1 p0 rs1) true) else (grd (0 ≤ ((0 : Nat) : Int) ∧ ((0 : Nat) : Int) ≤ (v1_0 : Int) ∧ (v1_0 : Int) ≤ (p0.l.length : Int)) (bnd1 (slices_ContainsFunc_Entry ((p0.l.drop ((0 : Nat) : Int).toNat).take ((v1_0 : Int).toNat - ((0 : Nat) : Int).toNat)) (fun a0 => i_CacheOk_1 a0 e1)) (fun x7 => i_CacheOk_j2 v1_0 (i_CacheOk_l1 p0 rs1) x7))))
def i_CacheOk_j0 (p0 : MCache) (j0_0 : Bool) : Option Bool :=
  bif j0_0 then (some false) else (i_CacheOk_l1 p0 p0.l 0)
def i_CacheOk (p0 : MCache) : Option Bool :=
  bif decide (p0.cap < 1) then (i_CacheOk_j0 p0 true) else (bif decide (60 < p0.cap) then (i_CacheOk_j0 p0 true) else (i_CacheOk_j0 p0 (decide (p0.cap < (p0.l.length : Int)))))
/- impl.WithTtl -/
def i_WithTtl_l0 (p1 : Int) : List Rec → (List Rec) → Nat → Option (List Rec)
  | [], v0_0, v0_1 => some v0_0
  | e0 :: rs0, v0_0, v0_1 => bnd1 (idx v0_0 (v0_1 : Int)) (fun x4 => i_WithTtl_l0 p1 rs0 (v0_0.set ((v0_1 : Int).toNat) (Rec.mk x4.name x4.ty p1 x4.n x4.host x4.text)) (v0_1 + 1))
def i_WithTtl (p0 : List Rec) (p1 : Int) : Option (List Rec) :=
  bnd1 (slices_Clone_Record p0) (fun x1 => i_WithTtl_l0 p1 x1 x1 0)
/- impl.Look -/
def i_Look_j0  : Option (MEntry × Bool) :=
  some ((MEntry.mk (Quest.mk (⟨#[]⟩ : ByteArray) 0) 0 ([] : List Rec) 0 0), false)
def i_Look_j3 (x2 : MEntry) (j3_0 : Int) : Option (MEntry × Bool) :=
  bnd1 (i_WithTtl x2.l j3_0) (fun x5 => some ((MEntry.mk x2.q x2.kind x5 x2.rank x2.til), true))
def i_Look_j4 (p1 : Int) (x2 : MEntry) (j4_0 : Bool) : Option (MEntry × Bool) :=
  bif j4_0 then (i_Look_j3 x2 100000) else (i_Look_j3 x2 (IntKind.i64.wrap (x2.til - p1)))
def i_Look_j2 (p1 : Int) (v1_0 : Int) (x2 : MEntry) (k1 : Int → Option (MEntry × Bool)) (j2_0 : Bool) : Option (MEntry × Bool) :=
  bif j2_0 then (k1 (IntKind.i64.wrap (v1_0 + 1))) else (bif decide (IntKind.i64.wrap (x2.til - p1) < 0) then (i_Look_j4 p1 x2 true) else (i_Look_j4 p1 x2 (decide (100000 < IntKind.i64.wrap (x2.til - p1)))))
def i_Look_l1 (p0 : MCache) (p1 : Int) (p2 : Quest) (p3 : Int) : Nat → Int → Option (MEntry × Bool)
  | 0, _ => none
  | f1 + 1, v1_0 => bif decide (v1_0 < (p0.l.length : Int)) then (bnd1 (idx p0.l v1_0) (fun x2 => bif !(decide (x2.q.name = p2.name) && (decide (x2.q.ty = p2.ty) && true)) then (i_Look_j2 p1 v1_0 x2 (i_Look_l1 p0 p1 p2 p3 f1) true) else (bif decide (x2.rank < p3) then (i_Look_j2 p1 v1_0 x2 (i_Look_l1 p0 p1 p2 p3 f1) true) else (i_Look_j2 p1 v1_0 x2 (i_Look_l1 p0 p1 p2 p3 f1) (decide (x2.til ≤ p1)))))) else (i_Look_j0)
def i_Look (p0 : MCache) (p1 : Int) (p2 : Quest) (p3 : Int) : Option (MEntry × Bool) :=
  i_Look_l1 p0 p1 p2 p3 fuel0 0
/- impl.Record] -/
def slices_Index_Record_l0 (p1 : Rec) : List Rec → Nat → Option Int
  | [], v0_0 => some (-1)
  | e0 :: rs0, v0_0 => bif (decide (p1.name = e0.name) && (decide (p1.ty = e0.ty) && (decide (p1.ttl = e0.ttl) && (decide (p1.n = e0.n) && (decide (p1.host = e0.host) && (decide (p1.text = e0.text) && true)))))) then (some (v0_0 : Int)) else (slices_Index_Record_l0 p1 rs0 (v0_0 + 1))
def slices_Index_Record (p0 : List Rec) (p1 : Rec) : Option Int :=
  slices_Index_Record_l0 p1 p0 0
/- impl.Record] -/
def slices_Contains_Record (p0 : List Rec) (p1 : Rec) : Option Bool :=
  bnd1 (slices_Index_Record p0 p1) (fun x1 => some (decide (0 ≤ x1)))
/- impl.within$1 -/
def i_within_1 (p0 : Rec) (p1 : List Rec) : Option Bool :=
  bnd1 (slices_Contains_Record p1 p0) (fun x1 => some (!x1))
/- impl.within -/
def i_within (p0 : List Rec) (p1 : List Rec) : Option Bool :=
  bnd1 (i_WithTtl p0 0) (fun x1 => bnd1 (i_WithTtl p1 0) (fun x3 => bnd1 (slices_ContainsFunc_Record x1 (fun a0 => i_within_1 a0 x3)) (fun x5 => some (!x5))))
/- impl.SameData -/
def i_SameData (p0 : List Rec) (p1 : List Rec) : Option Bool :=
  bnd1 (i_within p0 p1) (fun x1 => bif x1 then (bnd1 (i_within p1 p0) (fun x4 => some x4)) else (some false))
/- laws.FnKeeps -/
def w_FnKeeps_j2 (x4 : MCache) (x5 : Int) (x6 : MEntry) (x8 : MCache) (x17 : MEntry) (x18 : Bool) (x21 : Bool) (j2_0 : Bool) : Option Bool :=
  bif j2_0 then (some false) else (grd (i64 (x6.rank + 1)) (bnd2 (i_Look x4 x5 x6.q (x6.rank + 1)) (fun x25 x26 => bif x26 then (grd (i64 (x6.rank + 1)) (bnd2 (i_Look x8 x5 x6.q (x6.rank + 1)) (fun x30 x31 => bnd1 (w_sameEntry x30 x25) (fun x33 => bif x33 then (some x31) else (some false))))) else (bif x18 then (bif decide (x17.kind = x6.kind) then (bnd1 (i_SameData x17.l x6.l) (fun x38 => bif x38 then (bif decide (x17.til = x6.til) then (some (!x21)) else (some false)) else (some false))) else (some false)) else (some false)))))
def w_FnKeeps_j1 (x4 : MCache) (x5 : Int) (x6 : MEntry) (x8 : MCache) (j1_0 : Bool) : Option Bool :=
  bif j1_0 then (bnd1 (w_sameCache x8 x4) (fun x12 => some x12)) else (bnd1 (i_CacheOk x4) (fun x14 => bif !x14 then (some true) else (bnd2 (i_Look x8 x5 x6.q x6.rank) (fun x17 x18 => bnd2 (i_Look x8 x6.til x6.q x6.rank) (fun x20 x21 => bnd1 (i_CacheOk x8) (fun x23 => bif !x23 then (w_FnKeeps_j2 x4 x5 x6 x8 x17 x18 x21 true) else (grd (i64 ((x4.l.length : Int) + 1)) (bif decide ((x4.l.length : Int) + 1 < (x8.l.length : Int)) then (w_FnKeeps_j2 x4 x5 x6 x8 x17 x18 x21 true) else (w_FnKeeps_j2 x4 x5 x6 x8 x17 x18 x21 (decide (x4.cap < (x8.l.length : Int))))))))))))
def w_FnKeeps_j0 (x4 : MCache) (x5 : Int) (x6 : MEntry) (x8 : MCache) (j0_0 : Bool) : Option Bool :=
  bif j0_0 then (some false) else (bnd1 (i_EntryOk x6) (fun x11 => bif !x11 then (w_FnKeeps_j1 x4 x5 x6 x8 true) else (w_FnKeeps_j1 x4 x5 x6 x8 (decide (x6.til ≤ x5)))))
def w_FnKeeps (p0 : List Int) : Option Bool :=
  bnd1 (w_big p0) (fun x1 => bif x1 then (some true) else (bnd3 (s_DrawKeep p0) (fun x4 x5 x6 => bnd1 (i_Keep x4 x5 x6) (fun x8 => bnd1 (s_Keep x4 x5 x6) (fun x10 => bnd1 (w_sameCache x8 x10) (fun x12 => bif !x12 then (w_FnKeeps_j0 x4 x5 x6 x8 true) else (bnd1 (i_EntryOk x6) (fun x15 => bnd1 (s_EntryOk x6) (fun x17 => w_FnKeeps_j0 x4 x5 x6 x8 (!(x15 == x17)))))))))))
end Go.Abs.M
