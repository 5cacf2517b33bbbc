/- The functions that the law of Keep reaches, as pure functions that may fail. -/
import Derived.Test.YtcdpmfnjajjlkaaDoorAbsN
namespace Go.Abs.M
open Go Go.Abs
structure Quest where
  name : ByteArray
  ty : Int
  deriving DecidableEq
def questV (r : Quest) : List V := [.sc (.string r.name), .sc (.int .i64 r.ty)]
theorem questV_free (r : Quest) : (questV r).all (·.free) = true := rfl
theorem questV_len (r : Quest) : (questV r).length = 2 := rfl
def Quest.ok (r : Quest) : Prop := r.name.size ≤ 9223372036854775807 ∧ i64 r.ty
theorem questV_sc (r : Quest) : (questV r).all isScN = true := rfl
structure Rec where
  name : ByteArray
  ty : Int
  ttl : Int
  n : Int
  host : ByteArray
  text : ByteArray
  deriving DecidableEq
def recV (r : Rec) : List V := [.sc (.string r.name), .sc (.int .i64 r.ty), .sc (.int .i64 r.ttl), .sc (.int .i64 r.n), .sc (.string r.host), .sc (.string r.text)]
theorem recV_free (r : Rec) : (recV r).all (·.free) = true := rfl
theorem recV_len (r : Rec) : (recV r).length = 6 := rfl
def Rec.ok (r : Rec) : Prop := r.name.size ≤ 9223372036854775807 ∧ i64 r.ty ∧ i64 r.ttl ∧ i64 r.n ∧ r.host.size ≤ 9223372036854775807 ∧ r.text.size ≤ 9223372036854775807
theorem recV_sc (r : Rec) : (recV r).all isScN = true := rfl
structure MEntry where
  q : Quest
  kind : Int
  l : List Rec
  rank : Int
  til : Int
  deriving DecidableEq
def mEntryV (r : MEntry) : List V := [.sc (.string r.q.name), .sc (.int .i64 r.q.ty), .sc (.int .i64 r.kind), .lst 6 (List.map recV r.l), .sc (.int .i64 r.rank), .sc (.int .i64 r.til)]
theorem mEntryV_free (r : MEntry) : (mEntryV r).all (·.free) = true := rfl
theorem mEntryV_len (r : MEntry) : (mEntryV r).length = 6 := rfl
def MEntry.ok (r : MEntry) : Prop := r.q.ok ∧ i64 r.kind ∧ (r.l.length ≤ 9223372036854775807 ∧ ∀ q, q ∈ r.l → q.ok) ∧ i64 r.rank ∧ i64 r.til
structure MCache where
  cap : Int
  l : List MEntry
  deriving DecidableEq
def mCacheV (r : MCache) : List V := [.sc (.int .i64 r.cap), .lst 6 (List.map mEntryV r.l)]
theorem mCacheV_free (r : MCache) : (mCacheV r).all (·.free) = true := rfl
theorem mCacheV_len (r : MCache) : (mCacheV r).length = 2 := rfl
def MCache.ok (r : MCache) : Prop := i64 r.cap ∧ (r.l.length ≤ 9223372036854775807 ∧ ∀ q, q ∈ r.l → q.ok)
/- laws.szQuest -/
def w_szQuest (p0 : Quest) (p1 : Int) : Option Int :=
  grd (i64 (p1 - (p0.name.size : Int))) (bif decide (p1 - (p0.name.size : Int) < 0) then (some (-1)) else (some (p1 - (p0.name.size : Int))))
/- laws.szRecord -/
def w_szRecord (p0 : Rec) (p1 : Int) : Option Int :=
  grd (i64 (p1 - (p0.name.size : Int))) (bif decide (p1 - (p0.name.size : Int) < 0) then (some (-1)) else (grd (i64 ((p1 - (p0.name.size : Int)) - (p0.host.size : Int))) (bif decide ((p1 - (p0.name.size : Int)) - (p0.host.size : Int) < 0) then (some (-1)) else (grd (i64 (((p1 - (p0.name.size : Int)) - (p0.host.size : Int)) - (p0.text.size : Int))) (bif decide (((p1 - (p0.name.size : Int)) - (p0.host.size : Int)) - (p0.text.size : Int) < 0) then (some (-1)) else (some (((p1 - (p0.name.size : Int)) - (p0.host.size : Int)) - (p0.text.size : Int))))))))
/- laws.szRecordS -/
def w_szRecordS_l0  : List Rec → Int → Nat → Option Int
  | [], v0_0, v0_1 => some v0_0
  | e0 :: rs0, v0_0, v0_1 => bnd1 (w_szRecord e0 v0_0) (fun x4 => bif decide (x4 < 0) then (some (-1)) else (w_szRecordS_l0 rs0 x4 (v0_1 + 1)))
def w_szRecordS (p0 : List Rec) (p1 : Int) : Option Int :=
  grd (i64 (p1 - (p0.length : Int))) (bif decide (p1 - (p0.length : Int) < 0) then (some (-1)) else (w_szRecordS_l0 p0 (p1 - (p0.length : Int)) 0))
/- laws.szEntry -/
def w_szEntry (p0 : MEntry) (p1 : Int) : Option Int :=
  bnd1 (w_szQuest p0.q p1) (fun x1 => bif decide (x1 < 0) then (some (-1)) else (bnd1 (w_szRecordS p0.l x1) (fun x4 => bif decide (x4 < 0) then (some (-1)) else (some x4))))
/- laws.szEntryS -/
def w_szEntryS_l0  : List MEntry → Int → Nat → Option Int
  | [], v0_0, v0_1 => some v0_0
  | e0 :: rs0, v0_0, v0_1 => bnd1 (w_szEntry e0 v0_0) (fun x4 => bif decide (x4 < 0) then (some (-1)) else (w_szEntryS_l0 rs0 x4 (v0_1 + 1)))
def w_szEntryS (p0 : List MEntry) (p1 : Int) : Option Int :=
  grd (i64 (p1 - (p0.length : Int))) (bif decide (p1 - (p0.length : Int) < 0) then (some (-1)) else (w_szEntryS_l0 p0 (p1 - (p0.length : Int)) 0))
/- laws.szCache -/
def w_szCache (p0 : MCache) (p1 : Int) : Option Int :=
  bnd1 (w_szEntryS p0.l p1) (fun x1 => bif decide (x1 < 0) then (some (-1)) else (some x1))
/- laws.toQuest -/
def w_toQuest (p0 : Quest) : Option Quest :=
  some p0
/- laws.toRecord -/
def w_toRecord (p0 : Rec) : Option Rec :=
  some p0
/- laws.toRecordS -/
def w_toRecordS_l0  : List Rec → (List Rec) → Nat → Option (List Rec)
  | [], v0_0, v0_1 => some v0_0
  | e0 :: rs0, v0_0, v0_1 => bnd1 (w_toRecord e0) (fun x3 => bnd1 (idx v0_0 (v0_1 : Int)) (fun x5 => w_toRecordS_l0 rs0 (v0_0.set ((v0_1 : Int).toNat) x3) (v0_1 + 1)))
def w_toRecordS (p0 : List Rec) : Option (List Rec) :=
  grd (0 ≤ (p0.length : Int) ∧ (p0.length : Int).toNat ≤ 1099511627776) (w_toRecordS_l0 p0 (List.replicate (p0.length : Int).toNat (Rec.mk (⟨#[]⟩ : ByteArray) 0 0 0 (⟨#[]⟩ : ByteArray) (⟨#[]⟩ : ByteArray))) 0)
/- laws.toEntry -/
def w_toEntry (p0 : MEntry) : Option MEntry :=
  bnd1 (w_toQuest p0.q) (fun x1 => bnd1 (w_toRecordS p0.l) (fun x3 => some (MEntry.mk x1 p0.kind x3 p0.rank p0.til)))
/- laws.toEntryS -/
def w_toEntryS_l0  : List MEntry → (List MEntry) → Nat → Option (List MEntry)
  | [], v0_0, v0_1 => some v0_0
  | e0 :: rs0, v0_0, v0_1 => bnd1 (w_toEntry e0) (fun x3 => bnd1 (idx v0_0 (v0_1 : Int)) (fun x5 => w_toEntryS_l0 rs0 (v0_0.set ((v0_1 : Int).toNat) x3) (v0_1 + 1)))
def w_toEntryS (p0 : List MEntry) : Option (List MEntry) :=
  grd (0 ≤ (p0.length : Int) ∧ (p0.length : Int).toNat ≤ 1099511627776) (w_toEntryS_l0 p0 (List.replicate (p0.length : Int).toNat (MEntry.mk (Quest.mk (⟨#[]⟩ : ByteArray) 0) 0 ([] : List Rec) 0 0)) 0)
/- laws.toCache -/
def w_toCache (p0 : MCache) : Option MCache :=
  bnd1 (w_toEntryS p0.l) (fun x1 => some (MCache.mk p0.cap x1))
/- spec.l7Copy -/
def s_l7Copy (p0 : List Rec) : Option (List Rec) :=
  grd ((([] : List Rec) ++ p0).length ≤ 1099511627776) (some (([] : List Rec) ++ p0))
/- spec.l15Entry -/
def s_l15Entry (p0 : MEntry) : Option MEntry :=
  bnd1 (s_l7Copy p0.l) (fun x1 => some (MEntry.mk p0.q p0.kind x1 p0.rank p0.til))
/- spec.l15Copy -/
def s_l15Copy_l0 (p0 : MCache) : List MEntry → (List MEntry) → Nat → Option MCache
  | [], v0_0, v0_1 => some (MCache.mk p0.cap v0_0)
  | e0 :: rs0, v0_0, v0_1 => bnd1 (s_l15Entry e0) (fun x2 => grd ((v0_0 ++ [x2]).length ≤ 1099511627776) (s_l15Copy_l0 p0 rs0 (v0_0 ++ [x2]) (v0_1 + 1)))
def s_l15Copy (p0 : MCache) : Option MCache :=
  s_l15Copy_l0 p0 p0.l ([] : List MEntry) 0
/- spec.l1In -/
def s_l1In (p0 : Int) (p1 : Int) (p2 : Int) : Option Bool :=
  bif decide (p1 ≤ p0) then (some (decide (p0 ≤ p2))) else (some false)
/- spec.Labels -/
def s_Labels_j2 (p0 : ByteArray) (v0_0 : List ByteArray) (v0_1 : Int) (v0_2 : Int) (k0 : (List ByteArray) → Int → Int → Option (List ByteArray)) (j2_0 : Bool) : Option (List ByteArray) :=
  bif j2_0 then (grd (0 ≤ v0_1 ∧ v0_1 ≤ v0_2 ∧ v0_2 ≤ (p0.size : Int)) (grd ((v0_0 ++ [p0.extract v0_1.toNat v0_2.toNat]).length ≤ 1099511627776) (grd (i64 (v0_2 + 1)) (grd (i64 (v0_2 + 1)) (k0 (v0_0 ++ [p0.extract v0_1.toNat v0_2.toNat]) (v0_2 + 1) (v0_2 + 1)))))) else (grd (i64 (v0_2 + 1)) (k0 v0_0 v0_1 (v0_2 + 1)))
def s_Labels_j1 (p0 : ByteArray) (v0_0 : List ByteArray) (v0_1 : Int) (v0_2 : Int) (k0 : (List ByteArray) → Int → Int → Option (List ByteArray)) (j1_0 : Bool) : Option (List ByteArray) :=
  bif j1_0 then (bif decide (v0_2 = (p0.size : Int)) then (s_Labels_j2 p0 v0_0 v0_1 v0_2 (k0) true) else (bnd1 (sidx p0 v0_2) (fun x3 => s_Labels_j2 p0 v0_0 v0_1 v0_2 (k0) (decide (x3 = 46))))) else (some v0_0)
def s_Labels_l0 (p0 : ByteArray) : Nat → (List ByteArray) → Int → Int → Option (List ByteArray)
  | 0, _, _, _ => none
  | f0 + 1, v0_0, v0_1, v0_2 => bif decide (v0_2 ≤ (p0.size : Int)) then (s_Labels_j1 p0 v0_0 v0_1 v0_2 (s_Labels_l0 p0 f0) (!decide (p0 = (⟨#[]⟩ : ByteArray)))) else (s_Labels_j1 p0 v0_0 v0_1 v0_2 (s_Labels_l0 p0 f0) false)
def s_Labels (p0 : ByteArray) : Option (List ByteArray) :=
  s_Labels_l0 p0 fuel0 ([] : List ByteArray) 0 0
/- spec.l2Byte -/
def s_l2Byte (p0 : Int) : Option Bool :=
  bnd1 (s_l1In (IntKind.i64.wrap p0) 97 122) (fun x1 => bif x1 then (some true) else (bnd1 (s_l1In (IntKind.i64.wrap p0) 48 57) (fun x4 => bif x4 then (some true) else (bif decide (p0 = 45) then (some true) else (some (decide (p0 = 95)))))))
/- spec.LabelOk -/
def s_LabelOk_j0 (p0 : ByteArray) : Option Bool :=
  bnd1 (s_l1In (p0.size : Int) 1 12) (fun x1 => some x1)
def s_LabelOk_l1 (p0 : ByteArray) : Nat → Int → Option Bool
  | 0, _ => none
  | f1 + 1, v1_0 => bif decide (v1_0 < (p0.size : Int)) then (bnd1 (sidx p0 v1_0) (fun x2 => bnd1 (s_l2Byte x2) (fun x4 => bif !x4 then (some false) else (grd (i64 (v1_0 + 1)) (s_LabelOk_l1 p0 f1 (v1_0 + 1)))))) else (s_LabelOk_j0 p0)
def s_LabelOk (p0 : ByteArray) : Option Bool :=
  s_LabelOk_l1 p0 fuel0 0
/- spec.NameOk -/
def s_NameOk_j0 (p0 : ByteArray) (x1 : List ByteArray) : Option Bool :=
  bif decide ((p0.size : Int) ≤ 50) then (some (decide ((x1.length : Int) ≤ 6))) else (some false)
def s_NameOk_l1 (p0 : ByteArray) (x1 : List ByteArray) : List ByteArray → Nat → Option Bool
  | [], v1_0 => s_NameOk_j0 p0 x1
  | e1 :: rs1, v1_0 => bnd1 (s_LabelOk e1) (fun x4 => bif !x4 then (some false) else (s_NameOk_l1 p0 x1 rs1 (v1_0 + 1)))
def s_NameOk (p0 : ByteArray) : Option Bool :=
  bnd1 (s_Labels p0) (fun x1 => s_NameOk_l1 p0 x1 x1 0)
/- spec.TypeOk -/
def s_TypeOk (p0 : Int) : Option Bool :=
  bif decide (p0 = 1) then (some true) else (bif decide (p0 = 2) then (some true) else (bif decide (p0 = 5) then (some true) else (bif decide (p0 = 6) then (some true) else (some (decide (p0 = 16))))))
/- spec.QuestOk -/
def s_QuestOk (p0 : Quest) : Option Bool :=
  bnd1 (s_NameOk p0.name) (fun x1 => bif x1 then (bnd1 (s_TypeOk p0.ty) (fun x4 => some x4)) else (some false))
/- spec.l5Text -/
def s_l5Text_j0 (p0 : ByteArray) : Option Bool :=
  some (decide ((p0.size : Int) ≤ 12))
def s_l5Text_l1 (p0 : ByteArray) : Nat → Int → Option Bool
  | 0, _ => none
  | f1 + 1, v1_0 => bif decide (v1_0 < (p0.size : Int)) then (bnd1 (sidx p0 v1_0) (fun x2 => bnd1 (s_l1In (IntKind.i64.wrap x2) 33 126) (fun x4 => bif !x4 then (some false) else (grd (i64 (v1_0 + 1)) (s_l5Text_l1 p0 f1 (v1_0 + 1)))))) else (s_l5Text_j0 p0)
def s_l5Text (p0 : ByteArray) : Option Bool :=
  s_l5Text_l1 p0 fuel0 0
/- spec.RecordOk -/
def s_RecordOk_j1 (p0 : Rec) (j1_0 : Bool) : Option Bool :=
  bif j1_0 then (bif decide (p0.n = 0) then (bnd1 (s_NameOk p0.host) (fun x9 => bif x9 then (some (decide (p0.text = (⟨#[]⟩ : ByteArray)))) else (some false))) else (some false)) else (bif decide (p0.ty = 6) then (bnd1 (s_l1In p0.n 0 100000) (fun x13 => bif x13 then (bnd1 (s_NameOk p0.host) (fun x16 => bif x16 then (some (decide (p0.text = (⟨#[]⟩ : ByteArray)))) else (some false))) else (some false))) else (bif decide (p0.ty = 16) then (bif decide (p0.n = 0) then (bif decide (p0.host = (⟨#[]⟩ : ByteArray)) then (bnd1 (s_l5Text p0.text) (fun x22 => some x22)) else (some false)) else (some false)) else (some false)))
def s_RecordOk_j0 (p0 : Rec) (j0_0 : Bool) : Option Bool :=
  bif j0_0 then (some false) else (bif decide (p0.ty = 1) then (bnd1 (s_l1In p0.n 0 2147483647) (fun x3 => bif x3 then (bif decide (p0.host = (⟨#[]⟩ : ByteArray)) then (some (decide (p0.text = (⟨#[]⟩ : ByteArray)))) else (some false)) else (some false))) else (bif decide (p0.ty = 2) then (s_RecordOk_j1 p0 (decide (p0.ty = 2))) else (s_RecordOk_j1 p0 (decide (p0.ty = 5)))))
def s_RecordOk (p0 : Rec) : Option Bool :=
  bnd1 (s_NameOk p0.name) (fun x1 => bif !x1 then (s_RecordOk_j0 p0 true) else (bnd1 (s_l1In p0.ttl 0 100000) (fun x4 => s_RecordOk_j0 p0 (!x4))))
/- spec.l7List -/
def s_l7List_j0 (p0 : List Rec) : Option Bool :=
  some (decide ((p0.length : Int) ≤ 8))
def s_l7List_l1 (p0 : List Rec) : List Rec → Nat → Option Bool
  | [], v1_0 => s_l7List_j0 p0
  | e1 :: rs1, v1_0 => bnd1 (s_RecordOk e1) (fun x2 => bif !x2 then (some false) else (s_l7List_l1 p0 rs1 (v1_0 + 1)))
def s_l7List (p0 : List Rec) : Option Bool :=
  s_l7List_l1 p0 p0 0
/- spec.EntryOk -/
def s_EntryOk_j1 (p0 : MEntry) : Option Bool :=
  bif decide (p0.kind = 2) then (bnd1 (s_NameOk p0.q.name) (fun x3 => bif x3 then (bif decide (p0.q.ty = 0) then (some (decide ((p0.l.length : Int) = 0))) else (some false)) else (some false))) else (some false)
def s_EntryOk_j2 (p0 : MEntry) : Option Bool :=
  bnd1 (s_QuestOk p0.q) (fun x3 => bif x3 then (bif decide (0 < (p0.l.length : Int)) then (bnd1 (s_l7List p0.l) (fun x7 => some x7)) else (some false)) else (some false))
def s_EntryOk_j4 (v3_0 : Nat) (k3 : Nat → Option Bool) (j4_0 : Bool) : Option Bool :=
  bif j4_0 then (some false) else (k3 (v3_0 + 1))
def s_EntryOk_l3 (p0 : MEntry) : List Rec → Nat → Option Bool
  | [], v3_0 => s_EntryOk_j2 p0
  | e3 :: rs3, v3_0 => bif !decide (e3.name = p0.q.name) then (s_EntryOk_j4 v3_0 (s_EntryOk_l3 p0 rs3) true) else (s_EntryOk_j4 v3_0 (s_EntryOk_l3 p0 rs3) (!decide (e3.ty = p0.q.ty)))
def s_EntryOk_j0 (p0 : MEntry) (j0_0 : Bool) : Option Bool :=
  bif j0_0 then (some false) else (bif decide (p0.kind = 0) then (s_EntryOk_l3 p0 p0.l 0) else (bif decide (p0.kind = 1) then (bnd1 (s_QuestOk p0.q) (fun x10 => bif x10 then (some (decide ((p0.l.length : Int) = 0))) else (some false))) else (s_EntryOk_j1 p0)))
def s_EntryOk (p0 : MEntry) : Option Bool :=
  bnd1 (s_l1In p0.rank 1 3) (fun x1 => bif !x1 then (s_EntryOk_j0 p0 true) else (s_EntryOk_j0 p0 (decide (p0.til < 0))))
/- spec.l15Lives -/
def s_l15Lives (p0 : MEntry) (p1 : Int) : Option Bool :=
  some (decide (p1 < p0.til))
/- spec.l15At -/
def s_l15At_l0 (p1 : Quest) : List MEntry → Nat → Option Int
  | [], v0_0 => some (-1)
  | e0 :: rs0, v0_0 => bif (decide (e0.q.name = p1.name) && (decide (e0.q.ty = p1.ty) && true)) then (some (v0_0 : Int)) else (s_l15At_l0 p1 rs0 (v0_0 + 1))
def s_l15At (p0 : MCache) (p1 : Quest) : Option Int :=
  s_l15At_l0 p1 p0.l 0
/- spec.l15Oldest -/
def s_l15Oldest_l0 (p0 : MCache) : List MEntry → Int → Nat → Option Int
  | [], v0_0, v0_1 => some v0_0
  | e0 :: rs0, v0_0, v0_1 => bnd1 (idx p0.l v0_0) (fun x2 => bif decide (e0.til < x2.til) then (s_l15Oldest_l0 p0 rs0 (v0_1 : Int) (v0_1 + 1)) else (s_l15Oldest_l0 p0 rs0 v0_0 (v0_1 + 1)))
def s_l15Oldest (p0 : MCache) : Option Int :=
  s_l15Oldest_l0 p0 (p0.l.drop 1) 0 1
/- spec.Keep -/
def s_Keep_j1 (x1 : MCache) (x4 : MEntry) (x6 : Int) (j1_0 : Bool) : Option MCache :=
  bif j1_0 then (bnd1 (idx x1.l x6) (fun x10 => some (MCache.mk x1.cap (x1.l.set x6.toNat x4)))) else (some x1)
def s_Keep_j2 (x1 : MCache) (x4 : MEntry) (j2_0 : List MEntry) : Option MCache :=
  grd ((j2_0 ++ [x4]).length ≤ 1099511627776) (some (MCache.mk x1.cap (j2_0 ++ [x4])))
def s_Keep_j3 (x1 : MCache) (x4 : MEntry) (j3_0 : Bool) : Option MCache :=
  bif j3_0 then (bnd1 (s_l15Oldest x1) (fun x15 => grd ((0 : Int) ≤ ((0 : Nat) : Int) ∧ ((0 : Nat) : Int) ≤ x15 ∧ x15 ≤ (x1.l.length : Int)) (grd ((([] : List MEntry) ++ ((x1.l.drop (0 + ((0 : Nat) : Int).toNat)).take (x15.toNat - ((0 : Nat) : Int).toNat))).length ≤ 1099511627776) (grd (i64 (x15 + 1)) (grd ((0 : Int) ≤ x15 + 1 ∧ x15 + 1 ≤ (x1.l.length : Int) ∧ (x1.l.length : Int) ≤ (x1.l.length : Int)) (grd (((([] : List MEntry) ++ ((x1.l.drop (0 + ((0 : Nat) : Int).toNat)).take (x15.toNat - ((0 : Nat) : Int).toNat))) ++ ((x1.l.drop (0 + (x15 + 1).toNat)).take ((x1.l.length : Int).toNat - (x15 + 1).toNat))).length ≤ 1099511627776) (s_Keep_j2 x1 x4 ((([] : List MEntry) ++ ((x1.l.drop (0 + ((0 : Nat) : Int).toNat)).take (x15.toNat - ((0 : Nat) : Int).toNat))) ++ ((x1.l.drop (0 + (x15 + 1).toNat)).take ((x1.l.length : Int).toNat - (x15 + 1).toNat)))))))))) else (s_Keep_j2 x1 x4 x1.l)
def s_Keep_j0 (p0 : MCache) (p1 : Int) (p2 : MEntry) (x1 : MCache) (j0_0 : Bool) : Option MCache :=
  bif j0_0 then (some x1) else (bnd1 (s_l15Entry p2) (fun x4 => bnd1 (s_l15At p0 p2.q) (fun x6 => bif decide (0 ≤ x6) then (bnd1 (idx p0.l x6) (fun x9 => bif decide (x9.rank ≤ p2.rank) then (s_Keep_j1 x1 x4 x6 true) else (bnd1 (s_l15Lives x9 p1) (fun x12 => s_Keep_j1 x1 x4 x6 (!x12))))) else (bif decide (0 < (x1.l.length : Int)) then (s_Keep_j3 x1 x4 (decide (p0.cap ≤ (x1.l.length : Int)))) else (s_Keep_j3 x1 x4 false)))))
def s_Keep (p0 : MCache) (p1 : Int) (p2 : MEntry) : Option MCache :=
  bnd1 (s_l15Copy p0) (fun x1 => bnd1 (s_EntryOk p2) (fun x3 => bif !x3 then (s_Keep_j0 p0 p1 p2 x1 true) else (bnd1 (s_l15Lives p2 p1) (fun x6 => s_Keep_j0 p0 p1 p2 x1 (!x6)))))
/- impl.Record] -/
def slices_Clone_Record (p0 : List Rec) : Option (List Rec) :=
  grd ((([] : List Rec) ++ p0).length ≤ 1099511627776) (some (([] : List Rec) ++ p0))
/- impl.copyEntry -/
def i_copyEntry (p0 : MEntry) : Option MEntry :=
  bnd1 (slices_Clone_Record p0.l) (fun x1 => some (MEntry.mk p0.q p0.kind x1 p0.rank p0.til))
/- impl.copyCache -/
def i_copyCache_l0 (p0 : MCache) : List MEntry → (List MEntry) → Nat → Option MCache
  | [], v0_0, v0_1 => some (MCache.mk p0.cap v0_0)
  | e0 :: rs0, v0_0, v0_1 => bnd1 (i_copyEntry e0) (fun x2 => grd ((v0_0 ++ [x2]).length ≤ 1099511627776) (i_copyCache_l0 p0 rs0 (v0_0 ++ [x2]) (v0_1 + 1)))
def i_copyCache (p0 : MCache) : Option MCache :=
  i_copyCache_l0 p0 p0.l ([] : List MEntry) 0
/- stringslite.IndexByte -/
def internal_stringslite_IndexByte (p0 : ByteArray) (p1 : Int) : Option Int :=
  some (Lib.indexByte p0.data.toList p1.toNat.toUInt8)
/- stringslite.Index -/
def internal_stringslite_Index_j0 (p0 : ByteArray) (p1 : ByteArray) (j0_0 : Bool) : Option Int :=
  bif j0_0 then (some 0) else (bif decide ((p1.size : Int) = 1) then (bnd1 (sidx p1 0) (fun x3 => bnd1 (internal_stringslite_IndexByte p0 x3) (fun x5 => some x5))) else (bif decide ((p0.size : Int) ≤ (p1.size : Int)) then (some (-1)) else (none)))
def internal_stringslite_Index (p0 : ByteArray) (p1 : ByteArray) : Option Int :=
  bif decide ((p1.size : Int) = 0) then (internal_stringslite_Index_j0 p0 p1 true) else (internal_stringslite_Index_j0 p0 p1 (decide (p1 = p0)))
/- strings.Index -/
def strings_Index (p0 : ByteArray) (p1 : ByteArray) : Option Int :=
  bnd1 (internal_stringslite_Index p0 p1) (fun x1 => some x1)
/- strings.Count -/
def strings_Count_l0 (p1 : ByteArray) : Nat → ByteArray → Int → Option Int
  | 0, _, _ => none
  | f0 + 1, v0_0, v0_1 => bnd1 (strings_Index v0_0 p1) (fun x5 => bif decide (x5 = (-1)) then (some v0_1) else (grd (i64 (v0_1 + 1)) (grd (i64 (x5 + (p1.size : Int))) (grd (0 ≤ x5 + (p1.size : Int) ∧ x5 + (p1.size : Int) ≤ (v0_0.size : Int) ∧ (v0_0.size : Int) ≤ (v0_0.size : Int)) (strings_Count_l0 p1 f0 (v0_0.extract (x5 + (p1.size : Int)).toNat (v0_0.size : Int).toNat) (v0_1 + 1))))))
def strings_Count (p0 : ByteArray) (p1 : ByteArray) : Option Int :=
  bif decide ((p1.size : Int) = 0) then (none) else (bif decide ((p1.size : Int) = 1) then (bnd1 (sidx p1 0) (fun x3 => some (Lib.countByte p0.data.toList x3.toNat.toUInt8 : Int))) else (strings_Count_l0 p1 fuel0 p0 0))
/- strings.genSplit -/
def strings_genSplit_j1  (j1_0 : ByteArray) (j1_1 : List ByteArray) (j1_2 : Int) : Option (List ByteArray) :=
  bnd1 (idx j1_1 j1_2) (fun x6 => grd (i64 (j1_2 + 1)) (grd ((0 : Int) ≤ ((0 : Nat) : Int) ∧ ((0 : Nat) : Int) ≤ j1_2 + 1 ∧ j1_2 + 1 ≤ (j1_1.length : Int)) (some (((j1_1.set j1_2.toNat j1_0).drop (0 + ((0 : Nat) : Int).toNat)).take ((j1_2 + 1).toNat - ((0 : Nat) : Int).toNat)))))
def strings_genSplit_l2 (p0 : ByteArray) (p1 : ByteArray) (p2 : Int) (j0_0 : Int) : Nat → ByteArray → (List ByteArray) → Int → Option (List ByteArray)
  | 0, _, _, _ => none
  | f2 + 1, v2_0, v2_1, v2_2 => bif decide (v2_2 < (if (p0.size : Int) + 1 < j0_0 then (p0.size : Int) + 1 else j0_0) - 1) then (bnd1 (strings_Index v2_0 p1) (fun x7 => bif decide (x7 < 0) then (strings_genSplit_j1 v2_0 v2_1 v2_2) else (grd (i64 (x7 + p2)) (grd (0 ≤ ((0 : Nat) : Int) ∧ ((0 : Nat) : Int) ≤ x7 + p2 ∧ x7 + p2 ≤ (v2_0.size : Int)) (bnd1 (idx v2_1 v2_2) (fun x12 => grd (i64 (x7 + (p1.size : Int))) (grd (0 ≤ x7 + (p1.size : Int) ∧ x7 + (p1.size : Int) ≤ (v2_0.size : Int) ∧ (v2_0.size : Int) ≤ (v2_0.size : Int)) (grd (i64 (v2_2 + 1)) (strings_genSplit_l2 p0 p1 p2 j0_0 f2 (v2_0.extract (x7 + (p1.size : Int)).toNat (v2_0.size : Int).toNat) (v2_1.set v2_2.toNat (v2_0.extract ((0 : Nat) : Int).toNat (x7 + p2).toNat)) (v2_2 + 1)))))))))) else (strings_genSplit_j1 v2_0 v2_1 v2_2)
def strings_genSplit_j0 (p0 : ByteArray) (p1 : ByteArray) (p2 : Int) (j0_0 : Int) : Option (List ByteArray) :=
  grd (i64 ((p0.size : Int) + 1)) (grd (0 ≤ (if (p0.size : Int) + 1 < j0_0 then (p0.size : Int) + 1 else j0_0) ∧ (if (p0.size : Int) + 1 < j0_0 then (p0.size : Int) + 1 else j0_0).toNat ≤ 1099511627776) (grd (i64 ((if (p0.size : Int) + 1 < j0_0 then (p0.size : Int) + 1 else j0_0) - 1)) (strings_genSplit_l2 p0 p1 p2 j0_0 fuel0 p0 (List.replicate (if (p0.size : Int) + 1 < j0_0 then (p0.size : Int) + 1 else j0_0).toNat (⟨#[]⟩ : ByteArray)) 0)))
def strings_genSplit (p0 : ByteArray) (p1 : ByteArray) (p2 : Int) (p3 : Int) : Option (List ByteArray) :=
  bif decide (p3 = 0) then (some ([] : List ByteArray)) else (bif decide (p1 = (⟨#[]⟩ : ByteArray)) then (none) else (bif decide (p3 < 0) then (bnd1 (strings_Count p0 p1) (fun x4 => grd (i64 (x4 + 1)) (strings_genSplit_j0 p0 p1 p2 (x4 + 1)))) else (strings_genSplit_j0 p0 p1 p2 p3)))
/- strings.Split -/
def strings_Split (p0 : ByteArray) (p1 : ByteArray) : Option (List ByteArray) :=
  bnd1 (strings_genSplit p0 p1 0 (-1)) (fun x1 => some x1)
/- impl.Labels -/
def i_Labels (p0 : ByteArray) : Option (List ByteArray) :=
  bif decide (p0 = (⟨#[]⟩ : ByteArray)) then (some ([] : List ByteArray)) else (bnd1 (strings_Split p0 (⟨#[46]⟩ : ByteArray)) (fun x2 => some x2))
/- slices.IndexFunc[[]string,string] -/
def slices_IndexFunc_string_l0 (p1 : ByteArray → Option Bool) : List ByteArray → Nat → Option Int
  | [], v0_0 => some (-1)
  | e0 :: rs0, v0_0 => bnd1 (p1 e0) (fun x2 => bif x2 then (some (v0_0 : Int)) else (slices_IndexFunc_string_l0 p1 rs0 (v0_0 + 1)))
def slices_IndexFunc_string (p0 : List ByteArray) (p1 : ByteArray → Option Bool) : Option Int :=
  slices_IndexFunc_string_l0 p1 p0 0
/- slices.ContainsFunc[[]string,string] -/
def slices_ContainsFunc_string (p0 : List ByteArray) (p1 : ByteArray → Option Bool) : Option Bool :=
  bnd1 (slices_IndexFunc_string p0 p1) (fun x1 => some (decide (0 ≤ x1)))
/- impl.LabelOk -/
def i_LabelOk_j0 (p0 : ByteArray) : Option Bool :=
  bif decide (1 ≤ (p0.size : Int)) then (some (decide ((p0.size : Int) ≤ 12))) else (some false)
def i_LabelOk_j2 (v1_0 : Int) (k1 : Int → Option Bool) (j2_0 : Bool) : Option Bool :=
  bif j2_0 then (some false) else (grd (i64 (v1_0 + 1)) (k1 (v1_0 + 1)))
def i_LabelOk_l1 (p0 : ByteArray) : Nat → Int → Option Bool
  | 0, _ => none
  | f1 + 1, v1_0 => bif decide (v1_0 < (p0.size : Int)) then (bnd1 (sidx p0 v1_0) (fun x2 => bif decide (x2 < 97) then (bif decide (x2 < 48) then (bif !decide (x2 = 45) then (i_LabelOk_j2 v1_0 (i_LabelOk_l1 p0 f1) (!decide (x2 = 95))) else (i_LabelOk_j2 v1_0 (i_LabelOk_l1 p0 f1) false)) else (bif decide (57 < x2) then (bif !decide (x2 = 45) then (i_LabelOk_j2 v1_0 (i_LabelOk_l1 p0 f1) (!decide (x2 = 95))) else (i_LabelOk_j2 v1_0 (i_LabelOk_l1 p0 f1) false)) else (i_LabelOk_j2 v1_0 (i_LabelOk_l1 p0 f1) false))) else (bif decide (122 < x2) then (bif decide (x2 < 48) then (bif !decide (x2 = 45) then (i_LabelOk_j2 v1_0 (i_LabelOk_l1 p0 f1) (!decide (x2 = 95))) else (i_LabelOk_j2 v1_0 (i_LabelOk_l1 p0 f1) false)) else (bif decide (57 < x2) then (bif !decide (x2 = 45) then (i_LabelOk_j2 v1_0 (i_LabelOk_l1 p0 f1) (!decide (x2 = 95))) else (i_LabelOk_j2 v1_0 (i_LabelOk_l1 p0 f1) false)) else (i_LabelOk_j2 v1_0 (i_LabelOk_l1 p0 f1) false))) else (i_LabelOk_j2 v1_0 (i_LabelOk_l1 p0 f1) false)))) else (i_LabelOk_j0 p0)
def i_LabelOk (p0 : ByteArray) : Option Bool :=
  i_LabelOk_l1 p0 fuel0 0
/- impl.NameOk$1 -/
def i_NameOk_1 (p0 : ByteArray) : Option Bool :=
  bnd1 (i_LabelOk p0) (fun x1 => some (!x1))
/- impl.NameOk -/
def i_NameOk (p0 : ByteArray) : Option Bool :=
  bnd1 (i_Labels p0) (fun x1 => bif decide ((p0.size : Int) ≤ 50) then (bif decide ((x1.length : Int) ≤ 6) then (bnd1 (slices_ContainsFunc_string x1 (fun a0 => i_NameOk_1 a0)) (fun x5 => some (!x5))) else (some false)) else (some false))
/- impl.TypeText -/
def i_TypeText (p0 : Int) : Option ByteArray :=
  bif decide (p0 = 1) then (some (⟨#[97, 100, 100, 114]⟩ : ByteArray)) else (bif decide (p0 = 2) then (some (⟨#[115, 101, 114, 118, 101, 114]⟩ : ByteArray)) else (bif decide (p0 = 5) then (some (⟨#[97, 108, 105, 97, 115]⟩ : ByteArray)) else (bif decide (p0 = 6) then (some (⟨#[115, 116, 97, 114, 116]⟩ : ByteArray)) else (bif decide (p0 = 16) then (some (⟨#[116, 101, 120, 116]⟩ : ByteArray)) else (some (⟨#[]⟩ : ByteArray))))))
/- impl.TypeOk -/
def i_TypeOk (p0 : Int) : Option Bool :=
  bnd1 (i_TypeText p0) (fun x1 => some (!decide (x1 = (⟨#[]⟩ : ByteArray))))
/- impl.QuestOk -/
def i_QuestOk (p0 : Quest) : Option Bool :=
  bnd1 (i_NameOk p0.name) (fun x1 => bif x1 then (bnd1 (i_TypeOk p0.ty) (fun x4 => some x4)) else (some false))
/- impl.Record] -/
def slices_IndexFunc_Record_l0 (p1 : Rec → Option Bool) : List Rec → Nat → Option Int
  | [], v0_0 => some (-1)
  | e0 :: rs0, v0_0 => bnd1 (p1 e0) (fun x2 => bif x2 then (some (v0_0 : Int)) else (slices_IndexFunc_Record_l0 p1 rs0 (v0_0 + 1)))
def slices_IndexFunc_Record (p0 : List Rec) (p1 : Rec → Option Bool) : Option Int :=
  slices_IndexFunc_Record_l0 p1 p0 0
/- impl.Record] -/
def slices_ContainsFunc_Record (p0 : List Rec) (p1 : Rec → Option Bool) : Option Bool :=
  bnd1 (slices_IndexFunc_Record p0 p1) (fun x1 => some (decide (0 ≤ x1)))
/- impl.isTtl -/
def i_isTtl (p0 : Int) : Option Bool :=
  bif decide (0 ≤ p0) then (some (decide (p0 ≤ 100000))) else (some false)
/- impl.isFour -/
def i_isFour (p0 : Int) : Option Bool :=
  bif decide (0 ≤ p0) then (some (decide (p0 ≤ 2147483647))) else (some false)
/- impl.isText -/
def i_isText_j0 (p0 : ByteArray) : Option Bool :=
  some (decide ((p0.size : Int) ≤ 12))
def i_isText_j2 (v1_0 : Int) (k1 : Int → Option Bool) (j2_0 : Bool) : Option Bool :=
  bif j2_0 then (some false) else (grd (i64 (v1_0 + 1)) (k1 (v1_0 + 1)))
def i_isText_l1 (p0 : ByteArray) : Nat → Int → Option Bool
  | 0, _ => none
  | f1 + 1, v1_0 => bif decide (v1_0 < (p0.size : Int)) then (bnd1 (sidx p0 v1_0) (fun x2 => bif decide (x2 < 33) then (i_isText_j2 v1_0 (i_isText_l1 p0 f1) true) else (bnd1 (sidx p0 v1_0) (fun x5 => i_isText_j2 v1_0 (i_isText_l1 p0 f1) (decide (126 < x5)))))) else (i_isText_j0 p0)
def i_isText (p0 : ByteArray) : Option Bool :=
  i_isText_l1 p0 fuel0 0
/- impl.RecordOk -/
def i_RecordOk_j1 (p0 : Rec) (j1_0 : Bool) : Option Bool :=
  bif j1_0 then (bif decide (p0.n = 0) then (bnd1 (i_NameOk p0.host) (fun x9 => bif x9 then (some (decide (p0.text = (⟨#[]⟩ : ByteArray)))) else (some false))) else (some false)) else (bif decide (p0.ty = 6) then (bnd1 (i_isTtl p0.n) (fun x13 => bif x13 then (bnd1 (i_NameOk p0.host) (fun x16 => bif x16 then (some (decide (p0.text = (⟨#[]⟩ : ByteArray)))) else (some false))) else (some false))) else (bif decide (p0.ty = 16) then (bif decide (p0.n = 0) then (bif decide (p0.host = (⟨#[]⟩ : ByteArray)) then (bnd1 (i_isText p0.text) (fun x22 => some x22)) else (some false)) else (some false)) else (some false)))
def i_RecordOk_j0 (p0 : Rec) (j0_0 : Bool) : Option Bool :=
  bif j0_0 then (some false) else (bif decide (p0.ty = 1) then (bnd1 (i_isFour p0.n) (fun x3 => bif x3 then (bif decide (p0.host = (⟨#[]⟩ : ByteArray)) then (some (decide (p0.text = (⟨#[]⟩ : ByteArray)))) else (some false)) else (some false))) else (bif decide (p0.ty = 2) then (i_RecordOk_j1 p0 (decide (p0.ty = 2))) else (i_RecordOk_j1 p0 (decide (p0.ty = 5)))))
def i_RecordOk (p0 : Rec) : Option Bool :=
  bnd1 (i_NameOk p0.name) (fun x1 => bif !x1 then (i_RecordOk_j0 p0 true) else (bnd1 (i_isTtl p0.ttl) (fun x4 => i_RecordOk_j0 p0 (!x4))))
/- impl.allOk$1 -/
def i_allOk_1 (p0 : Rec) : Option Bool :=
  bnd1 (i_RecordOk p0) (fun x1 => some (!x1))
/- impl.allOk -/
def i_allOk (p0 : List Rec) (p1 : Int) : Option Bool :=
  bif decide ((p0.length : Int) ≤ p1) then (bnd1 (slices_ContainsFunc_Record p0 (fun a0 => i_allOk_1 a0)) (fun x2 => some (!x2))) else (some false)
/- impl.SetOf -/
def i_SetOf_j1 (v0_0 : List Rec) (v0_1 : Nat) (e0 : Rec) (k0 : (List Rec) → Nat → Option (List Rec)) (j1_0 : Bool) : Option (List Rec) :=
  bif j1_0 then (grd ((v0_0 ++ [e0]).length ≤ 1099511627776) (k0 (v0_0 ++ [e0]) (v0_1 + 1))) else (k0 v0_0 (v0_1 + 1))
def i_SetOf_l0 (p1 : ByteArray) (p2 : Int) : List Rec → (List Rec) → Nat → Option (List Rec)
  | [], v0_0, v0_1 => some v0_0
  | e0 :: rs0, v0_0, v0_1 => bif decide (e0.name = p1) then (i_SetOf_j1 v0_0 v0_1 e0 (i_SetOf_l0 p1 p2 rs0) (decide (e0.ty = p2))) else (i_SetOf_j1 v0_0 v0_1 e0 (i_SetOf_l0 p1 p2 rs0) false)
def i_SetOf (p0 : List Rec) (p1 : ByteArray) (p2 : Int) : Option (List Rec) :=
  i_SetOf_l0 p1 p2 p0 ([] : List Rec) 0
/- impl.EntryOk -/
def i_EntryOk_j0 (p0 : MEntry) (j0_0 : Bool) : Option Bool :=
  bif j0_0 then (some false) else (bif decide (p0.kind = 0) then (bnd1 (i_QuestOk p0.q) (fun x3 => bif x3 then (bif decide (0 < (p0.l.length : Int)) then (bnd1 (i_allOk p0.l 8) (fun x7 => bif x7 then (bnd1 (i_SetOf p0.l p0.q.name p0.q.ty) (fun x10 => some (decide ((x10.length : Int) = (p0.l.length : Int))))) else (some false))) else (some false)) else (some false))) else (bif decide (p0.kind = 1) then (bnd1 (i_QuestOk p0.q) (fun x13 => bif x13 then (some (decide ((p0.l.length : Int) = 0))) else (some false))) else (bif decide (p0.kind = 2) then (bnd1 (i_NameOk p0.q.name) (fun x17 => bif x17 then (bif decide (p0.q.ty = 0) then (some (decide ((p0.l.length : Int) = 0))) else (some false)) else (some false))) else (some false))))
def i_EntryOk (p0 : MEntry) : Option Bool :=
  bif decide (p0.rank < 1) then (i_EntryOk_j0 p0 true) else (bif decide (3 < p0.rank) then (i_EntryOk_j0 p0 true) else (i_EntryOk_j0 p0 (decide (p0.til < 0))))
/- impl.Entry] -/
def slices_IndexFunc_Entry_l0 (p1 : MEntry → Option Bool) : List MEntry → Nat → Option Int
  | [], v0_0 => some (-1)
  | e0 :: rs0, v0_0 => bnd1 (p1 e0) (fun x2 => bif x2 then (some (v0_0 : Int)) else (slices_IndexFunc_Entry_l0 p1 rs0 (v0_0 + 1)))
def slices_IndexFunc_Entry (p0 : List MEntry) (p1 : MEntry → Option Bool) : Option Int :=
  slices_IndexFunc_Entry_l0 p1 p0 0
/- impl.Keep$1 -/
def i_Keep_1 (p0 : MEntry) (p1 : MEntry) : Option Bool :=
  some (decide (p0.q.name = p1.q.name) && (decide (p0.q.ty = p1.q.ty) && true))
/- impl.Entry] -/
def slices_Delete_Entry (p0 : List MEntry) (p1 : Int) (p2 : Int) : Option ((List MEntry) × (List MEntry)) :=
  grd (0 ≤ p1 ∧ p1 ≤ p2 ∧ p2 ≤ (p0.length : Int) ∧ (p0.length : Int) ≤ (p0.length : Int)) (bif decide (p1 = p2) then (some (p0, p0)) else (grd ((0 : Int) ≤ ((0 : Nat) : Int) ∧ ((0 : Nat) : Int) ≤ p1 ∧ p1 ≤ (p0.length : Int)) (grd ((0 : Int) ≤ p2 ∧ p2 ≤ (p0.length : Int) ∧ (p0.length : Int) ≤ (p0.length : Int)) (grd ((p1.toNat - ((0 : Nat) : Int).toNat) + ((p0.drop (0 + p2.toNat)).take ((p0.length : Int).toNat - p2.toNat)).length ≤ p0.length) (grd (0 ≤ (((p1.toNat - ((0 : Nat) : Int).toNat) + ((p0.drop (0 + p2.toNat)).take ((p0.length : Int).toNat - p2.toNat)).length : Nat) : Int) ∧ (((p1.toNat - ((0 : Nat) : Int).toNat) + ((p0.drop (0 + p2.toNat)).take ((p0.length : Int).toNat - p2.toNat)).length : Nat) : Int) ≤ (p0.length : Int) ∧ ((0 : Nat) : Int) + (p0.length : Int) ≤ ((p0.take (p1.toNat - ((0 : Nat) : Int).toNat) ++ ((p0.drop (0 + p2.toNat)).take ((p0.length : Int).toNat - p2.toNat)) ++ p0.drop ((p1.toNat - ((0 : Nat) : Int).toNat) + ((p0.drop (0 + p2.toNat)).take ((p0.length : Int).toNat - p2.toNat)).length)).length : Int)) (some (((p0.take (p1.toNat - ((0 : Nat) : Int).toNat) ++ ((p0.drop (0 + p2.toNat)).take ((p0.length : Int).toNat - p2.toNat)) ++ p0.drop ((p1.toNat - ((0 : Nat) : Int).toNat) + ((p0.drop (0 + p2.toNat)).take ((p0.length : Int).toNat - p2.toNat)).length)).take (0 + (((p1.toNat - ((0 : Nat) : Int).toNat) + ((p0.drop (0 + p2.toNat)).take ((p0.length : Int).toNat - p2.toNat)).length : Nat) : Int).toNat)), (p0.take (p1.toNat - ((0 : Nat) : Int).toNat) ++ ((p0.drop (0 + p2.toNat)).take ((p0.length : Int).toNat - p2.toNat)) ++ p0.drop ((p1.toNat - ((0 : Nat) : Int).toNat) + ((p0.drop (0 + p2.toNat)).take ((p0.length : Int).toNat - p2.toNat)).length)).take (0 + (((p1.toNat - ((0 : Nat) : Int).toNat) + ((p0.drop (0 + p2.toNat)).take ((p0.length : Int).toNat - p2.toNat)).length : Nat) : Int).toNat))))))))
/- impl.Entry] -/
def i_dropFirst_Entry_j0 (p0 : List MEntry) (j0_0 : Int) : Option ((List MEntry) × (List MEntry)) :=
  bif decide ((p0.length : Int) = 0) then (some (p0, p0)) else (grd (i64 (j0_0 + 1)) (bnd2 (slices_Delete_Entry p0 j0_0 (j0_0 + 1)) (fun x3 x4 => some (x4, x4))))
def i_dropFirst_Entry_l1 (p0 : List MEntry) (p1 : MEntry → Option Int) : List MEntry → Int → Nat → Option ((List MEntry) × (List MEntry))
  | [], v1_0, v1_1 => i_dropFirst_Entry_j0 p0 v1_0
  | e1 :: rs1, v1_0, v1_1 => bnd1 (p1 e1) (fun x2 => bnd1 (idx p0 v1_0) (fun x4 => bnd1 (p1 x4) (fun x6 => bif decide (x2 < x6) then (i_dropFirst_Entry_l1 p0 p1 rs1 (v1_1 : Int) (v1_1 + 1)) else (i_dropFirst_Entry_l1 p0 p1 rs1 v1_0 (v1_1 + 1)))))
def i_dropFirst_Entry (p0 : List MEntry) (p1 : MEntry → Option Int) : Option ((List MEntry) × (List MEntry)) :=
  i_dropFirst_Entry_l1 p0 p1 p0 0 0
/- impl.Keep$2 -/
def i_Keep_2 (p0 : MEntry) : Option Int :=
  some p0.til
/- impl.Keep -/
def i_Keep_j1 (x1 : MCache) (x4 : MEntry) (x6 : Int) (j1_0 : Bool) : Option MCache :=
  bif j1_0 then (bnd1 (idx x1.l x6) (fun x10 => some (MCache.mk x1.cap (x1.l.set x6.toNat (MEntry.mk (Quest.mk x4.q.name x4.q.ty) x4.kind x4.l x4.rank x4.til))))) else (some (MCache.mk x1.cap x1.l))
def i_Keep_j2 (x1 : MCache) (x4 : MEntry) (j2_0 : List MEntry) : Option MCache :=
  grd ((j2_0 ++ [MEntry.mk (Quest.mk x4.q.name x4.q.ty) x4.kind x4.l x4.rank x4.til]).length ≤ 1099511627776) (some (MCache.mk x1.cap (j2_0 ++ [MEntry.mk (Quest.mk x4.q.name x4.q.ty) x4.kind x4.l x4.rank x4.til])))
def i_Keep_j0 (p1 : Int) (p2 : MEntry) (x1 : MCache) (j0_0 : Bool) : Option MCache :=
  bif j0_0 then (some (MCache.mk x1.cap x1.l)) else (bnd1 (i_copyEntry (MEntry.mk (Quest.mk p2.q.name p2.q.ty) p2.kind p2.l p2.rank p2.til)) (fun x4 => bnd1 (slices_IndexFunc_Entry x1.l (fun a0 => i_Keep_1 a0 (MEntry.mk (Quest.mk x4.q.name x4.q.ty) x4.kind x4.l x4.rank x4.til))) (fun x6 => bif decide (0 ≤ x6) then (bnd1 (idx x1.l x6) (fun x9 => bif decide (x9.rank ≤ x4.rank) then (i_Keep_j1 x1 x4 x6 true) else (i_Keep_j1 x1 x4 x6 (decide (x9.til ≤ p1))))) else (bif decide (x1.cap ≤ (x1.l.length : Int)) then (bnd2 (i_dropFirst_Entry x1.l (fun a0 => i_Keep_2 a0)) (fun x13 x14 => i_Keep_j2 x1 x4 x14)) else (i_Keep_j2 x1 x4 x1.l)))))
def i_Keep (p0 : MCache) (p1 : Int) (p2 : MEntry) : Option MCache :=
  bnd1 (i_copyCache (MCache.mk p0.cap p0.l)) (fun x1 => bnd1 (i_EntryOk (MEntry.mk (Quest.mk p2.q.name p2.q.ty) p2.kind p2.l p2.rank p2.til)) (fun x3 => bif !x3 then (i_Keep_j0 p1 p2 x1 true) else (i_Keep_j0 p1 p2 x1 (decide (p2.til ≤ p1)))))
/- laws.eqQuest -/
def w_eqQuest (p0 : Quest) (p1 : Quest) : Option Bool :=
  bif !decide (p0.name = p1.name) then (some false) else (bif !decide (p0.ty = p1.ty) then (some false) else (some true))
/- laws.eqRecord -/
def w_eqRecord (p0 : Rec) (p1 : Rec) : Option Bool :=
  bif !decide (p0.name = p1.name) then (some false) else (bif !decide (p0.ty = p1.ty) then (some false) else (bif !decide (p0.ttl = p1.ttl) then (some false) else (bif !decide (p0.n = p1.n) then (some false) else (bif !decide (p0.host = p1.host) then (some false) else (bif !decide (p0.text = p1.text) then (some false) else (some true))))))
/- laws.eqRecordS -/
def w_eqRecordS_l0 (p1 : List Rec) : List Rec → Nat → Option Bool
  | [], v0_0 => some true
  | e0 :: rs0, v0_0 => bnd1 (idx p1 (v0_0 : Int)) (fun x3 => bnd1 (w_eqRecord e0 x3) (fun x5 => bif !x5 then (some false) else (w_eqRecordS_l0 p1 rs0 (v0_0 + 1))))
def w_eqRecordS (p0 : List Rec) (p1 : List Rec) : Option Bool :=
  bif !decide ((p0.length : Int) = (p1.length : Int)) then (some false) else (w_eqRecordS_l0 p1 p0 0)
/- laws.eqEntry -/
def w_eqEntry (p0 : MEntry) (p1 : MEntry) : Option Bool :=
  bnd1 (w_eqQuest p0.q p1.q) (fun x1 => bif !x1 then (some false) else (bif !decide (p0.kind = p1.kind) then (some false) else (bnd1 (w_eqRecordS p0.l p1.l) (fun x5 => bif !x5 then (some false) else (bif !decide (p0.rank = p1.rank) then (some false) else (bif !decide (p0.til = p1.til) then (some false) else (some true)))))))
/- laws.eqEntryS -/
def w_eqEntryS_l0 (p1 : List MEntry) : List MEntry → Nat → Option Bool
  | [], v0_0 => some true
  | e0 :: rs0, v0_0 => bnd1 (idx p1 (v0_0 : Int)) (fun x3 => bnd1 (w_eqEntry e0 x3) (fun x5 => bif !x5 then (some false) else (w_eqEntryS_l0 p1 rs0 (v0_0 + 1))))
def w_eqEntryS (p0 : List MEntry) (p1 : List MEntry) : Option Bool :=
  bif !decide ((p0.length : Int) = (p1.length : Int)) then (some false) else (w_eqEntryS_l0 p1 p0 0)
/- laws.eqCache -/
def w_eqCache (p0 : MCache) (p1 : MCache) : Option Bool :=
  bif !decide (p0.cap = p1.cap) then (some false) else (bnd1 (w_eqEntryS p0.l p1.l) (fun x2 => bif !x2 then (some false) else (some true)))
/- laws.markText -/
def w_markText_l0  : Nat → Int → ByteArray → Option ByteArray
  | 0, _, _ => none
  | f0 + 1, v0_0, v0_1 => bif decide (0 < v0_0) then (grd (i64 (48 + (Int.tmod v0_0 10))) (grd ((strOfNums [IntKind.u8.wrap (48 + (Int.tmod v0_0 10))]).size + v0_1.size ≤ 9223372036854775807) (w_markText_l0 f0 (IntKind.i64.wrap (Int.tdiv v0_0 10)) ((strOfNums [IntKind.u8.wrap (48 + (Int.tmod v0_0 10))]) ++ v0_1)))) else (grd ((⟨#[109]⟩ : ByteArray).size + v0_1.size ≤ 9223372036854775807) (some ((⟨#[109]⟩ : ByteArray) ++ v0_1)))
def w_markText (p0 : Int) : Option ByteArray :=
  bif decide (p0 ≤ 0) then (some (⟨#[109, 48]⟩ : ByteArray)) else (w_markText_l0 fuel0 p0 (⟨#[]⟩ : ByteArray))
/- laws.markRecordS -/
def w_markRecordS_l0  : Nat → (List Rec) → Int → Int → Option (Int × (List Rec))
  | 0, _, _, _ => none
  | f0 + 1, v0_0, v0_1, v0_2 => bif decide (v0_2 < (v0_0.length : Int)) then (bnd1 (w_markText v0_1) (fun x2 => bnd1 (idx v0_0 v0_2) (fun x4 => grd (i64 (v0_1 + 1)) (grd (i64 ((v0_1 + 1) + 1)) (grd (i64 (((v0_1 + 1) + 1) + 1)) (grd (i64 ((((v0_1 + 1) + 1) + 1) + 1)) (bnd1 (w_markText ((((v0_1 + 1) + 1) + 1) + 1)) (fun x10 => grd (i64 (((((v0_1 + 1) + 1) + 1) + 1) + 1)) (bnd1 (w_markText (((((v0_1 + 1) + 1) + 1) + 1) + 1)) (fun x13 => grd (i64 ((((((v0_1 + 1) + 1) + 1) + 1) + 1) + 1)) (grd (i64 (v0_2 + 1)) (w_markRecordS_l0 f0 ((((((v0_0.set v0_2.toNat (Rec.mk x2 x4.ty x4.ttl x4.n x4.host x4.text)).set v0_2.toNat (Rec.mk x2 (v0_1 + 1) x4.ttl x4.n x4.host x4.text)).set v0_2.toNat (Rec.mk x2 (v0_1 + 1) ((v0_1 + 1) + 1) x4.n x4.host x4.text)).set v0_2.toNat (Rec.mk x2 (v0_1 + 1) ((v0_1 + 1) + 1) (((v0_1 + 1) + 1) + 1) x4.host x4.text)).set v0_2.toNat (Rec.mk x2 (v0_1 + 1) ((v0_1 + 1) + 1) (((v0_1 + 1) + 1) + 1) x10 x4.text)).set v0_2.toNat (Rec.mk x2 (v0_1 + 1) ((v0_1 + 1) + 1) (((v0_1 + 1) + 1) + 1) x10 x13)) ((((((v0_1 + 1) + 1) + 1) + 1) + 1) + 1) (v0_2 + 1))))))))))))) else (some (v0_1, v0_0))
def w_markRecordS (p0 : List Rec) (p1 : Int) : Option (Int × (List Rec)) :=
  w_markRecordS_l0 fuel0 p0 p1 0
/- laws.markEntryS -/
def w_markEntryS_l0 : Nat → (List MEntry) → Int → Int → Option (Int × (List MEntry))
  | 0, _, _, _ => none
  | f0 + 1, v0_0, v0_1, v0_2 => bif decide (v0_2 < (v0_0.length : Int)) then (bnd1 (w_markText v0_1) (fun x2 => bnd1 (idx v0_0 v0_2) (fun x4 => grd (i64 (v0_1 + 1)) (grd (i64 (v0_1 + 1 + 1)) (grd (i64 (v0_1 + 1 + 1 + 1)) (bnd2 (w_markRecordS x4.l (v0_1 + 1 + 1 + 1)) (fun x5 x6 => grd (x6.length = x4.l.length) (grd (i64 (x5 + 1)) (grd (i64 (x5 + 1 + 1)) (grd (i64 (v0_2 + 1)) (w_markEntryS_l0 f0 (v0_0.set v0_2.toNat (MEntry.mk (Quest.mk x2 (v0_1 + 1)) (v0_1 + 1 + 1) x6 x5 (x5 + 1))) (x5 + 1 + 1) (v0_2 + 1)))))))))))) else (some (v0_1, v0_0))
def w_markEntryS (p0 : List MEntry) (p1 : Int) : Option (Int × (List MEntry)) := w_markEntryS_l0 fuel0 p0 p1 0
theorem w_markEntryS_len : ∀ (f : Nat) (l : List MEntry) (k i : Int) (r0 : Int) (r1 : List MEntry), w_markEntryS_l0 f l k i = some (r0, r1) → r1.length = l.length
  | 0, _, _, _, _, _, h => by cases h
  | f + 1, l, k, i, r0, r1, h => by
    rw [w_markEntryS_l0] at h
    by_cases c : i < (l.length : Int)
    · rw [decide_eq_true c, cond_true] at h
      refine bnd1_elim h fun x2 q3 h => bnd1_elim h fun x4 q5 h => grd_elim h fun g6 h => grd_elim h fun g7 h => grd_elim h fun g8 h => bnd2_elim h fun x5 x6 q7 h => grd_elim h fun g8 h => grd_elim h fun g9 h => grd_elim h fun g10 h => grd_elim h fun g11 h => ?_
      rw [w_markEntryS_len f _ _ _ _ _ h, List.length_set]
    · rw [decide_eq_false c, cond_false] at h
      rw [← (some2 h).2]
/- laws.markCache -/
def w_markCache (p0 : MCache) (p1 : Int) : Option (Int × (List MEntry)) :=
  bnd2 (w_markEntryS p0.l p1) (fun x1 x2 => grd (x2.length = p0.l.length) (some (x1, x2)))
/- laws.markEntry -/
def w_markEntry (p0 : MEntry) (p1 : Int) : Option (Int × (List Rec)) :=
  bnd2 (w_markRecordS p0.l p1) (fun x1 x2 => grd (x2.length = p0.l.length) (some (x1, x2)))
/- laws.heldRecordS -/
def w_heldRecordS_l0  : List Rec → Int → Nat → Option Int
  | [], v0_0, v0_1 => some v0_0
  | e0 :: rs0, v0_0, v0_1 => bnd1 (w_markText v0_0) (fun x2 => bif !decide (e0.name = x2) then (some (-1)) else (grd (i64 (v0_0 + 1)) (bif !decide (e0.ty = v0_0 + 1) then (some (-1)) else (grd (i64 ((v0_0 + 1) + 1)) (bif !decide (e0.ttl = (v0_0 + 1) + 1) then (some (-1)) else (grd (i64 (((v0_0 + 1) + 1) + 1)) (bif !decide (e0.n = ((v0_0 + 1) + 1) + 1) then (some (-1)) else (grd (i64 ((((v0_0 + 1) + 1) + 1) + 1)) (bnd1 (w_markText ((((v0_0 + 1) + 1) + 1) + 1)) (fun x12 => bif !decide (e0.host = x12) then (some (-1)) else (grd (i64 (((((v0_0 + 1) + 1) + 1) + 1) + 1)) (bnd1 (w_markText (((((v0_0 + 1) + 1) + 1) + 1) + 1)) (fun x16 => bif !decide (e0.text = x16) then (some (-1)) else (grd (i64 ((((((v0_0 + 1) + 1) + 1) + 1) + 1) + 1)) (w_heldRecordS_l0 rs0 ((((((v0_0 + 1) + 1) + 1) + 1) + 1) + 1) (v0_1 + 1))))))))))))))))
def w_heldRecordS (p0 : List Rec) (p1 : Int) : Option Int :=
  w_heldRecordS_l0 p0 p1 0
/- laws.heldEntryS -/
def w_heldEntryS_l0  : List MEntry → Int → Nat → Option Int
  | [], v0_0, v0_1 => some v0_0
  | e0 :: rs0, v0_0, v0_1 => bnd1 (w_markText v0_0) (fun x2 => bif !decide (e0.q.name = x2) then (some (-1)) else (grd (i64 (v0_0 + 1)) (bif !decide (e0.q.ty = v0_0 + 1) then (some (-1)) else (grd (i64 ((v0_0 + 1) + 1)) (bif !decide (e0.kind = (v0_0 + 1) + 1) then (some (-1)) else (grd (i64 (((v0_0 + 1) + 1) + 1)) (bnd1 (w_heldRecordS e0.l (((v0_0 + 1) + 1) + 1)) (fun x10 => bif decide (x10 < 0) then (some (-1)) else (bif !decide (e0.rank = x10) then (some (-1)) else (grd (i64 (x10 + 1)) (bif !decide (e0.til = x10 + 1) then (some (-1)) else (grd (i64 ((x10 + 1) + 1)) (w_heldEntryS_l0 rs0 ((x10 + 1) + 1) (v0_1 + 1))))))))))))))
def w_heldEntryS (p0 : List MEntry) (p1 : Int) : Option Int :=
  w_heldEntryS_l0 p0 p1 0
/- laws.heldCache -/
def w_heldCache (p0 : MCache) (p1 : Int) : Option Int :=
  bnd1 (w_heldEntryS p0.l p1) (fun x1 => bif decide (x1 < 0) then (some (-1)) else (some x1))
/- laws.FnExactKeep -/
def w_FnExactKeep_j0 (p0 : MCache) (p1 : Int) (p2 : MEntry) (x11 : MCache) (x17 : MCache) (j0_0 : Bool) : Option Bool :=
  bif j0_0 then (some false) else (bnd2 (w_markCache x17 1) (fun x41 x42 => grd (x42.length = x17.l.length) (bnd1 (w_heldCache (MCache.mk x17.cap x42) 1) (fun x45 => bif decide (x45 < 0) then (some false) else (bif !decide (x45 = x41) then (some false) else (bnd1 (w_toCache p0) (fun x49 => bnd1 (w_toEntry p2) (fun x51 => bnd1 (i_Keep x49 p1 x51) (fun x53 => bnd1 (w_eqCache x53 x11) (fun x55 => bif !x55 then (some false) else (bnd1 (w_heldCache (MCache.mk x17.cap x42) 1) (fun x58 => bif decide (x58 < 0) then (some false) else (bif !decide (x58 = x41) then (some false) else (some true))))))))))))))
def w_FnExactKeep (p0 : MCache) (p1 : Int) (p2 : MEntry) : Option Bool :=
  bnd1 (w_szCache p0 1048576) (fun x1 => bif decide (x1 < 0) then (some true) else (bnd1 (w_szEntry p2 x1) (fun x4 => bif decide (x4 < 0) then (some true) else (bnd1 (w_toCache p0) (fun x7 => bnd1 (w_toEntry p2) (fun x9 => bnd1 (s_Keep x7 p1 x9) (fun x11 => bnd1 (w_toCache p0) (fun x13 => bnd1 (w_toEntry p2) (fun x15 => bnd1 (i_Keep x13 p1 x15) (fun x17 => bnd1 (w_eqCache x17 x11) (fun x19 => bif !x19 then (some false) else (bnd1 (w_toCache p0) (fun x22 => bnd1 (w_eqCache x13 x22) (fun x24 => bif !x24 then (some false) else (bnd1 (w_toEntry p2) (fun x27 => bnd1 (w_eqEntry x15 x27) (fun x29 => bif !x29 then (some false) else (bnd2 (w_markCache x13 1) (fun x32 x33 => grd (x33.length = x13.l.length) (bnd2 (w_markEntry x15 x32) (fun x36 x37 => grd (x37.length = x15.l.length) (bif decide (x36 < 0) then (w_FnExactKeep_j0 p0 p1 p2 x11 x17 true) else (bnd1 (w_eqCache x17 x11) (fun x41 => w_FnExactKeep_j0 p0 p1 p2 x11 x17 (!x41)))))))))))))))))))))))))
end Go.Abs.M
