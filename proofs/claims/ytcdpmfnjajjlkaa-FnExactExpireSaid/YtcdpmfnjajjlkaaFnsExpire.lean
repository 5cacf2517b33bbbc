/- The functions that the law of Expire reaches, as pure functions that may fail. -/
import Derived.Test.YtcdpmfnjajjlkaaAbsN
namespace Go.Abs.M
open Go Go.Abs
structure Quest where
  name : ByteArray
  ty : Int
  deriving DecidableEq
def questV (r : Quest) : List V := [.sc (.string r.name), .sc (.int .i64 r.ty)]
theorem questV_free (r : Quest) : (questV r).all (·.free) = true := rfl
theorem questV_len (r : Quest) : (questV r).length = 2 := rfl
def Quest.ok (r : Quest) : Prop := r.name.size ≤ 9223372036854775807 ∧ i64 r.ty
theorem questV_sc (r : Quest) : (questV r).all isScN = true := rfl
structure Rec where
  name : ByteArray
  ty : Int
  ttl : Int
  n : Int
  host : ByteArray
  text : ByteArray
  deriving DecidableEq
def recV (r : Rec) : List V := [.sc (.string r.name), .sc (.int .i64 r.ty), .sc (.int .i64 r.ttl), .sc (.int .i64 r.n), .sc (.string r.host), .sc (.string r.text)]
theorem recV_free (r : Rec) : (recV r).all (·.free) = true := rfl
theorem recV_len (r : Rec) : (recV r).length = 6 := rfl
def Rec.ok (r : Rec) : Prop := r.name.size ≤ 9223372036854775807 ∧ i64 r.ty ∧ i64 r.ttl ∧ i64 r.n ∧ r.host.size ≤ 9223372036854775807 ∧ r.text.size ≤ 9223372036854775807
theorem recV_sc (r : Rec) : (recV r).all isScN = true := rfl
structure MEntry where
  q : Quest
  kind : Int
  l : List Rec
  rank : Int
  til : Int
  deriving DecidableEq
def mEntryV (r : MEntry) : List V := [.sc (.string r.q.name), .sc (.int .i64 r.q.ty), .sc (.int .i64 r.kind), .lst 6 (List.map recV r.l), .sc (.int .i64 r.rank), .sc (.int .i64 r.til)]
theorem mEntryV_free (r : MEntry) : (mEntryV r).all (·.free) = true := rfl
theorem mEntryV_len (r : MEntry) : (mEntryV r).length = 6 := rfl
def MEntry.ok (r : MEntry) : Prop := r.q.ok ∧ i64 r.kind ∧ (r.l.length ≤ 9223372036854775807 ∧ ∀ q, q ∈ r.l → q.ok) ∧ i64 r.rank ∧ i64 r.til
structure MCache where
  cap : Int
  l : List MEntry
  deriving DecidableEq
def mCacheV (r : MCache) : List V := [.sc (.int .i64 r.cap), .lst 6 (List.map mEntryV r.l)]
theorem mCacheV_free (r : MCache) : (mCacheV r).all (·.free) = true := rfl
theorem mCacheV_len (r : MCache) : (mCacheV r).length = 2 := rfl
def MCache.ok (r : MCache) : Prop := i64 r.cap ∧ (r.l.length ≤ 9223372036854775807 ∧ ∀ q, q ∈ r.l → q.ok)
/- laws.szQuest -/
def w_szQuest (p0 : Quest) (p1 : Int) : Option Int :=
  grd (i64 (p1 - (p0.name.size : Int))) (bif decide (p1 - (p0.name.size : Int) < 0) then (some (-1)) else (some (p1 - (p0.name.size : Int))))
/- laws.szRecord -/
def w_szRecord (p0 : Rec) (p1 : Int) : Option Int :=
  grd (i64 (p1 - (p0.name.size : Int))) (bif decide (p1 - (p0.name.size : Int) < 0) then (some (-1)) else (grd (i64 ((p1 - (p0.name.size : Int)) - (p0.host.size : Int))) (bif decide ((p1 - (p0.name.size : Int)) - (p0.host.size : Int) < 0) then (some (-1)) else (grd (i64 (((p1 - (p0.name.size : Int)) - (p0.host.size : Int)) - (p0.text.size : Int))) (bif decide (((p1 - (p0.name.size : Int)) - (p0.host.size : Int)) - (p0.text.size : Int) < 0) then (some (-1)) else (some (((p1 - (p0.name.size : Int)) - (p0.host.size : Int)) - (p0.text.size : Int))))))))
/- laws.szRecordS -/
def w_szRecordS_l0  : List Rec → Int → Nat → Option Int
  | [], v0_0, v0_1 => some v0_0
  | e0 :: rs0, v0_0, v0_1 => bnd1 (w_szRecord e0 v0_0) (fun x4 => bif decide (x4 < 0) then (some (-1)) else (w_szRecordS_l0 rs0 x4 (v0_1 + 1)))
def w_szRecordS (p0 : List Rec) (p1 : Int) : Option Int :=
  grd (i64 (p1 - (p0.length : Int))) (bif decide (p1 - (p0.length : Int) < 0) then (some (-1)) else (w_szRecordS_l0 p0 (p1 - (p0.length : Int)) 0))
/- laws.szEntry -/
def w_szEntry (p0 : MEntry) (p1 : Int) : Option Int :=
  bnd1 (w_szQuest p0.q p1) (fun x1 => bif decide (x1 < 0) then (some (-1)) else (bnd1 (w_szRecordS p0.l x1) (fun x4 => bif decide (x4 < 0) then (some (-1)) else (some x4))))
/- laws.szEntryS -/
def w_szEntryS_l0  : List MEntry → Int → Nat → Option Int
  | [], v0_0, v0_1 => some v0_0
  | e0 :: rs0, v0_0, v0_1 => bnd1 (w_szEntry e0 v0_0) (fun x4 => bif decide (x4 < 0) then (some (-1)) else (w_szEntryS_l0 rs0 x4 (v0_1 + 1)))
def w_szEntryS (p0 : List MEntry) (p1 : Int) : Option Int :=
  grd (i64 (p1 - (p0.length : Int))) (bif decide (p1 - (p0.length : Int) < 0) then (some (-1)) else (w_szEntryS_l0 p0 (p1 - (p0.length : Int)) 0))
/- laws.szCache -/
def w_szCache (p0 : MCache) (p1 : Int) : Option Int :=
  bnd1 (w_szEntryS p0.l p1) (fun x1 => bif decide (x1 < 0) then (some (-1)) else (some x1))
/- laws.toQuest -/
def w_toQuest (p0 : Quest) : Option Quest :=
  some p0
/- laws.toRecord -/
def w_toRecord (p0 : Rec) : Option Rec :=
  some p0
/- laws.toRecordS -/
def w_toRecordS_l0  : List Rec → (List Rec) → Nat → Option (List Rec)
  | [], v0_0, v0_1 => some v0_0
  | e0 :: rs0, v0_0, v0_1 => bnd1 (w_toRecord e0) (fun x3 => bnd1 (idx v0_0 (v0_1 : Int)) (fun x5 => w_toRecordS_l0 rs0 (v0_0.set ((v0_1 : Int).toNat) x3) (v0_1 + 1)))
def w_toRecordS (p0 : List Rec) : Option (List Rec) :=
  grd (0 ≤ (p0.length : Int) ∧ (p0.length : Int).toNat ≤ 1099511627776) (w_toRecordS_l0 p0 (List.replicate (p0.length : Int).toNat (Rec.mk (⟨#[]⟩ : ByteArray) 0 0 0 (⟨#[]⟩ : ByteArray) (⟨#[]⟩ : ByteArray))) 0)
/- laws.toEntry -/
def w_toEntry (p0 : MEntry) : Option MEntry :=
  bnd1 (w_toQuest p0.q) (fun x1 => bnd1 (w_toRecordS p0.l) (fun x3 => some (MEntry.mk x1 p0.kind x3 p0.rank p0.til)))
/- laws.toEntryS -/
def w_toEntryS_l0  : List MEntry → (List MEntry) → Nat → Option (List MEntry)
  | [], v0_0, v0_1 => some v0_0
  | e0 :: rs0, v0_0, v0_1 => bnd1 (w_toEntry e0) (fun x3 => bnd1 (idx v0_0 (v0_1 : Int)) (fun x5 => w_toEntryS_l0 rs0 (v0_0.set ((v0_1 : Int).toNat) x3) (v0_1 + 1)))
def w_toEntryS (p0 : List MEntry) : Option (List MEntry) :=
  grd (0 ≤ (p0.length : Int) ∧ (p0.length : Int).toNat ≤ 1099511627776) (w_toEntryS_l0 p0 (List.replicate (p0.length : Int).toNat (MEntry.mk (Quest.mk (⟨#[]⟩ : ByteArray) 0) 0 ([] : List Rec) 0 0)) 0)
/- laws.toCache -/
def w_toCache (p0 : MCache) : Option MCache :=
  bnd1 (w_toEntryS p0.l) (fun x1 => some (MCache.mk p0.cap x1))
/- spec.l15Lives -/
def s_l15Lives (p0 : MEntry) (p1 : Int) : Option Bool :=
  some (decide (p1 < p0.til))
/- spec.l7Copy -/
def s_l7Copy (p0 : List Rec) : Option (List Rec) :=
  grd ((([] : List Rec) ++ p0).length ≤ 1099511627776) (some (([] : List Rec) ++ p0))
/- spec.l15Entry -/
def s_l15Entry (p0 : MEntry) : Option MEntry :=
  bnd1 (s_l7Copy p0.l) (fun x1 => some (MEntry.mk p0.q p0.kind x1 p0.rank p0.til))
/- spec.Expire -/
def s_Expire_l0 (p0 : MCache) (p1 : Int) : List MEntry → (List MEntry) → Nat → Option MCache
  | [], v0_0, v0_1 => some (MCache.mk p0.cap v0_0)
  | e0 :: rs0, v0_0, v0_1 => bnd1 (s_l15Lives e0 p1) (fun x2 => bif x2 then (bnd1 (s_l15Entry e0) (fun x5 => grd ((v0_0 ++ [x5]).length ≤ 1099511627776) (s_Expire_l0 p0 p1 rs0 (v0_0 ++ [x5]) (v0_1 + 1)))) else (s_Expire_l0 p0 p1 rs0 v0_0 (v0_1 + 1)))
def s_Expire (p0 : MCache) (p1 : Int) : Option MCache :=
  s_Expire_l0 p0 p1 p0.l ([] : List MEntry) 0
/- impl.Record] -/
def slices_Clone_Record (p0 : List Rec) : Option (List Rec) :=
  grd ((([] : List Rec) ++ p0).length ≤ 1099511627776) (some (([] : List Rec) ++ p0))
/- impl.copyEntry -/
def i_copyEntry (p0 : MEntry) : Option MEntry :=
  bnd1 (slices_Clone_Record p0.l) (fun x1 => some (MEntry.mk p0.q p0.kind x1 p0.rank p0.til))
/- impl.copyCache -/
def i_copyCache_l0 (p0 : MCache) : List MEntry → (List MEntry) → Nat → Option MCache
  | [], v0_0, v0_1 => some (MCache.mk p0.cap v0_0)
  | e0 :: rs0, v0_0, v0_1 => bnd1 (i_copyEntry e0) (fun x2 => grd ((v0_0 ++ [x2]).length ≤ 1099511627776) (i_copyCache_l0 p0 rs0 (v0_0 ++ [x2]) (v0_1 + 1)))
def i_copyCache (p0 : MCache) : Option MCache :=
  i_copyCache_l0 p0 p0.l ([] : List MEntry) 0
/- impl.Entry] -/
def slices_IndexFunc_Entry_l0 (p1 : MEntry → Option Bool) : List MEntry → Nat → Option Int
  | [], v0_0 => some (-1)
  | e0 :: rs0, v0_0 => bnd1 (p1 e0) (fun x2 => bif x2 then (some (v0_0 : Int)) else (slices_IndexFunc_Entry_l0 p1 rs0 (v0_0 + 1)))
def slices_IndexFunc_Entry (p0 : List MEntry) (p1 : MEntry → Option Bool) : Option Int :=
  slices_IndexFunc_Entry_l0 p1 p0 0
/- impl.Entry] -/
def slices_DeleteFunc_Entry_j0  (j0_0 : List MEntry) (j0_1 : Int) : Option ((List MEntry) × (List MEntry)) :=
  grd ((0 : Int) ≤ j0_1 ∧ j0_1 ≤ (j0_0.length : Int) ∧ (j0_0.length : Int) ≤ (j0_0.length : Int)) (grd ((0 : Int) ≤ ((0 : Nat) : Int) ∧ ((0 : Nat) : Int) ≤ j0_1 ∧ j0_1 ≤ (j0_0.length : Int)) (some ((j0_0.take (0 + j0_1.toNat)), j0_0.take (0 + j0_1.toNat))))
def slices_DeleteFunc_Entry_l1 (p1 : MEntry → Option Bool) : Nat → (List MEntry) → Int → Int → Option ((List MEntry) × (List MEntry))
  | 0, _, _, _ => none
  | f1 + 1, v1_0, v1_1, v1_2 => bif decide (v1_2 < (v1_0.length : Int)) then (bnd1 (idx v1_0 v1_2) (fun x6 => bnd1 (p1 x6) (fun x8 => bif !x8 then (bnd1 (idx v1_0 v1_1) (fun x11 => grd (i64 (v1_1 + 1)) (grd (i64 (v1_2 + 1)) (slices_DeleteFunc_Entry_l1 p1 f1 (v1_0.set v1_1.toNat x6) (v1_1 + 1) (v1_2 + 1))))) else (grd (i64 (v1_2 + 1)) (slices_DeleteFunc_Entry_l1 p1 f1 v1_0 v1_1 (v1_2 + 1)))))) else (slices_DeleteFunc_Entry_j0 v1_0 v1_1)
def slices_DeleteFunc_Entry (p0 : List MEntry) (p1 : MEntry → Option Bool) : Option ((List MEntry) × (List MEntry)) :=
  bnd1 (slices_IndexFunc_Entry p0 p1) (fun x1 => bif decide (x1 = (-1)) then (some (p0, p0)) else (grd (i64 (x1 + 1)) (slices_DeleteFunc_Entry_l1 p1 fuel0 p0 x1 (x1 + 1))))
/- impl.Expire$1 -/
def i_Expire_1 (p0 : MEntry) (p1 : Int) : Option Bool :=
  some (decide (p0.til ≤ p1))
/- impl.Expire -/
def i_Expire (p0 : MCache) (p1 : Int) : Option MCache :=
  bnd1 (i_copyCache p0) (fun x1 => bnd2 (slices_DeleteFunc_Entry x1.l (fun a0 => i_Expire_1 a0 p1)) (fun x3 x4 => some (MCache.mk x1.cap x4)))
/- laws.eqQuest -/
def w_eqQuest (p0 : Quest) (p1 : Quest) : Option Bool :=
  bif !decide (p0.name = p1.name) then (some false) else (bif !decide (p0.ty = p1.ty) then (some false) else (some true))
/- laws.eqRecord -/
def w_eqRecord (p0 : Rec) (p1 : Rec) : Option Bool :=
  bif !decide (p0.name = p1.name) then (some false) else (bif !decide (p0.ty = p1.ty) then (some false) else (bif !decide (p0.ttl = p1.ttl) then (some false) else (bif !decide (p0.n = p1.n) then (some false) else (bif !decide (p0.host = p1.host) then (some false) else (bif !decide (p0.text = p1.text) then (some false) else (some true))))))
/- laws.eqRecordS -/
def w_eqRecordS_l0 (p1 : List Rec) : List Rec → Nat → Option Bool
  | [], v0_0 => some true
  | e0 :: rs0, v0_0 => bnd1 (idx p1 (v0_0 : Int)) (fun x3 => bnd1 (w_eqRecord e0 x3) (fun x5 => bif !x5 then (some false) else (w_eqRecordS_l0 p1 rs0 (v0_0 + 1))))
def w_eqRecordS (p0 : List Rec) (p1 : List Rec) : Option Bool :=
  bif !decide ((p0.length : Int) = (p1.length : Int)) then (some false) else (w_eqRecordS_l0 p1 p0 0)
/- laws.eqEntry -/
def w_eqEntry (p0 : MEntry) (p1 : MEntry) : Option Bool :=
  bnd1 (w_eqQuest p0.q p1.q) (fun x1 => bif !x1 then (some false) else (bif !decide (p0.kind = p1.kind) then (some false) else (bnd1 (w_eqRecordS p0.l p1.l) (fun x5 => bif !x5 then (some false) else (bif !decide (p0.rank = p1.rank) then (some false) else (bif !decide (p0.til = p1.til) then (some false) else (some true)))))))
/- laws.eqEntryS -/
def w_eqEntryS_l0 (p1 : List MEntry) : List MEntry → Nat → Option Bool
  | [], v0_0 => some true
  | e0 :: rs0, v0_0 => bnd1 (idx p1 (v0_0 : Int)) (fun x3 => bnd1 (w_eqEntry e0 x3) (fun x5 => bif !x5 then (some false) else (w_eqEntryS_l0 p1 rs0 (v0_0 + 1))))
def w_eqEntryS (p0 : List MEntry) (p1 : List MEntry) : Option Bool :=
  bif !decide ((p0.length : Int) = (p1.length : Int)) then (some false) else (w_eqEntryS_l0 p1 p0 0)
/- laws.eqCache -/
def w_eqCache (p0 : MCache) (p1 : MCache) : Option Bool :=
  bif !decide (p0.cap = p1.cap) then (some false) else (bnd1 (w_eqEntryS p0.l p1.l) (fun x2 => bif !x2 then (some false) else (some true)))
/- laws.markText -/
def w_markText_l0  : Nat → Int → ByteArray → Option ByteArray
  | 0, _, _ => none
  | f0 + 1, v0_0, v0_1 => bif decide (0 < v0_0) then (grd (i64 (48 + (Int.tmod v0_0 10))) (grd ((strOfNums [IntKind.u8.wrap (48 + (Int.tmod v0_0 10))]).size + v0_1.size ≤ 9223372036854775807) (w_markText_l0 f0 (IntKind.i64.wrap (Int.tdiv v0_0 10)) ((strOfNums [IntKind.u8.wrap (48 + (Int.tmod v0_0 10))]) ++ v0_1)))) else (grd ((⟨#[109]⟩ : ByteArray).size + v0_1.size ≤ 9223372036854775807) (some ((⟨#[109]⟩ : ByteArray) ++ v0_1)))
def w_markText (p0 : Int) : Option ByteArray :=
  bif decide (p0 ≤ 0) then (some (⟨#[109, 48]⟩ : ByteArray)) else (w_markText_l0 fuel0 p0 (⟨#[]⟩ : ByteArray))
/- laws.markRecordS -/
def w_markRecordS_l0  : Nat → (List Rec) → Int → Int → Option (Int × (List Rec))
  | 0, _, _, _ => none
  | f0 + 1, v0_0, v0_1, v0_2 => bif decide (v0_2 < (v0_0.length : Int)) then (bnd1 (w_markText v0_1) (fun x2 => bnd1 (idx v0_0 v0_2) (fun x4 => grd (i64 (v0_1 + 1)) (grd (i64 ((v0_1 + 1) + 1)) (grd (i64 (((v0_1 + 1) + 1) + 1)) (grd (i64 ((((v0_1 + 1) + 1) + 1) + 1)) (bnd1 (w_markText ((((v0_1 + 1) + 1) + 1) + 1)) (fun x10 => grd (i64 (((((v0_1 + 1) + 1) + 1) + 1) + 1)) (bnd1 (w_markText (((((v0_1 + 1) + 1) + 1) + 1) + 1)) (fun x13 => grd (i64 ((((((v0_1 + 1) + 1) + 1) + 1) + 1) + 1)) (grd (i64 (v0_2 + 1)) (w_markRecordS_l0 f0 ((((((v0_0.set v0_2.toNat (Rec.mk x2 x4.ty x4.ttl x4.n x4.host x4.text)).set v0_2.toNat (Rec.mk x2 (v0_1 + 1) x4.ttl x4.n x4.host x4.text)).set v0_2.toNat (Rec.mk x2 (v0_1 + 1) ((v0_1 + 1) + 1) x4.n x4.host x4.text)).set v0_2.toNat (Rec.mk x2 (v0_1 + 1) ((v0_1 + 1) + 1) (((v0_1 + 1) + 1) + 1) x4.host x4.text)).set v0_2.toNat (Rec.mk x2 (v0_1 + 1) ((v0_1 + 1) + 1) (((v0_1 + 1) + 1) + 1) x10 x4.text)).set v0_2.toNat (Rec.mk x2 (v0_1 + 1) ((v0_1 + 1) + 1) (((v0_1 + 1) + 1) + 1) x10 x13)) ((((((v0_1 + 1) + 1) + 1) + 1) + 1) + 1) (v0_2 + 1))))))))))))) else (some (v0_1, v0_0))
def w_markRecordS (p0 : List Rec) (p1 : Int) : Option (Int × (List Rec)) :=
  w_markRecordS_l0 fuel0 p0 p1 0
/- laws.markEntryS -/
def w_markEntryS_l0 : Nat → (List MEntry) → Int → Int → Option (Int × (List MEntry))
  | 0, _, _, _ => none
  | f0 + 1, v0_0, v0_1, v0_2 => bif decide (v0_2 < (v0_0.length : Int)) then (bnd1 (w_markText v0_1) (fun x2 => bnd1 (idx v0_0 v0_2) (fun x4 => grd (i64 (v0_1 + 1)) (grd (i64 (v0_1 + 1 + 1)) (grd (i64 (v0_1 + 1 + 1 + 1)) (bnd2 (w_markRecordS x4.l (v0_1 + 1 + 1 + 1)) (fun x5 x6 => grd (x6.length = x4.l.length) (grd (i64 (x5 + 1)) (grd (i64 (x5 + 1 + 1)) (grd (i64 (v0_2 + 1)) (w_markEntryS_l0 f0 (v0_0.set v0_2.toNat (MEntry.mk (Quest.mk x2 (v0_1 + 1)) (v0_1 + 1 + 1) x6 x5 (x5 + 1))) (x5 + 1 + 1) (v0_2 + 1)))))))))))) else (some (v0_1, v0_0))
def w_markEntryS (p0 : List MEntry) (p1 : Int) : Option (Int × (List MEntry)) := w_markEntryS_l0 fuel0 p0 p1 0
theorem w_markEntryS_len : ∀ (f : Nat) (l : List MEntry) (k i : Int) (r0 : Int) (r1 : List MEntry), w_markEntryS_l0 f l k i = some (r0, r1) → r1.length = l.length
  | 0, _, _, _, _, _, h => by cases h
  | f + 1, l, k, i, r0, r1, h => by
    rw [w_markEntryS_l0] at h
    by_cases c : i < (l.length : Int)
    · rw [decide_eq_true c, cond_true] at h
      refine bnd1_elim h fun x2 q3 h => bnd1_elim h fun x4 q5 h => grd_elim h fun g6 h => grd_elim h fun g7 h => grd_elim h fun g8 h => bnd2_elim h fun x5 x6 q7 h => grd_elim h fun g8 h => grd_elim h fun g9 h => grd_elim h fun g10 h => grd_elim h fun g11 h => ?_
      rw [w_markEntryS_len f _ _ _ _ _ h, List.length_set]
    · rw [decide_eq_false c, cond_false] at h
      rw [← (some2 h).2]
/- laws.markCache -/
def w_markCache (p0 : MCache) (p1 : Int) : Option (Int × (List MEntry)) :=
  bnd2 (w_markEntryS p0.l p1) (fun x1 x2 => grd (x2.length = p0.l.length) (some (x1, x2)))
/- laws.heldRecordS -/
def w_heldRecordS_l0  : List Rec → Int → Nat → Option Int
  | [], v0_0, v0_1 => some v0_0
  | e0 :: rs0, v0_0, v0_1 => bnd1 (w_markText v0_0) (fun x2 => bif !decide (e0.name = x2) then (some (-1)) else (grd (i64 (v0_0 + 1)) (bif !decide (e0.ty = v0_0 + 1) then (some (-1)) else (grd (i64 ((v0_0 + 1) + 1)) (bif !decide (e0.ttl = (v0_0 + 1) + 1) then (some (-1)) else (grd (i64 (((v0_0 + 1) + 1) + 1)) (bif !decide (e0.n = ((v0_0 + 1) + 1) + 1) then (some (-1)) else (grd (i64 ((((v0_0 + 1) + 1) + 1) + 1)) (bnd1 (w_markText ((((v0_0 + 1) + 1) + 1) + 1)) (fun x12 => bif !decide (e0.host = x12) then (some (-1)) else (grd (i64 (((((v0_0 + 1) + 1) + 1) + 1) + 1)) (bnd1 (w_markText (((((v0_0 + 1) + 1) + 1) + 1) + 1)) (fun x16 => bif !decide (e0.text = x16) then (some (-1)) else (grd (i64 ((((((v0_0 + 1) + 1) + 1) + 1) + 1) + 1)) (w_heldRecordS_l0 rs0 ((((((v0_0 + 1) + 1) + 1) + 1) + 1) + 1) (v0_1 + 1))))))))))))))))
def w_heldRecordS (p0 : List Rec) (p1 : Int) : Option Int :=
  w_heldRecordS_l0 p0 p1 0
/- laws.heldEntryS -/
def w_heldEntryS_l0  : List MEntry → Int → Nat → Option Int
  | [], v0_0, v0_1 => some v0_0
  | e0 :: rs0, v0_0, v0_1 => bnd1 (w_markText v0_0) (fun x2 => bif !decide (e0.q.name = x2) then (some (-1)) else (grd (i64 (v0_0 + 1)) (bif !decide (e0.q.ty = v0_0 + 1) then (some (-1)) else (grd (i64 ((v0_0 + 1) + 1)) (bif !decide (e0.kind = (v0_0 + 1) + 1) then (some (-1)) else (grd (i64 (((v0_0 + 1) + 1) + 1)) (bnd1 (w_heldRecordS e0.l (((v0_0 + 1) + 1) + 1)) (fun x10 => bif decide (x10 < 0) then (some (-1)) else (bif !decide (e0.rank = x10) then (some (-1)) else (grd (i64 (x10 + 1)) (bif !decide (e0.til = x10 + 1) then (some (-1)) else (grd (i64 ((x10 + 1) + 1)) (w_heldEntryS_l0 rs0 ((x10 + 1) + 1) (v0_1 + 1))))))))))))))
def w_heldEntryS (p0 : List MEntry) (p1 : Int) : Option Int :=
  w_heldEntryS_l0 p0 p1 0
/- laws.heldCache -/
def w_heldCache (p0 : MCache) (p1 : Int) : Option Int :=
  bnd1 (w_heldEntryS p0.l p1) (fun x1 => bif decide (x1 < 0) then (some (-1)) else (some x1))
/- laws.FnExactExpire -/
def w_FnExactExpire_j0 (p0 : MCache) (p1 : Int) (x6 : MCache) (x10 : MCache) (j0_0 : Bool) : Option Bool :=
  bif j0_0 then (some false) else (bnd2 (w_markCache x10 1) (fun x25 x26 => grd (x26.length = x10.l.length) (bnd1 (w_heldCache (MCache.mk x10.cap x26) 1) (fun x29 => bif decide (x29 < 0) then (some false) else (bif !decide (x29 = x25) then (some false) else (bnd1 (w_toCache p0) (fun x33 => bnd1 (i_Expire x33 p1) (fun x35 => bnd1 (w_eqCache x35 x6) (fun x37 => bif !x37 then (some false) else (bnd1 (w_heldCache (MCache.mk x10.cap x26) 1) (fun x40 => bif decide (x40 < 0) then (some false) else (bif !decide (x40 = x25) then (some false) else (some true)))))))))))))
def w_FnExactExpire (p0 : MCache) (p1 : Int) : Option Bool :=
  bnd1 (w_szCache p0 1048576) (fun x1 => bif decide (x1 < 0) then (some true) else (bnd1 (w_toCache p0) (fun x4 => bnd1 (s_Expire x4 p1) (fun x6 => bnd1 (w_toCache p0) (fun x8 => bnd1 (i_Expire x8 p1) (fun x10 => bnd1 (w_eqCache x10 x6) (fun x12 => bif !x12 then (some false) else (bnd1 (w_toCache p0) (fun x15 => bnd1 (w_eqCache x8 x15) (fun x17 => bif !x17 then (some false) else (bnd2 (w_markCache x8 1) (fun x20 x21 => grd (x21.length = x8.l.length) (bif decide (x20 < 0) then (w_FnExactExpire_j0 p0 p1 x6 x10 true) else (bnd1 (w_eqCache x10 x6) (fun x25 => w_FnExactExpire_j0 p0 p1 x6 x10 (!x25))))))))))))))))
end Go.Abs.M
