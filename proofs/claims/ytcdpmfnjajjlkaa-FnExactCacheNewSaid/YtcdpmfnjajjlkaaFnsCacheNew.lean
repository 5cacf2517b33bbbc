/- The functions that the law of CacheNew reaches, as pure functions that may fail. -/
import Derived.Test.YtcdpmfnjajjlkaaAbsA28
namespace Go.Abs.M
open Go Go.Abs
structure Quest where
  name : ByteArray
  ty : Int
  deriving DecidableEq
def questV (r : Quest) : List V := [.sc (.string r.name), .sc (.int .i64 r.ty)]
theorem questV_free (r : Quest) : (questV r).all (·.free) = true := rfl
theorem questV_len (r : Quest) : (questV r).length = 2 := rfl
def Quest.ok (r : Quest) : Prop := r.name.size ≤ 9223372036854775807 ∧ i64 r.ty
theorem questV_sc (r : Quest) : (questV r).all isScN = true := rfl
structure Rec where
  name : ByteArray
  ty : Int
  ttl : Int
  n : Int
  host : ByteArray
  text : ByteArray
  deriving DecidableEq
def recV (r : Rec) : List V := [.sc (.string r.name), .sc (.int .i64 r.ty), .sc (.int .i64 r.ttl), .sc (.int .i64 r.n), .sc (.string r.host), .sc (.string r.text)]
theorem recV_free (r : Rec) : (recV r).all (·.free) = true := rfl
theorem recV_len (r : Rec) : (recV r).length = 6 := rfl
def Rec.ok (r : Rec) : Prop := r.name.size ≤ 9223372036854775807 ∧ i64 r.ty ∧ i64 r.ttl ∧ i64 r.n ∧ r.host.size ≤ 9223372036854775807 ∧ r.text.size ≤ 9223372036854775807
theorem recV_sc (r : Rec) : (recV r).all isScN = true := rfl
structure MEntry where
  q : Quest
  kind : Int
  l : List Rec
  rank : Int
  til : Int
  deriving DecidableEq
def mEntryV (r : MEntry) : List V := [.sc (.string r.q.name), .sc (.int .i64 r.q.ty), .sc (.int .i64 r.kind), .lst 6 (List.map recV r.l), .sc (.int .i64 r.rank), .sc (.int .i64 r.til)]
theorem mEntryV_free (r : MEntry) : (mEntryV r).all (·.free) = true := rfl
theorem mEntryV_len (r : MEntry) : (mEntryV r).length = 6 := rfl
def MEntry.ok (r : MEntry) : Prop := r.q.ok ∧ i64 r.kind ∧ (r.l.length ≤ 9223372036854775807 ∧ ∀ q, q ∈ r.l → q.ok) ∧ i64 r.rank ∧ i64 r.til
structure MCache where
  cap : Int
  l : List MEntry
  deriving DecidableEq
def mCacheV (r : MCache) : List V := [.sc (.int .i64 r.cap), .lst 6 (List.map mEntryV r.l)]
theorem mCacheV_free (r : MCache) : (mCacheV r).all (·.free) = true := rfl
theorem mCacheV_len (r : MCache) : (mCacheV r).length = 2 := rfl
def MCache.ok (r : MCache) : Prop := i64 r.cap ∧ (r.l.length ≤ 9223372036854775807 ∧ ∀ q, q ∈ r.l → q.ok)
/- spec.l1In -/
def s_l1In (p0 : Int) (p1 : Int) (p2 : Int) : Option Bool :=
  bif decide (p1 ≤ p0) then (some (decide (p0 ≤ p2))) else (some false)
/- spec.CacheNew -/
def s_CacheNew_j0  (j0_0 : Int) : Option MCache :=
  some (MCache.mk j0_0 ([] : List MEntry))
def s_CacheNew (p0 : Int) : Option MCache :=
  bnd1 (s_l1In p0 1 60) (fun x1 => bif !x1 then (s_CacheNew_j0 1) else (s_CacheNew_j0 p0))
/- impl.CacheNew -/
def i_CacheNew_j0  (j0_0 : Int) : Option MCache :=
  some (MCache.mk j0_0 ([] : List MEntry))
def i_CacheNew_j1 (p0 : Int) (j1_0 : Bool) : Option MCache :=
  bif j1_0 then (i_CacheNew_j0 1) else (i_CacheNew_j0 p0)
def i_CacheNew (p0 : Int) : Option MCache :=
  bif decide (p0 < 1) then (i_CacheNew_j1 p0 true) else (i_CacheNew_j1 p0 (decide (60 < p0)))
/- laws.eqQuest -/
def w_eqQuest (p0 : Quest) (p1 : Quest) : Option Bool :=
  bif !decide (p0.name = p1.name) then (some false) else (bif !decide (p0.ty = p1.ty) then (some false) else (some true))
/- laws.eqRecord -/
def w_eqRecord (p0 : Rec) (p1 : Rec) : Option Bool :=
  bif !decide (p0.name = p1.name) then (some false) else (bif !decide (p0.ty = p1.ty) then (some false) else (bif !decide (p0.ttl = p1.ttl) then (some false) else (bif !decide (p0.n = p1.n) then (some false) else (bif !decide (p0.host = p1.host) then (some false) else (bif !decide (p0.text = p1.text) then (some false) else (some true))))))
/- laws.eqRecordS -/
def w_eqRecordS_l0 (p1 : List Rec) : List Rec → Nat → Option Bool
  | [], v0_0 => some true
  | e0 :: rs0, v0_0 => bnd1 (idx p1 (v0_0 : Int)) (fun x3 => bnd1 (w_eqRecord e0 x3) (fun x5 => bif !x5 then (some false) else (w_eqRecordS_l0 p1 rs0 (v0_0 + 1))))
def w_eqRecordS (p0 : List Rec) (p1 : List Rec) : Option Bool :=
  bif !decide ((p0.length : Int) = (p1.length : Int)) then (some false) else (w_eqRecordS_l0 p1 p0 0)
/- laws.eqEntry -/
def w_eqEntry (p0 : MEntry) (p1 : MEntry) : Option Bool :=
  bnd1 (w_eqQuest p0.q p1.q) (fun x1 => bif !x1 then (some false) else (bif !decide (p0.kind = p1.kind) then (some false) else (bnd1 (w_eqRecordS p0.l p1.l) (fun x5 => bif !x5 then (some false) else (bif !decide (p0.rank = p1.rank) then (some false) else (bif !decide (p0.til = p1.til) then (some false) else (some true)))))))
/- laws.eqEntryS -/
def w_eqEntryS_l0 (p1 : List MEntry) : List MEntry → Nat → Option Bool
  | [], v0_0 => some true
  | e0 :: rs0, v0_0 => bnd1 (idx p1 (v0_0 : Int)) (fun x3 => bnd1 (w_eqEntry e0 x3) (fun x5 => bif !x5 then (some false) else (w_eqEntryS_l0 p1 rs0 (v0_0 + 1))))
def w_eqEntryS (p0 : List MEntry) (p1 : List MEntry) : Option Bool :=
  bif !decide ((p0.length : Int) = (p1.length : Int)) then (some false) else (w_eqEntryS_l0 p1 p0 0)
/- laws.eqCache -/
def w_eqCache (p0 : MCache) (p1 : MCache) : Option Bool :=
  bif !decide (p0.cap = p1.cap) then (some false) else (bnd1 (w_eqEntryS p0.l p1.l) (fun x2 => bif !x2 then (some false) else (some true)))
/- laws.markText -/
def w_markText_l0  : Nat → Int → ByteArray → Option ByteArray
  | 0, _, _ => none
  | f0 + 1, v0_0, v0_1 => bif decide (0 < v0_0) then (grd (i64 (48 + (Int.tmod v0_0 10))) (grd ((strOfNums [IntKind.u8.wrap (48 + (Int.tmod v0_0 10))]).size + v0_1.size ≤ 9223372036854775807) (w_markText_l0 f0 (IntKind.i64.wrap (Int.tdiv v0_0 10)) ((strOfNums [IntKind.u8.wrap (48 + (Int.tmod v0_0 10))]) ++ v0_1)))) else (grd ((⟨#[109]⟩ : ByteArray).size + v0_1.size ≤ 9223372036854775807) (some ((⟨#[109]⟩ : ByteArray) ++ v0_1)))
def w_markText (p0 : Int) : Option ByteArray :=
  bif decide (p0 ≤ 0) then (some (⟨#[109, 48]⟩ : ByteArray)) else (w_markText_l0 fuel0 p0 (⟨#[]⟩ : ByteArray))
/- laws.markRecordS -/
def w_markRecordS_l0  : Nat → (List Rec) → Int → Int → Option (Int × (List Rec))
  | 0, _, _, _ => none
  | f0 + 1, v0_0, v0_1, v0_2 => bif decide (v0_2 < (v0_0.length : Int)) then (bnd1 (w_markText v0_1) (fun x2 => bnd1 (idx v0_0 v0_2) (fun x4 => grd (i64 (v0_1 + 1)) (grd (i64 ((v0_1 + 1) + 1)) (grd (i64 (((v0_1 + 1) + 1) + 1)) (grd (i64 ((((v0_1 + 1) + 1) + 1) + 1)) (bnd1 (w_markText ((((v0_1 + 1) + 1) + 1) + 1)) (fun x10 => grd (i64 (((((v0_1 + 1) + 1) + 1) + 1) + 1)) (bnd1 (w_markText (((((v0_1 + 1) + 1) + 1) + 1) + 1)) (fun x13 => grd (i64 ((((((v0_1 + 1) + 1) + 1) + 1) + 1) + 1)) (grd (i64 (v0_2 + 1)) (w_markRecordS_l0 f0 ((((((v0_0.set v0_2.toNat (Rec.mk x2 x4.ty x4.ttl x4.n x4.host x4.text)).set v0_2.toNat (Rec.mk x2 (v0_1 + 1) x4.ttl x4.n x4.host x4.text)).set v0_2.toNat (Rec.mk x2 (v0_1 + 1) ((v0_1 + 1) + 1) x4.n x4.host x4.text)).set v0_2.toNat (Rec.mk x2 (v0_1 + 1) ((v0_1 + 1) + 1) (((v0_1 + 1) + 1) + 1) x4.host x4.text)).set v0_2.toNat (Rec.mk x2 (v0_1 + 1) ((v0_1 + 1) + 1) (((v0_1 + 1) + 1) + 1) x10 x4.text)).set v0_2.toNat (Rec.mk x2 (v0_1 + 1) ((v0_1 + 1) + 1) (((v0_1 + 1) + 1) + 1) x10 x13)) ((((((v0_1 + 1) + 1) + 1) + 1) + 1) + 1) (v0_2 + 1))))))))))))) else (some (v0_1, v0_0))
def w_markRecordS (p0 : List Rec) (p1 : Int) : Option (Int × (List Rec)) :=
  w_markRecordS_l0 fuel0 p0 p1 0
/- laws.markEntryS -/
def w_markEntryS_l0 (p0 : List MEntry) (p1 : Int) : Nat → Option (Int × (List MEntry))
  | 0 => none
  | f0 + 1 => bif decide (0 < (p0.length : Int)) then (bnd1 (w_markText p1) (fun x2 => bnd1 (idx p0 0) (fun x4 => grd (i64 (p1 + 1)) (grd (i64 ((p1 + 1) + 1)) (grd (i64 (((p1 + 1) + 1) + 1)) (none)))))) else (some (p1, p0))
def w_markEntryS (p0 : List MEntry) (p1 : Int) : Option (Int × (List MEntry)) :=
  w_markEntryS_l0 p0 p1 fuel0
/- laws.markCache -/
def w_markCache (p0 : MCache) (p1 : Int) : Option (Int × (List MEntry)) :=
  bnd2 (w_markEntryS p0.l p1) (fun x1 x2 => grd (x2.length = p0.l.length) (some (x1, x2)))
/- laws.heldRecordS -/
def w_heldRecordS_l0  : List Rec → Int → Nat → Option Int
  | [], v0_0, v0_1 => some v0_0
  | e0 :: rs0, v0_0, v0_1 => bnd1 (w_markText v0_0) (fun x2 => bif !decide (e0.name = x2) then (some (-1)) else (grd (i64 (v0_0 + 1)) (bif !decide (e0.ty = v0_0 + 1) then (some (-1)) else (grd (i64 ((v0_0 + 1) + 1)) (bif !decide (e0.ttl = (v0_0 + 1) + 1) then (some (-1)) else (grd (i64 (((v0_0 + 1) + 1) + 1)) (bif !decide (e0.n = ((v0_0 + 1) + 1) + 1) then (some (-1)) else (grd (i64 ((((v0_0 + 1) + 1) + 1) + 1)) (bnd1 (w_markText ((((v0_0 + 1) + 1) + 1) + 1)) (fun x12 => bif !decide (e0.host = x12) then (some (-1)) else (grd (i64 (((((v0_0 + 1) + 1) + 1) + 1) + 1)) (bnd1 (w_markText (((((v0_0 + 1) + 1) + 1) + 1) + 1)) (fun x16 => bif !decide (e0.text = x16) then (some (-1)) else (grd (i64 ((((((v0_0 + 1) + 1) + 1) + 1) + 1) + 1)) (w_heldRecordS_l0 rs0 ((((((v0_0 + 1) + 1) + 1) + 1) + 1) + 1) (v0_1 + 1))))))))))))))))
def w_heldRecordS (p0 : List Rec) (p1 : Int) : Option Int :=
  w_heldRecordS_l0 p0 p1 0
/- laws.heldEntryS -/
def w_heldEntryS_l0  : List MEntry → Int → Nat → Option Int
  | [], v0_0, v0_1 => some v0_0
  | e0 :: rs0, v0_0, v0_1 => bnd1 (w_markText v0_0) (fun x2 => bif !decide (e0.q.name = x2) then (some (-1)) else (grd (i64 (v0_0 + 1)) (bif !decide (e0.q.ty = v0_0 + 1) then (some (-1)) else (grd (i64 ((v0_0 + 1) + 1)) (bif !decide (e0.kind = (v0_0 + 1) + 1) then (some (-1)) else (grd (i64 (((v0_0 + 1) + 1) + 1)) (bnd1 (w_heldRecordS e0.l (((v0_0 + 1) + 1) + 1)) (fun x10 => bif decide (x10 < 0) then (some (-1)) else (bif !decide (e0.rank = x10) then (some (-1)) else (grd (i64 (x10 + 1)) (bif !decide (e0.til = x10 + 1) then (some (-1)) else (grd (i64 ((x10 + 1) + 1)) (w_heldEntryS_l0 rs0 ((x10 + 1) + 1) (v0_1 + 1))))))))))))))
def w_heldEntryS (p0 : List MEntry) (p1 : Int) : Option Int :=
  w_heldEntryS_l0 p0 p1 0
/- laws.heldCache -/
def w_heldCache (p0 : MCache) (p1 : Int) : Option Int :=
  bnd1 (w_heldEntryS p0.l p1) (fun x1 => bif decide (x1 < 0) then (some (-1)) else (some x1))
/- laws.FnExactCacheNew -/
def w_FnExactCacheNew (p0 : Int) : Option Bool :=
  bnd1 (s_CacheNew p0) (fun x1 => bnd1 (i_CacheNew p0) (fun x3 => bnd1 (w_eqCache x3 x1) (fun x5 => bif !x5 then (some false) else (bnd2 (w_markCache x3 1) (fun x8 x9 => grd (x9.length = x3.l.length) (bnd1 (w_heldCache (MCache.mk x3.cap x9) 1) (fun x12 => bif decide (x12 < 0) then (some false) else (bif !decide (x12 = x8) then (some false) else (bnd1 (i_CacheNew p0) (fun x16 => bnd1 (w_eqCache x16 x1) (fun x18 => bif !x18 then (some false) else (bnd1 (w_heldCache (MCache.mk x3.cap x9) 1) (fun x21 => bif decide (x21 < 0) then (some false) else (bif !decide (x21 = x8) then (some false) else (some true)))))))))))))))
end Go.Abs.M
