/- The functions that the law of ReplyAt reaches, as pure functions that may fail. -/
import Derived.Test.YtbkmnbpgpklojaaGreatDoorAbsN
namespace Go.Abs.M
open Go Go.Abs
structure Rec where
  name : ByteArray
  ty : Int
  ttl : Int
  n : Int
  host : ByteArray
  text : ByteArray
  deriving DecidableEq
def recV (r : Rec) : List V := [.sc (.string r.name), .sc (.int .i64 r.ty), .sc (.int .i64 r.ttl), .sc (.int .i64 r.n), .sc (.string r.host), .sc (.string r.text)]
theorem recV_free (r : Rec) : (recV r).all (·.free) = true := rfl
theorem recV_len (r : Rec) : (recV r).length = 6 := rfl
def Rec.ok (r : Rec) : Prop := r.name.size ≤ 9223372036854775807 ∧ i64 r.ty ∧ i64 r.ttl ∧ i64 r.n ∧ r.host.size ≤ 9223372036854775807 ∧ r.text.size ≤ 9223372036854775807
theorem recV_sc (r : Rec) : (recV r).all isScN = true := rfl
structure MZone where
  apex : ByteArray
  l : List Rec
  deriving DecidableEq
def mZoneV (r : MZone) : List V := [.sc (.string r.apex), .lst 6 (List.map recV r.l)]
theorem mZoneV_free (r : MZone) : (mZoneV r).all (·.free) = true := rfl
theorem mZoneV_len (r : MZone) : (mZoneV r).length = 2 := rfl
def MZone.ok (r : MZone) : Prop := r.apex.size ≤ 9223372036854775807 ∧ (r.l.length ≤ 9223372036854775807 ∧ ∀ q, q ∈ r.l → q.ok)
structure MPost where
  addr : Int
  apex : ByteArray
  deriving DecidableEq
def mPostV (r : MPost) : List V := [.sc (.int .i64 r.addr), .sc (.string r.apex)]
theorem mPostV_free (r : MPost) : (mPostV r).all (·.free) = true := rfl
theorem mPostV_len (r : MPost) : (mPostV r).length = 2 := rfl
def MPost.ok (r : MPost) : Prop := i64 r.addr ∧ r.apex.size ≤ 9223372036854775807
theorem mPostV_sc (r : MPost) : (mPostV r).all isScN = true := rfl
structure MForest where
  zones : List MZone
  posts : List MPost
  deriving DecidableEq
def mForestV (r : MForest) : List V := [.lst 2 (List.map mZoneV r.zones), .lst 2 (List.map mPostV r.posts)]
theorem mForestV_free (r : MForest) : (mForestV r).all (·.free) = true := rfl
theorem mForestV_len (r : MForest) : (mForestV r).length = 2 := rfl
def MForest.ok (r : MForest) : Prop := (r.zones.length ≤ 9223372036854775807 ∧ ∀ q, q ∈ r.zones → q.ok) ∧ (r.posts.length ≤ 9223372036854775807 ∧ ∀ q, q ∈ r.posts → q.ok)
structure Quest where
  name : ByteArray
  ty : Int
  deriving DecidableEq
def questV (r : Quest) : List V := [.sc (.string r.name), .sc (.int .i64 r.ty)]
theorem questV_free (r : Quest) : (questV r).all (·.free) = true := rfl
theorem questV_len (r : Quest) : (questV r).length = 2 := rfl
def Quest.ok (r : Quest) : Prop := r.name.size ≤ 9223372036854775807 ∧ i64 r.ty
theorem questV_sc (r : Quest) : (questV r).all isScN = true := rfl
structure MMsg where
  id : Int
  reply : Bool
  auth : Bool
  cut : Bool
  want : Bool
  can : Bool
  code : Int
  q : Quest
  an : List Rec
  au : List Rec
  ad : List Rec
  deriving DecidableEq
def mMsgV (r : MMsg) : List V := [.sc (.int .i64 r.id), .sc (.bool r.reply), .sc (.bool r.auth), .sc (.bool r.cut), .sc (.bool r.want), .sc (.bool r.can), .sc (.int .i64 r.code), .sc (.string r.q.name), .sc (.int .i64 r.q.ty), .lst 6 (List.map recV r.an), .lst 6 (List.map recV r.au), .lst 6 (List.map recV r.ad)]
theorem mMsgV_free (r : MMsg) : (mMsgV r).all (·.free) = true := rfl
theorem mMsgV_len (r : MMsg) : (mMsgV r).length = 12 := rfl
def MMsg.ok (r : MMsg) : Prop := i64 r.id ∧ i64 r.code ∧ r.q.ok ∧ (r.an.length ≤ 9223372036854775807 ∧ ∀ q, q ∈ r.an → q.ok) ∧ (r.au.length ≤ 9223372036854775807 ∧ ∀ q, q ∈ r.au → q.ok) ∧ (r.ad.length ≤ 9223372036854775807 ∧ ∀ q, q ∈ r.ad → q.ok)
/- laws.szRecord -/
def w_szRecord (p0 : Rec) (p1 : Int) : Option Int :=
  grd (i64 (p1 - (p0.name.size : Int))) (bif decide (p1 - (p0.name.size : Int) < 0) then (some (-1)) else (grd (i64 ((p1 - (p0.name.size : Int)) - (p0.host.size : Int))) (bif decide ((p1 - (p0.name.size : Int)) - (p0.host.size : Int) < 0) then (some (-1)) else (grd (i64 (((p1 - (p0.name.size : Int)) - (p0.host.size : Int)) - (p0.text.size : Int))) (bif decide (((p1 - (p0.name.size : Int)) - (p0.host.size : Int)) - (p0.text.size : Int) < 0) then (some (-1)) else (some (((p1 - (p0.name.size : Int)) - (p0.host.size : Int)) - (p0.text.size : Int))))))))
/- laws.szRecordS -/
def w_szRecordS_l0  : List Rec → Int → Nat → Option Int
  | [], v0_0, v0_1 => some v0_0
  | e0 :: rs0, v0_0, v0_1 => bnd1 (w_szRecord e0 v0_0) (fun x4 => bif decide (x4 < 0) then (some (-1)) else (w_szRecordS_l0 rs0 x4 (v0_1 + 1)))
def w_szRecordS (p0 : List Rec) (p1 : Int) : Option Int :=
  grd (i64 (p1 - (p0.length : Int))) (bif decide (p1 - (p0.length : Int) < 0) then (some (-1)) else (w_szRecordS_l0 p0 (p1 - (p0.length : Int)) 0))
/- laws.szZone -/
def w_szZone (p0 : MZone) (p1 : Int) : Option Int :=
  grd (i64 (p1 - (p0.apex.size : Int))) (bif decide (p1 - (p0.apex.size : Int) < 0) then (some (-1)) else (bnd1 (w_szRecordS p0.l (p1 - (p0.apex.size : Int))) (fun x3 => bif decide (x3 < 0) then (some (-1)) else (some x3))))
/- laws.szZoneS -/
def w_szZoneS_l0  : List MZone → Int → Nat → Option Int
  | [], v0_0, v0_1 => some v0_0
  | e0 :: rs0, v0_0, v0_1 => bnd1 (w_szZone e0 v0_0) (fun x4 => bif decide (x4 < 0) then (some (-1)) else (w_szZoneS_l0 rs0 x4 (v0_1 + 1)))
def w_szZoneS (p0 : List MZone) (p1 : Int) : Option Int :=
  grd (i64 (p1 - (p0.length : Int))) (bif decide (p1 - (p0.length : Int) < 0) then (some (-1)) else (w_szZoneS_l0 p0 (p1 - (p0.length : Int)) 0))
/- laws.szPost -/
def w_szPost (p0 : MPost) (p1 : Int) : Option Int :=
  grd (i64 (p1 - (p0.apex.size : Int))) (bif decide (p1 - (p0.apex.size : Int) < 0) then (some (-1)) else (some (p1 - (p0.apex.size : Int))))
/- laws.szPostS -/
def w_szPostS_l0  : List MPost → Int → Nat → Option Int
  | [], v0_0, v0_1 => some v0_0
  | e0 :: rs0, v0_0, v0_1 => bnd1 (w_szPost e0 v0_0) (fun x4 => bif decide (x4 < 0) then (some (-1)) else (w_szPostS_l0 rs0 x4 (v0_1 + 1)))
def w_szPostS (p0 : List MPost) (p1 : Int) : Option Int :=
  grd (i64 (p1 - (p0.length : Int))) (bif decide (p1 - (p0.length : Int) < 0) then (some (-1)) else (w_szPostS_l0 p0 (p1 - (p0.length : Int)) 0))
/- laws.szForest -/
def w_szForest (p0 : MForest) (p1 : Int) : Option Int :=
  bnd1 (w_szZoneS p0.zones p1) (fun x1 => bif decide (x1 < 0) then (some (-1)) else (bnd1 (w_szPostS p0.posts x1) (fun x4 => bif decide (x4 < 0) then (some (-1)) else (some x4))))
/- laws.szQuest -/
def w_szQuest (p0 : Quest) (p1 : Int) : Option Int :=
  grd (i64 (p1 - (p0.name.size : Int))) (bif decide (p1 - (p0.name.size : Int) < 0) then (some (-1)) else (some (p1 - (p0.name.size : Int))))
/- laws.szMsg -/
def w_szMsg (p0 : MMsg) (p1 : Int) : Option Int :=
  bnd1 (w_szQuest p0.q p1) (fun x1 => bif decide (x1 < 0) then (some (-1)) else (bnd1 (w_szRecordS p0.an x1) (fun x4 => bif decide (x4 < 0) then (some (-1)) else (bnd1 (w_szRecordS p0.au x4) (fun x7 => bif decide (x7 < 0) then (some (-1)) else (bnd1 (w_szRecordS p0.ad x7) (fun x10 => bif decide (x10 < 0) then (some (-1)) else (some x10))))))))
/- laws.toRecord -/
def w_toRecord (p0 : Rec) : Option Rec :=
  some p0
/- laws.toRecordS -/
def w_toRecordS_l0  : List Rec → (List Rec) → Nat → Option (List Rec)
  | [], v0_0, v0_1 => some v0_0
  | e0 :: rs0, v0_0, v0_1 => bnd1 (w_toRecord e0) (fun x3 => bnd1 (idx v0_0 (v0_1 : Int)) (fun x5 => w_toRecordS_l0 rs0 (v0_0.set ((v0_1 : Int).toNat) x3) (v0_1 + 1)))
def w_toRecordS (p0 : List Rec) : Option (List Rec) :=
  grd (0 ≤ (p0.length : Int) ∧ (p0.length : Int).toNat ≤ 1099511627776) (w_toRecordS_l0 p0 (List.replicate (p0.length : Int).toNat (Rec.mk (⟨#[]⟩ : ByteArray) 0 0 0 (⟨#[]⟩ : ByteArray) (⟨#[]⟩ : ByteArray))) 0)
/- laws.toZone -/
def w_toZone (p0 : MZone) : Option MZone :=
  bnd1 (w_toRecordS p0.l) (fun x1 => some (MZone.mk p0.apex x1))
/- laws.toZoneS -/
def w_toZoneS_l0  : List MZone → (List MZone) → Nat → Option (List MZone)
  | [], v0_0, v0_1 => some v0_0
  | e0 :: rs0, v0_0, v0_1 => bnd1 (w_toZone e0) (fun x3 => bnd1 (idx v0_0 (v0_1 : Int)) (fun x5 => w_toZoneS_l0 rs0 (v0_0.set ((v0_1 : Int).toNat) x3) (v0_1 + 1)))
def w_toZoneS (p0 : List MZone) : Option (List MZone) :=
  grd (0 ≤ (p0.length : Int) ∧ (p0.length : Int).toNat ≤ 1099511627776) (w_toZoneS_l0 p0 (List.replicate (p0.length : Int).toNat (MZone.mk (⟨#[]⟩ : ByteArray) ([] : List Rec))) 0)
/- laws.toPost -/
def w_toPost (p0 : MPost) : Option MPost :=
  some p0
/- laws.toPostS -/
def w_toPostS_l0  : List MPost → (List MPost) → Nat → Option (List MPost)
  | [], v0_0, v0_1 => some v0_0
  | e0 :: rs0, v0_0, v0_1 => bnd1 (w_toPost e0) (fun x3 => bnd1 (idx v0_0 (v0_1 : Int)) (fun x5 => w_toPostS_l0 rs0 (v0_0.set ((v0_1 : Int).toNat) x3) (v0_1 + 1)))
def w_toPostS (p0 : List MPost) : Option (List MPost) :=
  grd (0 ≤ (p0.length : Int) ∧ (p0.length : Int).toNat ≤ 1099511627776) (w_toPostS_l0 p0 (List.replicate (p0.length : Int).toNat (MPost.mk 0 (⟨#[]⟩ : ByteArray))) 0)
/- laws.toForest -/
def w_toForest (p0 : MForest) : Option MForest :=
  bnd1 (w_toZoneS p0.zones) (fun x1 => bnd1 (w_toPostS p0.posts) (fun x3 => some (MForest.mk x1 x3)))
/- laws.toQuest -/
def w_toQuest (p0 : Quest) : Option Quest :=
  some p0
/- laws.toMsg -/
def w_toMsg (p0 : MMsg) : Option MMsg :=
  bnd1 (w_toQuest p0.q) (fun x1 => bnd1 (w_toRecordS p0.an) (fun x3 => bnd1 (w_toRecordS p0.au) (fun x5 => bnd1 (w_toRecordS p0.ad) (fun x7 => some (MMsg.mk p0.id p0.reply p0.auth p0.cut p0.want p0.can p0.code x1 x3 x5 x7)))))
/- spec.l12Posted -/
def s_l12Posted_j1 (v0_0 : Nat) (k0 : Nat → Option Bool) (j1_0 : Bool) : Option Bool :=
  bif j1_0 then (some true) else (k0 (v0_0 + 1))
def s_l12Posted_l0 (p1 : Int) (p2 : ByteArray) : List MPost → Nat → Option Bool
  | [], v0_0 => some false
  | e0 :: rs0, v0_0 => bif decide (e0.addr = p1) then (s_l12Posted_j1 v0_0 (s_l12Posted_l0 p1 p2 rs0) (decide (e0.apex = p2))) else (s_l12Posted_j1 v0_0 (s_l12Posted_l0 p1 p2 rs0) false)
def s_l12Posted (p0 : MForest) (p1 : Int) (p2 : ByteArray) : Option Bool :=
  s_l12Posted_l0 p1 p2 p0.posts 0
/- spec.Labels -/
def s_Labels_j2 (p0 : ByteArray) (v0_0 : List ByteArray) (v0_1 : Int) (v0_2 : Int) (k0 : (List ByteArray) → Int → Int → Option (List ByteArray)) (j2_0 : Bool) : Option (List ByteArray) :=
  bif j2_0 then (grd (0 ≤ v0_1 ∧ v0_1 ≤ v0_2 ∧ v0_2 ≤ (p0.size : Int)) (grd ((v0_0 ++ [p0.extract v0_1.toNat v0_2.toNat]).length ≤ 1099511627776) (grd (i64 (v0_2 + 1)) (grd (i64 (v0_2 + 1)) (k0 (v0_0 ++ [p0.extract v0_1.toNat v0_2.toNat]) (v0_2 + 1) (v0_2 + 1)))))) else (grd (i64 (v0_2 + 1)) (k0 v0_0 v0_1 (v0_2 + 1)))
def s_Labels_j1 (p0 : ByteArray) (v0_0 : List ByteArray) (v0_1 : Int) (v0_2 : Int) (k0 : (List ByteArray) → Int → Int → Option (List ByteArray)) (j1_0 : Bool) : Option (List ByteArray) :=
  bif j1_0 then (bif decide (v0_2 = (p0.size : Int)) then (s_Labels_j2 p0 v0_0 v0_1 v0_2 (k0) true) else (bnd1 (sidx p0 v0_2) (fun x3 => s_Labels_j2 p0 v0_0 v0_1 v0_2 (k0) (decide (x3 = 46))))) else (some v0_0)
def s_Labels_l0 (p0 : ByteArray) : Nat → (List ByteArray) → Int → Int → Option (List ByteArray)
  | 0, _, _, _ => none
  | f0 + 1, v0_0, v0_1, v0_2 => bif decide (v0_2 ≤ (p0.size : Int)) then (s_Labels_j1 p0 v0_0 v0_1 v0_2 (s_Labels_l0 p0 f0) (!decide (p0 = (⟨#[]⟩ : ByteArray)))) else (s_Labels_j1 p0 v0_0 v0_1 v0_2 (s_Labels_l0 p0 f0) false)
def s_Labels (p0 : ByteArray) : Option (List ByteArray) :=
  s_Labels_l0 p0 fuel0 ([] : List ByteArray) 0 0
/- spec.Under -/
def s_Under_l0 (x1 : List ByteArray) (x3 : List ByteArray) : Nat → Int → Option Bool
  | 0, _ => none
  | f0 + 1, v0_0 => bif decide (v0_0 ≤ (x3.length : Int)) then (grd (i64 ((x1.length : Int) - v0_0)) (bnd1 (idx x1 ((x1.length : Int) - v0_0)) (fun x8 => grd (i64 ((x3.length : Int) - v0_0)) (bnd1 (idx x3 ((x3.length : Int) - v0_0)) (fun x11 => bif !decide (x8 = x11) then (some false) else (grd (i64 (v0_0 + 1)) (s_Under_l0 x1 x3 f0 (v0_0 + 1)))))))) else (some true)
def s_Under (p0 : ByteArray) (p1 : ByteArray) : Option Bool :=
  bnd1 (s_Labels p0) (fun x1 => bnd1 (s_Labels p1) (fun x3 => bif decide ((x1.length : Int) < (x3.length : Int)) then (some false) else (s_Under_l0 x1 x3 fuel0 1)))
/- spec.PartsOf -/
def s_PartsOf (p0 : ByteArray) : Option Int :=
  bnd1 (s_Labels p0) (fun x1 => some (x1.length : Int))
/- spec.ZoneAt -/
def s_ZoneAt_j1 (v0_0 : Int) (v0_1 : Nat) (k0 : Int → Nat → Option Int) (j1_0 : Bool) : Option Int :=
  bif j1_0 then (k0 (v0_1 : Int) (v0_1 + 1)) else (k0 v0_0 (v0_1 + 1))
def s_ZoneAt_l0 (p0 : MForest) (p1 : Int) (p2 : ByteArray) : List MZone → Int → Nat → Option Int
  | [], v0_0, v0_1 => some v0_0
  | e0 :: rs0, v0_0, v0_1 => bnd1 (s_l12Posted p0 p1 e0.apex) (fun x2 => bif x2 then (bnd1 (s_Under p2 e0.apex) (fun x5 => bif x5 then (bif decide (v0_0 < 0) then (s_ZoneAt_j1 v0_0 v0_1 (s_ZoneAt_l0 p0 p1 p2 rs0) true) else (bnd1 (s_PartsOf e0.apex) (fun x9 => bnd1 (idx p0.zones v0_0) (fun x11 => bnd1 (s_PartsOf x11.apex) (fun x13 => s_ZoneAt_j1 v0_0 v0_1 (s_ZoneAt_l0 p0 p1 p2 rs0) (decide (x13 < x9))))))) else (s_ZoneAt_j1 v0_0 v0_1 (s_ZoneAt_l0 p0 p1 p2 rs0) false))) else (s_ZoneAt_j1 v0_0 v0_1 (s_ZoneAt_l0 p0 p1 p2 rs0) false))
def s_ZoneAt (p0 : MForest) (p1 : Int) (p2 : ByteArray) : Option Int :=
  s_ZoneAt_l0 p0 p1 p2 p0.zones (-1) 0
/- spec.l7Copy -/
def s_l7Copy (p0 : List Rec) : Option (List Rec) :=
  grd ((([] : List Rec) ++ p0).length ≤ 1099511627776) (some (([] : List Rec) ++ p0))
/- spec.ReplyTo -/
def s_ReplyTo (p0 : MMsg) (p1 : Int) (p2 : Bool) (p3 : List Rec) (p4 : List Rec) (p5 : List Rec) : Option MMsg :=
  bnd1 (s_l7Copy p3) (fun x1 => bnd1 (s_l7Copy p4) (fun x3 => bnd1 (s_l7Copy p5) (fun x5 => some (MMsg.mk p0.id true p2 false p0.want false p1 p0.q x1 x3 x5))))
/- spec.l9Has -/
def s_l9Has_l0 (p1 : ByteArray) : List ByteArray → Nat → Option Bool
  | [], v0_0 => some false
  | e0 :: rs0, v0_0 => bif decide (e0 = p1) then (some true) else (s_l9Has_l0 p1 rs0 (v0_0 + 1))
def s_l9Has (p0 : List ByteArray) (p1 : ByteArray) : Option Bool :=
  s_l9Has_l0 p1 p0 0
/- spec.CutsOf -/
def s_CutsOf_j1 (v0_0 : List ByteArray) (v0_1 : Nat) (e0 : Rec) (k0 : (List ByteArray) → Nat → Option (List ByteArray)) (j1_0 : Bool) : Option (List ByteArray) :=
  bif j1_0 then (grd ((v0_0 ++ [e0.name]).length ≤ 1099511627776) (k0 (v0_0 ++ [e0.name]) (v0_1 + 1))) else (k0 v0_0 (v0_1 + 1))
def s_CutsOf_l0 (p0 : MZone) : List Rec → (List ByteArray) → Nat → Option (List ByteArray)
  | [], v0_0, v0_1 => some v0_0
  | e0 :: rs0, v0_0, v0_1 => bif decide (e0.ty = 2) then (bif !decide (e0.name = p0.apex) then (bnd1 (s_Under e0.name p0.apex) (fun x4 => bif x4 then (bnd1 (s_l9Has v0_0 e0.name) (fun x7 => s_CutsOf_j1 v0_0 v0_1 e0 (s_CutsOf_l0 p0 rs0) (!x7))) else (s_CutsOf_j1 v0_0 v0_1 e0 (s_CutsOf_l0 p0 rs0) false))) else (s_CutsOf_j1 v0_0 v0_1 e0 (s_CutsOf_l0 p0 rs0) false)) else (s_CutsOf_j1 v0_0 v0_1 e0 (s_CutsOf_l0 p0 rs0) false)
def s_CutsOf (p0 : MZone) : Option (List ByteArray) :=
  s_CutsOf_l0 p0 p0.l ([] : List ByteArray) 0
/- spec.CutOf -/
def s_CutOf_l0 (p1 : ByteArray) : List ByteArray → Nat → Option (ByteArray × Bool)
  | [], v0_0 => some ((⟨#[]⟩ : ByteArray), false)
  | e0 :: rs0, v0_0 => bnd1 (s_Under p1 e0) (fun x4 => bif x4 then (some (e0, true)) else (s_CutOf_l0 p1 rs0 (v0_0 + 1)))
def s_CutOf (p0 : MZone) (p1 : ByteArray) : Option (ByteArray × Bool) :=
  bnd1 (s_CutsOf p0) (fun x1 => s_CutOf_l0 p1 x1 0)
/- spec.SetOf -/
def s_SetOf_j1 (v0_0 : List Rec) (v0_1 : Nat) (e0 : Rec) (k0 : (List Rec) → Nat → Option (List Rec)) (j1_0 : Bool) : Option (List Rec) :=
  bif j1_0 then (grd ((v0_0 ++ [e0]).length ≤ 1099511627776) (k0 (v0_0 ++ [e0]) (v0_1 + 1))) else (k0 v0_0 (v0_1 + 1))
def s_SetOf_l0 (p1 : ByteArray) (p2 : Int) : List Rec → (List Rec) → Nat → Option (List Rec)
  | [], v0_0, v0_1 => some v0_0
  | e0 :: rs0, v0_0, v0_1 => bif decide (e0.name = p1) then (s_SetOf_j1 v0_0 v0_1 e0 (s_SetOf_l0 p1 p2 rs0) (decide (e0.ty = p2))) else (s_SetOf_j1 v0_0 v0_1 e0 (s_SetOf_l0 p1 p2 rs0) false)
def s_SetOf (p0 : List Rec) (p1 : ByteArray) (p2 : Int) : Option (List Rec) :=
  s_SetOf_l0 p1 p2 p0 ([] : List Rec) 0
/- spec.Exists -/
def s_Exists_l0 (p1 : ByteArray) : List Rec → Nat → Option Bool
  | [], v0_0 => some false
  | e0 :: rs0, v0_0 => bnd1 (s_Under e0.name p1) (fun x2 => bif x2 then (some true) else (s_Exists_l0 p1 rs0 (v0_0 + 1)))
def s_Exists (p0 : MZone) (p1 : ByteArray) : Option Bool :=
  s_Exists_l0 p1 p0.l 0
/- spec.KindIn -/
def s_KindIn_j0 (p0 : MZone) (p1 : Quest) (j0_0 : Bool) : Option Int :=
  bif j0_0 then (some 2) else (bnd1 (s_SetOf p0.l p1.name p1.ty) (fun x9 => bif decide (0 < (x9.length : Int)) then (some 3) else (bnd1 (s_Exists p0 p1.name) (fun x12 => bif x12 then (some 4) else (some 5)))))
def s_KindIn (p0 : MZone) (p1 : Quest) : Option Int :=
  bnd2 (s_CutOf p0 p1.name) (fun x1 x2 => bnd1 (s_Under p1.name p0.apex) (fun x4 => bif !x4 then (some 0) else (bif x2 then (some 1) else (bif !decide (p1.ty = 5) then (bnd1 (s_SetOf p0.l p1.name 5) (fun x9 => s_KindIn_j0 p0 p1 (decide (0 < (x9.length : Int))))) else (s_KindIn_j0 p0 p1 false)))))
/- spec.AnswerIn -/
def s_AnswerIn (p0 : MZone) (p1 : Quest) : Option (List Rec) :=
  bnd1 (s_KindIn p0 p1) (fun x1 => bif decide (x1 = 2) then (bnd1 (s_SetOf p0.l p1.name 5) (fun x4 => some x4)) else (bif decide (x1 = 3) then (bnd1 (s_SetOf p0.l p1.name p1.ty) (fun x7 => some x7)) else (some ([] : List Rec))))
/- spec.Least -/
def s_Least (p0 : Int) (p1 : Int) : Option Int :=
  bif decide (p1 < p0) then (some p1) else (some p0)
/- spec.l11First -/
def s_l11First (p0 : List Rec) : Option (List Rec) :=
  bnd1 (s_Least (p0.length : Int) 8) (fun x1 => grd ((0 : Int) ≤ ((0 : Nat) : Int) ∧ ((0 : Nat) : Int) ≤ x1 ∧ x1 ≤ (p0.length : Int)) (bnd1 (s_l7Copy ((p0.drop ((0 : Nat) : Int).toNat).take (x1.toNat - ((0 : Nat) : Int).toNat))) (fun x4 => some x4)))
/- spec.StartOf -/
def s_StartOf_j0  : Option Rec :=
  some (Rec.mk (⟨#[]⟩ : ByteArray) 0 0 0 (⟨#[]⟩ : ByteArray) (⟨#[]⟩ : ByteArray))
def s_StartOf_l1  : List Rec → Nat → Option Rec
  | [], v1_0 => s_StartOf_j0
  | e1 :: rs1, v1_0 => bif decide (e1.ty = 6) then (some e1) else (s_StartOf_l1 rs1 (v1_0 + 1))
def s_StartOf (p0 : MZone) : Option Rec :=
  s_StartOf_l1 p0.l 0
/- spec.MoreIn -/
def s_MoreIn_j0 (p0 : MZone) (j0_0 : Bool) : Option (List Rec) :=
  bif j0_0 then (bnd1 (s_StartOf p0) (fun x10 => some [x10])) else (some ([] : List Rec))
def s_MoreIn (p0 : MZone) (p1 : Quest) : Option (List Rec) :=
  bnd1 (s_KindIn p0 p1) (fun x1 => bif decide (x1 = 1) then (bnd2 (s_CutOf p0 p1.name) (fun x4 x5 => bnd1 (s_SetOf p0.l x4 2) (fun x7 => some x7))) else (bif decide (x1 = 4) then (s_MoreIn_j0 p0 (decide (x1 = 4))) else (s_MoreIn_j0 p0 (decide (x1 = 5)))))
/- spec.Hosts -/
def s_Hosts_j1 (v0_0 : List ByteArray) (v0_1 : Nat) (e0 : Rec) (k0 : (List ByteArray) → Nat → Option (List ByteArray)) (j1_0 : Bool) : Option (List ByteArray) :=
  bif j1_0 then (grd ((v0_0 ++ [e0.host]).length ≤ 1099511627776) (k0 (v0_0 ++ [e0.host]) (v0_1 + 1))) else (k0 v0_0 (v0_1 + 1))
def s_Hosts_l0  : List Rec → (List ByteArray) → Nat → Option (List ByteArray)
  | [], v0_0, v0_1 => some v0_0
  | e0 :: rs0, v0_0, v0_1 => bif decide (e0.ty = 2) then (bnd1 (s_l9Has v0_0 e0.host) (fun x3 => s_Hosts_j1 v0_0 v0_1 e0 (s_Hosts_l0 rs0) (!x3))) else (s_Hosts_j1 v0_0 v0_1 e0 (s_Hosts_l0 rs0) false)
def s_Hosts (p0 : List Rec) : Option (List ByteArray) :=
  s_Hosts_l0 p0 ([] : List ByteArray) 0
/- spec.Glue -/
def s_Glue_l0 (p0 : MZone) : List ByteArray → (List Rec) → Nat → Option (List Rec)
  | [], v0_0, v0_1 => some v0_0
  | e0 :: rs0, v0_0, v0_1 => bnd1 (s_SetOf p0.l e0 1) (fun x2 => grd ((v0_0 ++ x2).length ≤ 1099511627776) (s_Glue_l0 p0 rs0 (v0_0 ++ x2) (v0_1 + 1)))
def s_Glue (p0 : MZone) (p1 : List ByteArray) : Option (List Rec) :=
  s_Glue_l0 p0 p1 ([] : List Rec) 0
/- spec.HelpIn -/
def s_HelpIn (p0 : MZone) (p1 : Quest) : Option (List Rec) :=
  bnd1 (s_KindIn p0 p1) (fun x1 => bif !decide (x1 = 1) then (some ([] : List Rec)) else (bnd1 (s_MoreIn p0 p1) (fun x4 => bnd1 (s_Hosts x4) (fun x6 => bnd1 (s_Glue p0 x6) (fun x8 => some x8)))))
/- spec.Serve -/
def s_Serve_j1 (p0 : MZone) (p1 : MMsg) (j0_0 : Int) (j1_0 : Bool) : Option MMsg :=
  bnd1 (s_AnswerIn p0 p1.q) (fun x3 => bnd1 (s_l11First x3) (fun x5 => bnd1 (s_MoreIn p0 p1.q) (fun x7 => bnd1 (s_l11First x7) (fun x9 => bnd1 (s_HelpIn p0 p1.q) (fun x11 => bnd1 (s_l11First x11) (fun x13 => bnd1 (s_ReplyTo p1 j0_0 j1_0 x5 x9 x13) (fun x15 => some x15)))))))
def s_Serve_j0 (p0 : MZone) (p1 : MMsg) (x1 : Int) (j0_0 : Int) : Option MMsg :=
  bif !decide (x1 = 0) then (s_Serve_j1 p0 p1 j0_0 (!decide (x1 = 1))) else (s_Serve_j1 p0 p1 j0_0 false)
def s_Serve (p0 : MZone) (p1 : MMsg) : Option MMsg :=
  bnd1 (s_KindIn p0 p1.q) (fun x1 => bif decide (x1 = 0) then (s_Serve_j0 p0 p1 x1 5) else (bif decide (x1 = 5) then (s_Serve_j0 p0 p1 x1 3) else (s_Serve_j0 p0 p1 x1 0)))
/- spec.ReplyAt -/
def s_ReplyAt (p0 : MForest) (p1 : Int) (p2 : MMsg) : Option MMsg :=
  bnd1 (s_ZoneAt p0 p1 p2.q.name) (fun x1 => bif decide (x1 < 0) then (bnd1 (s_ReplyTo p2 5 false ([] : List Rec) ([] : List Rec) ([] : List Rec)) (fun x4 => some x4)) else (bnd1 (idx p0.zones x1) (fun x6 => bnd1 (s_Serve x6 p2) (fun x8 => some x8))))
/- stringslite.IndexByte -/
def internal_stringslite_IndexByte (p0 : ByteArray) (p1 : Int) : Option Int :=
  some (Lib.indexByte p0.data.toList p1.toNat.toUInt8)
/- stringslite.Index -/
def internal_stringslite_Index_j0 (p0 : ByteArray) (p1 : ByteArray) (j0_0 : Bool) : Option Int :=
  bif j0_0 then (some 0) else (bif decide ((p1.size : Int) = 1) then (bnd1 (sidx p1 0) (fun x3 => bnd1 (internal_stringslite_IndexByte p0 x3) (fun x5 => some x5))) else (bif decide ((p0.size : Int) ≤ (p1.size : Int)) then (some (-1)) else (none)))
def internal_stringslite_Index (p0 : ByteArray) (p1 : ByteArray) : Option Int :=
  bif decide ((p1.size : Int) = 0) then (internal_stringslite_Index_j0 p0 p1 true) else (internal_stringslite_Index_j0 p0 p1 (decide (p1 = p0)))
/- strings.Index -/
def strings_Index (p0 : ByteArray) (p1 : ByteArray) : Option Int :=
  bnd1 (internal_stringslite_Index p0 p1) (fun x1 => some x1)
/- strings.Count -/
def strings_Count_l0 (p1 : ByteArray) : Nat → ByteArray → Int → Option Int
  | 0, _, _ => none
  | f0 + 1, v0_0, v0_1 => bnd1 (strings_Index v0_0 p1) (fun x5 => bif decide (x5 = (-1)) then (some v0_1) else (grd (i64 (v0_1 + 1)) (grd (i64 (x5 + (p1.size : Int))) (grd (0 ≤ x5 + (p1.size : Int) ∧ x5 + (p1.size : Int) ≤ (v0_0.size : Int) ∧ (v0_0.size : Int) ≤ (v0_0.size : Int)) (strings_Count_l0 p1 f0 (v0_0.extract (x5 + (p1.size : Int)).toNat (v0_0.size : Int).toNat) (v0_1 + 1))))))
def strings_Count (p0 : ByteArray) (p1 : ByteArray) : Option Int :=
  bif decide ((p1.size : Int) = 0) then (none) else (bif decide ((p1.size : Int) = 1) then (bnd1 (sidx p1 0) (fun x3 => some (Lib.countByte p0.data.toList x3.toNat.toUInt8 : Int))) else (strings_Count_l0 p1 fuel0 p0 0))
/- strings.genSplit -/
def strings_genSplit_j1  (j1_0 : ByteArray) (j1_1 : List ByteArray) (j1_2 : Int) : Option (List ByteArray) :=
  bnd1 (idx j1_1 j1_2) (fun x6 => grd (i64 (j1_2 + 1)) (grd ((0 : Int) ≤ ((0 : Nat) : Int) ∧ ((0 : Nat) : Int) ≤ j1_2 + 1 ∧ j1_2 + 1 ≤ (j1_1.length : Int)) (some (((j1_1.set j1_2.toNat j1_0).drop (0 + ((0 : Nat) : Int).toNat)).take ((j1_2 + 1).toNat - ((0 : Nat) : Int).toNat)))))
def strings_genSplit_l2 (p0 : ByteArray) (p1 : ByteArray) (p2 : Int) (j0_0 : Int) : Nat → ByteArray → (List ByteArray) → Int → Option (List ByteArray)
  | 0, _, _, _ => none
  | f2 + 1, v2_0, v2_1, v2_2 => bif decide (v2_2 < (if (p0.size : Int) + 1 < j0_0 then (p0.size : Int) + 1 else j0_0) - 1) then (bnd1 (strings_Index v2_0 p1) (fun x7 => bif decide (x7 < 0) then (strings_genSplit_j1 v2_0 v2_1 v2_2) else (grd (i64 (x7 + p2)) (grd (0 ≤ ((0 : Nat) : Int) ∧ ((0 : Nat) : Int) ≤ x7 + p2 ∧ x7 + p2 ≤ (v2_0.size : Int)) (bnd1 (idx v2_1 v2_2) (fun x12 => grd (i64 (x7 + (p1.size : Int))) (grd (0 ≤ x7 + (p1.size : Int) ∧ x7 + (p1.size : Int) ≤ (v2_0.size : Int) ∧ (v2_0.size : Int) ≤ (v2_0.size : Int)) (grd (i64 (v2_2 + 1)) (strings_genSplit_l2 p0 p1 p2 j0_0 f2 (v2_0.extract (x7 + (p1.size : Int)).toNat (v2_0.size : Int).toNat) (v2_1.set v2_2.toNat (v2_0.extract ((0 : Nat) : Int).toNat (x7 + p2).toNat)) (v2_2 + 1)))))))))) else (strings_genSplit_j1 v2_0 v2_1 v2_2)
def strings_genSplit_j0 (p0 : ByteArray) (p1 : ByteArray) (p2 : Int) (j0_0 : Int) : Option (List ByteArray) :=
  grd (i64 ((p0.size : Int) + 1)) (grd (0 ≤ (if (p0.size : Int) + 1 < j0_0 then (p0.size : Int) + 1 else j0_0) ∧ (if (p0.size : Int) + 1 < j0_0 then (p0.size : Int) + 1 else j0_0).toNat ≤ 1099511627776) (grd (i64 ((if (p0.size : Int) + 1 < j0_0 then (p0.size : Int) + 1 else j0_0) - 1)) (strings_genSplit_l2 p0 p1 p2 j0_0 fuel0 p0 (List.replicate (if (p0.size : Int) + 1 < j0_0 then (p0.size : Int) + 1 else j0_0).toNat (⟨#[]⟩ : ByteArray)) 0)))
def strings_genSplit (p0 : ByteArray) (p1 : ByteArray) (p2 : Int) (p3 : Int) : Option (List ByteArray) :=
  bif decide (p3 = 0) then (some ([] : List ByteArray)) else (bif decide (p1 = (⟨#[]⟩ : ByteArray)) then (none) else (bif decide (p3 < 0) then (bnd1 (strings_Count p0 p1) (fun x4 => grd (i64 (x4 + 1)) (strings_genSplit_j0 p0 p1 p2 (x4 + 1)))) else (strings_genSplit_j0 p0 p1 p2 p3)))
/- strings.Split -/
def strings_Split (p0 : ByteArray) (p1 : ByteArray) : Option (List ByteArray) :=
  bnd1 (strings_genSplit p0 p1 0 (-1)) (fun x1 => some x1)
/- impl.Labels -/
def i_Labels (p0 : ByteArray) : Option (List ByteArray) :=
  bif decide (p0 = (⟨#[]⟩ : ByteArray)) then (some ([] : List ByteArray)) else (bnd1 (strings_Split p0 (⟨#[46]⟩ : ByteArray)) (fun x2 => some x2))
/- slices.Equal[[]string,string] -/
def slices_Equal_string_l0 (p1 : List ByteArray) : List ByteArray → Nat → Option Bool
  | [], v0_0 => some true
  | e0 :: rs0, v0_0 => bnd1 (idx p1 (v0_0 : Int)) (fun x3 => bif !decide (e0 = x3) then (some false) else (slices_Equal_string_l0 p1 rs0 (v0_0 + 1)))
def slices_Equal_string (p0 : List ByteArray) (p1 : List ByteArray) : Option Bool :=
  bif !decide ((p0.length : Int) = (p1.length : Int)) then (some false) else (slices_Equal_string_l0 p1 p0 0)
/- impl.Under -/
def i_Under (p0 : ByteArray) (p1 : ByteArray) : Option Bool :=
  bnd1 (i_Labels p0) (fun x1 => bnd1 (i_Labels p1) (fun x3 => bif decide ((x3.length : Int) ≤ (x1.length : Int)) then (grd (i64 ((x1.length : Int) - (x3.length : Int))) (grd ((0 : Int) ≤ (x1.length : Int) - (x3.length : Int) ∧ (x1.length : Int) - (x3.length : Int) ≤ (x1.length : Int) ∧ (x1.length : Int) ≤ (x1.length : Int)) (bnd1 (slices_Equal_string ((x1.drop (0 + ((x1.length : Int) - (x3.length : Int)).toNat)).take ((x1.length : Int).toNat - ((x1.length : Int) - (x3.length : Int)).toNat)) x3) (fun x8 => some x8)))) else (some false)))
/- impl.PartsOf -/
def i_PartsOf (p0 : ByteArray) : Option Int :=
  bnd1 (i_Labels p0) (fun x1 => some (x1.length : Int))
/- impl.deepest -/
def i_deepest_j1 (v0_0 : Int) (v0_1 : Nat) (k0 : Int → Nat → Option Int) (j1_0 : Bool) : Option Int :=
  bif j1_0 then (k0 (v0_1 : Int) (v0_1 + 1)) else (k0 v0_0 (v0_1 + 1))
def i_deepest_l0 (p0 : MForest) (p1 : ByteArray) (p2 : ByteArray → Option Bool) : List MZone → Int → Nat → Option Int
  | [], v0_0, v0_1 => some v0_0
  | e0 :: rs0, v0_0, v0_1 => bnd1 (i_Under p1 e0.apex) (fun x2 => bif x2 then (bnd1 (p2 e0.apex) (fun x5 => bif x5 then (bif decide (v0_0 < 0) then (i_deepest_j1 v0_0 v0_1 (i_deepest_l0 p0 p1 p2 rs0) true) else (bnd1 (i_PartsOf e0.apex) (fun x9 => bnd1 (idx p0.zones v0_0) (fun x11 => bnd1 (i_PartsOf x11.apex) (fun x13 => i_deepest_j1 v0_0 v0_1 (i_deepest_l0 p0 p1 p2 rs0) (decide (x13 < x9))))))) else (i_deepest_j1 v0_0 v0_1 (i_deepest_l0 p0 p1 p2 rs0) false))) else (i_deepest_j1 v0_0 v0_1 (i_deepest_l0 p0 p1 p2 rs0) false))
def i_deepest (p0 : MForest) (p1 : ByteArray) (p2 : ByteArray → Option Bool) : Option Int :=
  i_deepest_l0 p0 p1 p2 p0.zones (-1) 0
/- impl.Post] -/
def slices_Index_Post_l0 (p1 : MPost) : List MPost → Nat → Option Int
  | [], v0_0 => some (-1)
  | e0 :: rs0, v0_0 => bif (decide (p1.addr = e0.addr) && (decide (p1.apex = e0.apex) && true)) then (some (v0_0 : Int)) else (slices_Index_Post_l0 p1 rs0 (v0_0 + 1))
def slices_Index_Post (p0 : List MPost) (p1 : MPost) : Option Int :=
  slices_Index_Post_l0 p1 p0 0
/- impl.Post] -/
def slices_Contains_Post (p0 : List MPost) (p1 : MPost) : Option Bool :=
  bnd1 (slices_Index_Post p0 p1) (fun x1 => some (decide (0 ≤ x1)))
/- impl.ZoneAt$1 -/
def i_ZoneAt_1 (p0 : ByteArray) (p1 : MForest) (p2 : Int) : Option Bool :=
  bnd1 (slices_Contains_Post p1.posts (MPost.mk p2 p0)) (fun x1 => some x1)
/- impl.ZoneAt -/
def i_ZoneAt (p0 : MForest) (p1 : Int) (p2 : ByteArray) : Option Int :=
  bnd1 (i_deepest p0 p2 (fun a0 => i_ZoneAt_1 a0 p0 p1)) (fun x1 => some x1)
/- impl.Record] -/
def slices_Clone_Record (p0 : List Rec) : Option (List Rec) :=
  grd ((([] : List Rec) ++ p0).length ≤ 1099511627776) (some (([] : List Rec) ++ p0))
/- impl.copyMsg -/
def i_copyMsg (p0 : MMsg) : Option MMsg :=
  bnd1 (slices_Clone_Record p0.an) (fun x1 => bnd1 (slices_Clone_Record p0.au) (fun x3 => bnd1 (slices_Clone_Record p0.ad) (fun x5 => some (MMsg.mk p0.id p0.reply p0.auth p0.cut p0.want p0.can p0.code p0.q x1 x3 x5))))
/- impl.ReplyTo -/
def i_ReplyTo (p0 : MMsg) (p1 : Int) (p2 : Bool) (p3 : List Rec) (p4 : List Rec) (p5 : List Rec) : Option MMsg :=
  bnd1 (i_copyMsg (MMsg.mk p0.id true p2 false p0.want false p1 p0.q p3 p4 p5)) (fun x1 => some x1)
/- slices.Index[[]string,string] -/
def slices_Index_string_l0 (p1 : ByteArray) : List ByteArray → Nat → Option Int
  | [], v0_0 => some (-1)
  | e0 :: rs0, v0_0 => bif decide (p1 = e0) then (some (v0_0 : Int)) else (slices_Index_string_l0 p1 rs0 (v0_0 + 1))
def slices_Index_string (p0 : List ByteArray) (p1 : ByteArray) : Option Int :=
  slices_Index_string_l0 p1 p0 0
/- slices.Contains[[]string,string] -/
def slices_Contains_string (p0 : List ByteArray) (p1 : ByteArray) : Option Bool :=
  bnd1 (slices_Index_string p0 p1) (fun x1 => some (decide (0 ≤ x1)))
/- impl.CutsOf -/
def i_CutsOf_j1 (v0_0 : List ByteArray) (v0_1 : Nat) (e0 : Rec) (k0 : (List ByteArray) → Nat → Option (List ByteArray)) (j1_0 : Bool) : Option (List ByteArray) :=
  bif j1_0 then (grd ((v0_0 ++ [e0.name]).length ≤ 1099511627776) (k0 (v0_0 ++ [e0.name]) (v0_1 + 1))) else (k0 v0_0 (v0_1 + 1))
def i_CutsOf_l0 (p0 : MZone) : List Rec → (List ByteArray) → Nat → Option (List ByteArray)
  | [], v0_0, v0_1 => some v0_0
  | e0 :: rs0, v0_0, v0_1 => bif decide (e0.ty = 2) then (bif !decide (e0.name = p0.apex) then (bnd1 (i_Under e0.name p0.apex) (fun x4 => bif x4 then (bnd1 (slices_Contains_string v0_0 e0.name) (fun x7 => i_CutsOf_j1 v0_0 v0_1 e0 (i_CutsOf_l0 p0 rs0) (!x7))) else (i_CutsOf_j1 v0_0 v0_1 e0 (i_CutsOf_l0 p0 rs0) false))) else (i_CutsOf_j1 v0_0 v0_1 e0 (i_CutsOf_l0 p0 rs0) false)) else (i_CutsOf_j1 v0_0 v0_1 e0 (i_CutsOf_l0 p0 rs0) false)
def i_CutsOf (p0 : MZone) : Option (List ByteArray) :=
  i_CutsOf_l0 p0 p0.l ([] : List ByteArray) 0
/- impl.CutOf -/
def i_CutOf_l0 (p1 : ByteArray) : List ByteArray → Nat → Option (ByteArray × Bool)
  | [], v0_0 => some ((⟨#[]⟩ : ByteArray), false)
  | e0 :: rs0, v0_0 => bnd1 (i_Under p1 e0) (fun x4 => bif x4 then (some (e0, true)) else (i_CutOf_l0 p1 rs0 (v0_0 + 1)))
def i_CutOf (p0 : MZone) (p1 : ByteArray) : Option (ByteArray × Bool) :=
  bnd1 (i_CutsOf p0) (fun x1 => i_CutOf_l0 p1 x1 0)
/- impl.SetOf -/
def i_SetOf_j1 (v0_0 : List Rec) (v0_1 : Nat) (e0 : Rec) (k0 : (List Rec) → Nat → Option (List Rec)) (j1_0 : Bool) : Option (List Rec) :=
  bif j1_0 then (grd ((v0_0 ++ [e0]).length ≤ 1099511627776) (k0 (v0_0 ++ [e0]) (v0_1 + 1))) else (k0 v0_0 (v0_1 + 1))
def i_SetOf_l0 (p1 : ByteArray) (p2 : Int) : List Rec → (List Rec) → Nat → Option (List Rec)
  | [], v0_0, v0_1 => some v0_0
  | e0 :: rs0, v0_0, v0_1 => bif decide (e0.name = p1) then (i_SetOf_j1 v0_0 v0_1 e0 (i_SetOf_l0 p1 p2 rs0) (decide (e0.ty = p2))) else (i_SetOf_j1 v0_0 v0_1 e0 (i_SetOf_l0 p1 p2 rs0) false)
def i_SetOf (p0 : List Rec) (p1 : ByteArray) (p2 : Int) : Option (List Rec) :=
  i_SetOf_l0 p1 p2 p0 ([] : List Rec) 0
/- impl.Record] -/
def slices_IndexFunc_Record_l0 (p1 : Rec → Option Bool) : List Rec → Nat → Option Int
  | [], v0_0 => some (-1)
  | e0 :: rs0, v0_0 => bnd1 (p1 e0) (fun x2 => bif x2 then (some (v0_0 : Int)) else (slices_IndexFunc_Record_l0 p1 rs0 (v0_0 + 1)))
def slices_IndexFunc_Record (p0 : List Rec) (p1 : Rec → Option Bool) : Option Int :=
  slices_IndexFunc_Record_l0 p1 p0 0
/- impl.Record] -/
def slices_ContainsFunc_Record (p0 : List Rec) (p1 : Rec → Option Bool) : Option Bool :=
  bnd1 (slices_IndexFunc_Record p0 p1) (fun x1 => some (decide (0 ≤ x1)))
/- impl.Exists$1 -/
def i_Exists_1 (p0 : Rec) (p1 : ByteArray) : Option Bool :=
  bnd1 (i_Under p0.name p1) (fun x1 => some x1)
/- impl.Exists -/
def i_Exists (p0 : MZone) (p1 : ByteArray) : Option Bool :=
  bnd1 (slices_ContainsFunc_Record p0.l (fun a0 => i_Exists_1 a0 p1)) (fun x1 => some x1)
/- impl.KindIn -/
def i_KindIn_j0 (p0 : MZone) (p1 : Quest) (j0_0 : Bool) : Option Int :=
  bif j0_0 then (some 2) else (bnd1 (i_SetOf p0.l p1.name p1.ty) (fun x9 => bif decide (0 < (x9.length : Int)) then (some 3) else (bnd1 (i_Exists p0 p1.name) (fun x12 => bif x12 then (some 4) else (some 5)))))
def i_KindIn (p0 : MZone) (p1 : Quest) : Option Int :=
  bnd2 (i_CutOf p0 p1.name) (fun x1 x2 => bnd1 (i_Under p1.name p0.apex) (fun x4 => bif !x4 then (some 0) else (bif x2 then (some 1) else (bif !decide (p1.ty = 5) then (bnd1 (i_SetOf p0.l p1.name 5) (fun x9 => i_KindIn_j0 p0 p1 (decide (0 < (x9.length : Int))))) else (i_KindIn_j0 p0 p1 false)))))
/- impl.AnswerIn -/
def i_AnswerIn (p0 : MZone) (p1 : Quest) : Option (List Rec) :=
  bnd1 (i_KindIn p0 p1) (fun x1 => bif decide (x1 = 2) then (bnd1 (i_SetOf p0.l p1.name 5) (fun x4 => some x4)) else (bif decide (x1 = 3) then (bnd1 (i_SetOf p0.l p1.name p1.ty) (fun x7 => some x7)) else (some ([] : List Rec))))
/- impl.some -/
def i_some (p0 : List Rec) : Option (List Rec) :=
  grd ((0 : Int) ≤ ((0 : Nat) : Int) ∧ ((0 : Nat) : Int) ≤ (if 8 < (p0.length : Int) then 8 else (p0.length : Int)) ∧ (if 8 < (p0.length : Int) then 8 else (p0.length : Int)) ≤ (p0.length : Int)) (some ((p0.drop ((0 : Nat) : Int).toNat).take ((if 8 < (p0.length : Int) then 8 else (p0.length : Int)).toNat - ((0 : Nat) : Int).toNat)))
/- impl.firstOf -/
def i_firstOf_j0  : Option Rec :=
  some (Rec.mk (⟨#[]⟩ : ByteArray) 0 0 0 (⟨#[]⟩ : ByteArray) (⟨#[]⟩ : ByteArray))
def i_firstOf_l1 (p1 : Int) : List Rec → Nat → Option Rec
  | [], v1_0 => i_firstOf_j0
  | e1 :: rs1, v1_0 => bif decide (e1.ty = p1) then (some e1) else (i_firstOf_l1 p1 rs1 (v1_0 + 1))
def i_firstOf (p0 : List Rec) (p1 : Int) : Option Rec :=
  i_firstOf_l1 p1 p0 0
/- impl.StartOf -/
def i_StartOf (p0 : MZone) : Option Rec :=
  bnd1 (i_firstOf p0.l 6) (fun x1 => some x1)
/- impl.MoreIn -/
def i_MoreIn_j0 (p0 : MZone) (j0_0 : Bool) : Option (List Rec) :=
  bif j0_0 then (bnd1 (i_StartOf p0) (fun x10 => some [x10])) else (some ([] : List Rec))
def i_MoreIn (p0 : MZone) (p1 : Quest) : Option (List Rec) :=
  bnd1 (i_KindIn p0 p1) (fun x1 => bif decide (x1 = 1) then (bnd2 (i_CutOf p0 p1.name) (fun x4 x5 => bnd1 (i_SetOf p0.l x4 2) (fun x7 => some x7))) else (bif decide (x1 = 4) then (i_MoreIn_j0 p0 (decide (x1 = 4))) else (i_MoreIn_j0 p0 (decide (x1 = 5)))))
/- impl.Hosts -/
def i_Hosts_j1 (v0_0 : List ByteArray) (v0_1 : Nat) (e0 : Rec) (k0 : (List ByteArray) → Nat → Option (List ByteArray)) (j1_0 : Bool) : Option (List ByteArray) :=
  bif j1_0 then (grd ((v0_0 ++ [e0.host]).length ≤ 1099511627776) (k0 (v0_0 ++ [e0.host]) (v0_1 + 1))) else (k0 v0_0 (v0_1 + 1))
def i_Hosts_l0  : List Rec → (List ByteArray) → Nat → Option (List ByteArray)
  | [], v0_0, v0_1 => some v0_0
  | e0 :: rs0, v0_0, v0_1 => bif decide (e0.ty = 2) then (bnd1 (slices_Contains_string v0_0 e0.host) (fun x3 => i_Hosts_j1 v0_0 v0_1 e0 (i_Hosts_l0 rs0) (!x3))) else (i_Hosts_j1 v0_0 v0_1 e0 (i_Hosts_l0 rs0) false)
def i_Hosts (p0 : List Rec) : Option (List ByteArray) :=
  i_Hosts_l0 p0 ([] : List ByteArray) 0
/- impl.Glue -/
def i_Glue_l0 (p0 : MZone) : List ByteArray → (List Rec) → Nat → Option (List Rec)
  | [], v0_0, v0_1 => some v0_0
  | e0 :: rs0, v0_0, v0_1 => bnd1 (i_SetOf p0.l e0 1) (fun x2 => grd ((v0_0 ++ x2).length ≤ 1099511627776) (i_Glue_l0 p0 rs0 (v0_0 ++ x2) (v0_1 + 1)))
def i_Glue (p0 : MZone) (p1 : List ByteArray) : Option (List Rec) :=
  i_Glue_l0 p0 p1 ([] : List Rec) 0
/- impl.HelpIn -/
def i_HelpIn (p0 : MZone) (p1 : Quest) : Option (List Rec) :=
  bnd1 (i_KindIn p0 p1) (fun x1 => bif !decide (x1 = 1) then (some ([] : List Rec)) else (bnd1 (i_MoreIn p0 p1) (fun x4 => bnd1 (i_Hosts x4) (fun x6 => bnd1 (i_Glue p0 x6) (fun x8 => some x8)))))
/- impl.Serve -/
def i_Serve_j0 (p0 : MZone) (p1 : MMsg) (x1 : Int) (j0_0 : Int) : Option MMsg :=
  bif !decide (x1 = 0) then (bnd1 (i_AnswerIn p0 p1.q) (fun x4 => bnd1 (i_some x4) (fun x6 => bnd1 (i_MoreIn p0 p1.q) (fun x8 => bnd1 (i_some x8) (fun x10 => bnd1 (i_HelpIn p0 p1.q) (fun x12 => bnd1 (i_some x12) (fun x14 => bnd1 (i_ReplyTo p1 j0_0 (!decide (x1 = 1)) x6 x10 x14) (fun x16 => some x16)))))))) else (bnd1 (i_AnswerIn p0 p1.q) (fun x18 => bnd1 (i_some x18) (fun x20 => bnd1 (i_MoreIn p0 p1.q) (fun x22 => bnd1 (i_some x22) (fun x24 => bnd1 (i_HelpIn p0 p1.q) (fun x26 => bnd1 (i_some x26) (fun x28 => bnd1 (i_ReplyTo p1 j0_0 false x20 x24 x28) (fun x30 => some x30))))))))
def i_Serve (p0 : MZone) (p1 : MMsg) : Option MMsg :=
  bnd1 (i_KindIn p0 p1.q) (fun x1 => bif decide (x1 = 0) then (i_Serve_j0 p0 p1 x1 5) else (bif decide (x1 = 5) then (i_Serve_j0 p0 p1 x1 3) else (i_Serve_j0 p0 p1 x1 0)))
/- impl.ReplyAt -/
def i_ReplyAt (p0 : MForest) (p1 : Int) (p2 : MMsg) : Option MMsg :=
  bnd1 (i_ZoneAt p0 p1 p2.q.name) (fun x1 => bif decide (x1 < 0) then (bnd1 (i_ReplyTo p2 5 false ([] : List Rec) ([] : List Rec) ([] : List Rec)) (fun x4 => some x4)) else (bnd1 (idx p0.zones x1) (fun x6 => bnd1 (i_Serve x6 p2) (fun x8 => some x8))))
/- laws.eqQuest -/
def w_eqQuest (p0 : Quest) (p1 : Quest) : Option Bool :=
  bif !decide (p0.name = p1.name) then (some false) else (bif !decide (p0.ty = p1.ty) then (some false) else (some true))
/- laws.eqRecord -/
def w_eqRecord (p0 : Rec) (p1 : Rec) : Option Bool :=
  bif !decide (p0.name = p1.name) then (some false) else (bif !decide (p0.ty = p1.ty) then (some false) else (bif !decide (p0.ttl = p1.ttl) then (some false) else (bif !decide (p0.n = p1.n) then (some false) else (bif !decide (p0.host = p1.host) then (some false) else (bif !decide (p0.text = p1.text) then (some false) else (some true))))))
/- laws.eqRecordS -/
def w_eqRecordS_l0 (p1 : List Rec) : List Rec → Nat → Option Bool
  | [], v0_0 => some true
  | e0 :: rs0, v0_0 => bnd1 (idx p1 (v0_0 : Int)) (fun x3 => bnd1 (w_eqRecord e0 x3) (fun x5 => bif !x5 then (some false) else (w_eqRecordS_l0 p1 rs0 (v0_0 + 1))))
def w_eqRecordS (p0 : List Rec) (p1 : List Rec) : Option Bool :=
  bif !decide ((p0.length : Int) = (p1.length : Int)) then (some false) else (w_eqRecordS_l0 p1 p0 0)
/- laws.eqMsg -/
def w_eqMsg (p0 : MMsg) (p1 : MMsg) : Option Bool :=
  bif !decide (p0.id = p1.id) then (some false) else (bif !(p0.reply == p1.reply) then (some false) else (bif !(p0.auth == p1.auth) then (some false) else (bif !(p0.cut == p1.cut) then (some false) else (bif !(p0.want == p1.want) then (some false) else (bif !(p0.can == p1.can) then (some false) else (bif !decide (p0.code = p1.code) then (some false) else (bnd1 (w_eqQuest p0.q p1.q) (fun x8 => bif !x8 then (some false) else (bnd1 (w_eqRecordS p0.an p1.an) (fun x11 => bif !x11 then (some false) else (bnd1 (w_eqRecordS p0.au p1.au) (fun x14 => bif !x14 then (some false) else (bnd1 (w_eqRecordS p0.ad p1.ad) (fun x17 => bif !x17 then (some false) else (some true)))))))))))))))
/- laws.eqZone -/
def w_eqZone (p0 : MZone) (p1 : MZone) : Option Bool :=
  bif !decide (p0.apex = p1.apex) then (some false) else (bnd1 (w_eqRecordS p0.l p1.l) (fun x2 => bif !x2 then (some false) else (some true)))
/- laws.eqZoneS -/
def w_eqZoneS_l0 (p1 : List MZone) : List MZone → Nat → Option Bool
  | [], v0_0 => some true
  | e0 :: rs0, v0_0 => bnd1 (idx p1 (v0_0 : Int)) (fun x3 => bnd1 (w_eqZone e0 x3) (fun x5 => bif !x5 then (some false) else (w_eqZoneS_l0 p1 rs0 (v0_0 + 1))))
def w_eqZoneS (p0 : List MZone) (p1 : List MZone) : Option Bool :=
  bif !decide ((p0.length : Int) = (p1.length : Int)) then (some false) else (w_eqZoneS_l0 p1 p0 0)
/- laws.eqPost -/
def w_eqPost (p0 : MPost) (p1 : MPost) : Option Bool :=
  bif !decide (p0.addr = p1.addr) then (some false) else (bif !decide (p0.apex = p1.apex) then (some false) else (some true))
/- laws.eqPostS -/
def w_eqPostS_l0 (p1 : List MPost) : List MPost → Nat → Option Bool
  | [], v0_0 => some true
  | e0 :: rs0, v0_0 => bnd1 (idx p1 (v0_0 : Int)) (fun x3 => bnd1 (w_eqPost e0 x3) (fun x5 => bif !x5 then (some false) else (w_eqPostS_l0 p1 rs0 (v0_0 + 1))))
def w_eqPostS (p0 : List MPost) (p1 : List MPost) : Option Bool :=
  bif !decide ((p0.length : Int) = (p1.length : Int)) then (some false) else (w_eqPostS_l0 p1 p0 0)
/- laws.eqForest -/
def w_eqForest (p0 : MForest) (p1 : MForest) : Option Bool :=
  bnd1 (w_eqZoneS p0.zones p1.zones) (fun x1 => bif !x1 then (some false) else (bnd1 (w_eqPostS p0.posts p1.posts) (fun x4 => bif !x4 then (some false) else (some true))))
/- laws.markText -/
def w_markText_l0  : Nat → Int → ByteArray → Option ByteArray
  | 0, _, _ => none
  | f0 + 1, v0_0, v0_1 => bif decide (0 < v0_0) then (grd (i64 (48 + (Int.tmod v0_0 10))) (grd ((strOfNums [IntKind.u8.wrap (48 + (Int.tmod v0_0 10))]).size + v0_1.size ≤ 9223372036854775807) (w_markText_l0 f0 (IntKind.i64.wrap (Int.tdiv v0_0 10)) ((strOfNums [IntKind.u8.wrap (48 + (Int.tmod v0_0 10))]) ++ v0_1)))) else (grd ((⟨#[109]⟩ : ByteArray).size + v0_1.size ≤ 9223372036854775807) (some ((⟨#[109]⟩ : ByteArray) ++ v0_1)))
def w_markText (p0 : Int) : Option ByteArray :=
  bif decide (p0 ≤ 0) then (some (⟨#[109, 48]⟩ : ByteArray)) else (w_markText_l0 fuel0 p0 (⟨#[]⟩ : ByteArray))
/- laws.markRecordS -/
def w_markRecordS_l0  : Nat → (List Rec) → Int → Int → Option (Int × (List Rec))
  | 0, _, _, _ => none
  | f0 + 1, v0_0, v0_1, v0_2 => bif decide (v0_2 < (v0_0.length : Int)) then (bnd1 (w_markText v0_1) (fun x2 => bnd1 (idx v0_0 v0_2) (fun x4 => grd (i64 (v0_1 + 1)) (grd (i64 ((v0_1 + 1) + 1)) (grd (i64 (((v0_1 + 1) + 1) + 1)) (grd (i64 ((((v0_1 + 1) + 1) + 1) + 1)) (bnd1 (w_markText ((((v0_1 + 1) + 1) + 1) + 1)) (fun x10 => grd (i64 (((((v0_1 + 1) + 1) + 1) + 1) + 1)) (bnd1 (w_markText (((((v0_1 + 1) + 1) + 1) + 1) + 1)) (fun x13 => grd (i64 ((((((v0_1 + 1) + 1) + 1) + 1) + 1) + 1)) (grd (i64 (v0_2 + 1)) (w_markRecordS_l0 f0 ((((((v0_0.set v0_2.toNat (Rec.mk x2 x4.ty x4.ttl x4.n x4.host x4.text)).set v0_2.toNat (Rec.mk x2 (v0_1 + 1) x4.ttl x4.n x4.host x4.text)).set v0_2.toNat (Rec.mk x2 (v0_1 + 1) ((v0_1 + 1) + 1) x4.n x4.host x4.text)).set v0_2.toNat (Rec.mk x2 (v0_1 + 1) ((v0_1 + 1) + 1) (((v0_1 + 1) + 1) + 1) x4.host x4.text)).set v0_2.toNat (Rec.mk x2 (v0_1 + 1) ((v0_1 + 1) + 1) (((v0_1 + 1) + 1) + 1) x10 x4.text)).set v0_2.toNat (Rec.mk x2 (v0_1 + 1) ((v0_1 + 1) + 1) (((v0_1 + 1) + 1) + 1) x10 x13)) ((((((v0_1 + 1) + 1) + 1) + 1) + 1) + 1) (v0_2 + 1))))))))))))) else (some (v0_1, v0_0))
def w_markRecordS (p0 : List Rec) (p1 : Int) : Option (Int × (List Rec)) :=
  w_markRecordS_l0 fuel0 p0 p1 0
/- laws.markZoneS -/
def w_markZoneS_l0 : Nat → (List MZone) → Int → Int → Option (Int × (List MZone))
  | 0, _, _, _ => none
  | f0 + 1, v0_0, v0_1, v0_2 => bif decide (v0_2 < (v0_0.length : Int)) then (bnd1 (w_markText v0_1) (fun x2 => bnd1 (idx v0_0 v0_2) (fun x4 => grd (i64 (v0_1 + 1)) (bnd2 (w_markRecordS x4.l (v0_1 + 1)) (fun x5 x6 => grd (x6.length = x4.l.length) (grd (i64 (v0_2 + 1)) (w_markZoneS_l0 f0 (v0_0.set v0_2.toNat (MZone.mk x2 x6)) x5 (v0_2 + 1)))))))) else (some (v0_1, v0_0))
def w_markZoneS (p0 : List MZone) (p1 : Int) : Option (Int × (List MZone)) := w_markZoneS_l0 fuel0 p0 p1 0
theorem w_markZoneS_len : ∀ (f : Nat) (l : List MZone) (k i : Int) (r0 : Int) (r1 : List MZone), w_markZoneS_l0 f l k i = some (r0, r1) → r1.length = l.length
  | 0, _, _, _, _, _, h => by cases h
  | f + 1, l, k, i, r0, r1, h => by
    rw [w_markZoneS_l0] at h
    by_cases c : i < (l.length : Int)
    · rw [decide_eq_true c, cond_true] at h
      refine bnd1_elim h fun x2 q3 h => bnd1_elim h fun x4 q5 h => grd_elim h fun g6 h => bnd2_elim h fun x5 x6 q7 h => grd_elim h fun g8 h => grd_elim h fun g9 h => ?_
      rw [w_markZoneS_len f _ _ _ _ _ h, List.length_set]
    · rw [decide_eq_false c, cond_false] at h
      rw [← (some2 h).2]
/- laws.markPostS -/
def w_markPostS_l0  : Nat → (List MPost) → Int → Int → Option (Int × (List MPost))
  | 0, _, _, _ => none
  | f0 + 1, v0_0, v0_1, v0_2 => bif decide (v0_2 < (v0_0.length : Int)) then (bnd1 (idx v0_0 v0_2) (fun x2 => grd (i64 (v0_1 + 1)) (bnd1 (w_markText (v0_1 + 1)) (fun x5 => grd (i64 ((v0_1 + 1) + 1)) (grd (i64 (v0_2 + 1)) (w_markPostS_l0 f0 ((v0_0.set v0_2.toNat (MPost.mk v0_1 x2.apex)).set v0_2.toNat (MPost.mk v0_1 x5)) ((v0_1 + 1) + 1) (v0_2 + 1))))))) else (some (v0_1, v0_0))
def w_markPostS (p0 : List MPost) (p1 : Int) : Option (Int × (List MPost)) :=
  w_markPostS_l0 fuel0 p0 p1 0
/- laws.markForest -/
def w_markForest (p0 : MForest) (p1 : Int) : Option (Int × (List MZone) × (List MPost)) :=
  bnd2 (w_markZoneS p0.zones p1) (fun x1 x2 => grd (x2.length = p0.zones.length) (bnd2 (w_markPostS p0.posts x1) (fun x3 x4 => grd (x4.length = p0.posts.length) (some (x3, x2, x4)))))
/- laws.markMsg -/
def w_markMsg (p0 : MMsg) (p1 : Int) : Option (Int × (List Rec) × (List Rec) × (List Rec)) :=
  bnd2 (w_markRecordS p0.an p1) (fun x1 x2 => grd (x2.length = p0.an.length) (bnd2 (w_markRecordS p0.au x1) (fun x5 x6 => grd (x6.length = p0.au.length) (bnd2 (w_markRecordS p0.ad x5) (fun x9 x10 => grd (x10.length = p0.ad.length) (some (x9, x2, x6, x10)))))))
/- laws.heldRecordS -/
def w_heldRecordS_l0  : List Rec → Int → Nat → Option Int
  | [], v0_0, v0_1 => some v0_0
  | e0 :: rs0, v0_0, v0_1 => bnd1 (w_markText v0_0) (fun x2 => bif !decide (e0.name = x2) then (some (-1)) else (grd (i64 (v0_0 + 1)) (bif !decide (e0.ty = v0_0 + 1) then (some (-1)) else (grd (i64 ((v0_0 + 1) + 1)) (bif !decide (e0.ttl = (v0_0 + 1) + 1) then (some (-1)) else (grd (i64 (((v0_0 + 1) + 1) + 1)) (bif !decide (e0.n = ((v0_0 + 1) + 1) + 1) then (some (-1)) else (grd (i64 ((((v0_0 + 1) + 1) + 1) + 1)) (bnd1 (w_markText ((((v0_0 + 1) + 1) + 1) + 1)) (fun x12 => bif !decide (e0.host = x12) then (some (-1)) else (grd (i64 (((((v0_0 + 1) + 1) + 1) + 1) + 1)) (bnd1 (w_markText (((((v0_0 + 1) + 1) + 1) + 1) + 1)) (fun x16 => bif !decide (e0.text = x16) then (some (-1)) else (grd (i64 ((((((v0_0 + 1) + 1) + 1) + 1) + 1) + 1)) (w_heldRecordS_l0 rs0 ((((((v0_0 + 1) + 1) + 1) + 1) + 1) + 1) (v0_1 + 1))))))))))))))))
def w_heldRecordS (p0 : List Rec) (p1 : Int) : Option Int :=
  w_heldRecordS_l0 p0 p1 0
/- laws.heldMsg -/
def w_heldMsg (p0 : MMsg) (p1 : Int) : Option Int :=
  bnd1 (w_heldRecordS p0.an p1) (fun x1 => bif decide (x1 < 0) then (some (-1)) else (bnd1 (w_heldRecordS p0.au x1) (fun x4 => bif decide (x4 < 0) then (some (-1)) else (bnd1 (w_heldRecordS p0.ad x4) (fun x7 => bif decide (x7 < 0) then (some (-1)) else (some x7))))))
/- laws.FnExactReplyAt -/
def w_FnExactReplyAt_j0 (p0 : MForest) (p1 : Int) (p2 : MMsg) (x11 : MMsg) (x17 : MMsg) (j0_0 : Bool) : Option Bool :=
  bif j0_0 then (some false) else (bnd4 (w_markMsg x17 1) (fun x47 x48 x49 x50 => grd (x48.length = x17.an.length) (grd (x49.length = x17.au.length) (grd (x50.length = x17.ad.length) (bnd1 (w_heldMsg (MMsg.mk x17.id x17.reply x17.auth x17.cut x17.want x17.can x17.code x17.q x48 x49 x50) 1) (fun x55 => bif decide (x55 < 0) then (some false) else (bif !decide (x55 = x47) then (some false) else (bnd1 (w_toForest p0) (fun x59 => bnd1 (w_toMsg p2) (fun x61 => bnd1 (i_ReplyAt x59 p1 x61) (fun x63 => bnd1 (w_eqMsg x63 x11) (fun x65 => bif !x65 then (some false) else (bnd1 (w_heldMsg (MMsg.mk x17.id x17.reply x17.auth x17.cut x17.want x17.can x17.code x17.q x48 x49 x50) 1) (fun x68 => bif decide (x68 < 0) then (some false) else (bif !decide (x68 = x47) then (some false) else (some true))))))))))))))))
def w_FnExactReplyAt (p0 : MForest) (p1 : Int) (p2 : MMsg) : Option Bool :=
  bnd1 (w_szForest p0 1048576) (fun x1 => bif decide (x1 < 0) then (some true) else (bnd1 (w_szMsg p2 x1) (fun x4 => bif decide (x4 < 0) then (some true) else (bnd1 (w_toForest p0) (fun x7 => bnd1 (w_toMsg p2) (fun x9 => bnd1 (s_ReplyAt x7 p1 x9) (fun x11 => bnd1 (w_toForest p0) (fun x13 => bnd1 (w_toMsg p2) (fun x15 => bnd1 (i_ReplyAt x13 p1 x15) (fun x17 => bnd1 (w_eqMsg x17 x11) (fun x19 => bif !x19 then (some false) else (bnd1 (w_toForest p0) (fun x22 => bnd1 (w_eqForest x13 x22) (fun x24 => bif !x24 then (some false) else (bnd1 (w_toMsg p2) (fun x27 => bnd1 (w_eqMsg x15 x27) (fun x29 => bif !x29 then (some false) else (bnd3 (w_markForest x13 1) (fun x32 x33 x34 => grd (x33.length = x13.zones.length) (grd (x34.length = x13.posts.length) (bnd4 (w_markMsg x15 x32) (fun x38 x39 x40 x41 => grd (x39.length = x15.an.length) (grd (x40.length = x15.au.length) (grd (x41.length = x15.ad.length) (bif decide (x38 < 0) then (w_FnExactReplyAt_j0 p0 p1 p2 x11 x17 true) else (bnd1 (w_eqMsg x17 x11) (fun x47 => w_FnExactReplyAt_j0 p0 p1 p2 x11 x17 (!x47))))))))))))))))))))))))))))
end Go.Abs.M
