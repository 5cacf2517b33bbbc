/- The functions that the law of SetIn reaches, as pure functions that may fail. -/
import Derived.Test.YtaacegjkiccijaaAbsA28
namespace Go.Abs.M
open Go Go.Abs
structure Quest where
  name : ByteArray
  ty : Int
  deriving DecidableEq
def questV (r : Quest) : List V := [.sc (.string r.name), .sc (.int .i64 r.ty)]
theorem questV_free (r : Quest) : (questV r).all (·.free) = true := rfl
theorem questV_len (r : Quest) : (questV r).length = 2 := rfl
def Quest.ok (r : Quest) : Prop := r.name.size ≤ 9223372036854775807 ∧ i64 r.ty
theorem questV_sc (r : Quest) : (questV r).all isScN = true := rfl
structure Rec where
  name : ByteArray
  ty : Int
  ttl : Int
  n : Int
  host : ByteArray
  text : ByteArray
  deriving DecidableEq
def recV (r : Rec) : List V := [.sc (.string r.name), .sc (.int .i64 r.ty), .sc (.int .i64 r.ttl), .sc (.int .i64 r.n), .sc (.string r.host), .sc (.string r.text)]
theorem recV_free (r : Rec) : (recV r).all (·.free) = true := rfl
theorem recV_len (r : Rec) : (recV r).length = 6 := rfl
def Rec.ok (r : Rec) : Prop := r.name.size ≤ 9223372036854775807 ∧ i64 r.ty ∧ i64 r.ttl ∧ i64 r.n ∧ r.host.size ≤ 9223372036854775807 ∧ r.text.size ≤ 9223372036854775807
theorem recV_sc (r : Rec) : (recV r).all isScN = true := rfl
structure MMsg where
  id : Int
  reply : Bool
  auth : Bool
  cut : Bool
  want : Bool
  can : Bool
  code : Int
  q : Quest
  an : List Rec
  au : List Rec
  ad : List Rec
  deriving DecidableEq
def mMsgV (r : MMsg) : List V := [.sc (.int .i64 r.id), .sc (.bool r.reply), .sc (.bool r.auth), .sc (.bool r.cut), .sc (.bool r.want), .sc (.bool r.can), .sc (.int .i64 r.code), .sc (.string r.q.name), .sc (.int .i64 r.q.ty), .lst 6 (List.map recV r.an), .lst 6 (List.map recV r.au), .lst 6 (List.map recV r.ad)]
theorem mMsgV_free (r : MMsg) : (mMsgV r).all (·.free) = true := rfl
theorem mMsgV_len (r : MMsg) : (mMsgV r).length = 12 := rfl
def MMsg.ok (r : MMsg) : Prop := i64 r.id ∧ i64 r.code ∧ r.q.ok ∧ (r.an.length ≤ 9223372036854775807 ∧ ∀ q, q ∈ r.an → q.ok) ∧ (r.au.length ≤ 9223372036854775807 ∧ ∀ q, q ∈ r.au → q.ok) ∧ (r.ad.length ≤ 9223372036854775807 ∧ ∀ q, q ∈ r.ad → q.ok)
/- laws.szQuest -/
def w_szQuest (p0 : Quest) (p1 : Int) : Option Int :=
  grd (i64 (p1 - (p0.name.size : Int))) (bif decide (p1 - (p0.name.size : Int) < 0) then (some (-1)) else (some (p1 - (p0.name.size : Int))))
/- laws.szRecord -/
def w_szRecord (p0 : Rec) (p1 : Int) : Option Int :=
  grd (i64 (p1 - (p0.name.size : Int))) (bif decide (p1 - (p0.name.size : Int) < 0) then (some (-1)) else (grd (i64 ((p1 - (p0.name.size : Int)) - (p0.host.size : Int))) (bif decide ((p1 - (p0.name.size : Int)) - (p0.host.size : Int) < 0) then (some (-1)) else (grd (i64 (((p1 - (p0.name.size : Int)) - (p0.host.size : Int)) - (p0.text.size : Int))) (bif decide (((p1 - (p0.name.size : Int)) - (p0.host.size : Int)) - (p0.text.size : Int) < 0) then (some (-1)) else (some (((p1 - (p0.name.size : Int)) - (p0.host.size : Int)) - (p0.text.size : Int))))))))
/- laws.szRecordS -/
def w_szRecordS_l0  : List Rec → Int → Nat → Option Int
  | [], v0_0, v0_1 => some v0_0
  | e0 :: rs0, v0_0, v0_1 => bnd1 (w_szRecord e0 v0_0) (fun x4 => bif decide (x4 < 0) then (some (-1)) else (w_szRecordS_l0 rs0 x4 (v0_1 + 1)))
def w_szRecordS (p0 : List Rec) (p1 : Int) : Option Int :=
  grd (i64 (p1 - (p0.length : Int))) (bif decide (p1 - (p0.length : Int) < 0) then (some (-1)) else (w_szRecordS_l0 p0 (p1 - (p0.length : Int)) 0))
/- laws.szMsg -/
def w_szMsg (p0 : MMsg) (p1 : Int) : Option Int :=
  bnd1 (w_szQuest p0.q p1) (fun x1 => bif decide (x1 < 0) then (some (-1)) else (bnd1 (w_szRecordS p0.an x1) (fun x4 => bif decide (x4 < 0) then (some (-1)) else (bnd1 (w_szRecordS p0.au x4) (fun x7 => bif decide (x7 < 0) then (some (-1)) else (bnd1 (w_szRecordS p0.ad x7) (fun x10 => bif decide (x10 < 0) then (some (-1)) else (some x10))))))))
/- laws.toQuest -/
def w_toQuest (p0 : Quest) : Option Quest :=
  some p0
/- laws.toRecord -/
def w_toRecord (p0 : Rec) : Option Rec :=
  some p0
/- laws.toRecordS -/
def w_toRecordS_l0  : List Rec → (List Rec) → Nat → Option (List Rec)
  | [], v0_0, v0_1 => some v0_0
  | e0 :: rs0, v0_0, v0_1 => bnd1 (w_toRecord e0) (fun x3 => bnd1 (idx v0_0 (v0_1 : Int)) (fun x5 => w_toRecordS_l0 rs0 (v0_0.set ((v0_1 : Int).toNat) x3) (v0_1 + 1)))
def w_toRecordS (p0 : List Rec) : Option (List Rec) :=
  grd (0 ≤ (p0.length : Int) ∧ (p0.length : Int).toNat ≤ 1099511627776) (w_toRecordS_l0 p0 (List.replicate (p0.length : Int).toNat (Rec.mk (⟨#[]⟩ : ByteArray) 0 0 0 (⟨#[]⟩ : ByteArray) (⟨#[]⟩ : ByteArray))) 0)
/- laws.toMsg -/
def w_toMsg (p0 : MMsg) : Option MMsg :=
  bnd1 (w_toQuest p0.q) (fun x1 => bnd1 (w_toRecordS p0.an) (fun x3 => bnd1 (w_toRecordS p0.au) (fun x5 => bnd1 (w_toRecordS p0.ad) (fun x7 => some (MMsg.mk p0.id p0.reply p0.auth p0.cut p0.want p0.can p0.code x1 x3 x5 x7)))))
/- spec.SetOf -/
def s_SetOf_j1 (v0_0 : List Rec) (v0_1 : Nat) (e0 : Rec) (k0 : (List Rec) → Nat → Option (List Rec)) (j1_0 : Bool) : Option (List Rec) :=
  bif j1_0 then (grd ((v0_0 ++ [e0]).length ≤ 1099511627776) (k0 (v0_0 ++ [e0]) (v0_1 + 1))) else (k0 v0_0 (v0_1 + 1))
def s_SetOf_l0 (p1 : ByteArray) (p2 : Int) : List Rec → (List Rec) → Nat → Option (List Rec)
  | [], v0_0, v0_1 => some v0_0
  | e0 :: rs0, v0_0, v0_1 => bif decide (e0.name = p1) then (s_SetOf_j1 v0_0 v0_1 e0 (s_SetOf_l0 p1 p2 rs0) (decide (e0.ty = p2))) else (s_SetOf_j1 v0_0 v0_1 e0 (s_SetOf_l0 p1 p2 rs0) false)
def s_SetOf (p0 : List Rec) (p1 : ByteArray) (p2 : Int) : Option (List Rec) :=
  s_SetOf_l0 p1 p2 p0 ([] : List Rec) 0
/- spec.SetIn -/
def s_SetIn (p0 : MMsg) : Option (List Rec) :=
  bnd1 (s_SetOf p0.an p0.q.name p0.q.ty) (fun x1 => some x1)
/- impl.SetOf -/
def i_SetOf_j1 (v0_0 : List Rec) (v0_1 : Nat) (e0 : Rec) (k0 : (List Rec) → Nat → Option (List Rec)) (j1_0 : Bool) : Option (List Rec) :=
  bif j1_0 then (grd ((v0_0 ++ [e0]).length ≤ 1099511627776) (k0 (v0_0 ++ [e0]) (v0_1 + 1))) else (k0 v0_0 (v0_1 + 1))
def i_SetOf_l0 (p1 : ByteArray) (p2 : Int) : List Rec → (List Rec) → Nat → Option (List Rec)
  | [], v0_0, v0_1 => some v0_0
  | e0 :: rs0, v0_0, v0_1 => bif decide (e0.name = p1) then (i_SetOf_j1 v0_0 v0_1 e0 (i_SetOf_l0 p1 p2 rs0) (decide (e0.ty = p2))) else (i_SetOf_j1 v0_0 v0_1 e0 (i_SetOf_l0 p1 p2 rs0) false)
def i_SetOf (p0 : List Rec) (p1 : ByteArray) (p2 : Int) : Option (List Rec) :=
  i_SetOf_l0 p1 p2 p0 ([] : List Rec) 0
/- impl.SetIn -/
def i_SetIn (p0 : MMsg) : Option (List Rec) :=
  bnd1 (i_SetOf p0.an p0.q.name p0.q.ty) (fun x1 => some x1)
/- laws.eqRecord -/
def w_eqRecord (p0 : Rec) (p1 : Rec) : Option Bool :=
  bif !decide (p0.name = p1.name) then (some false) else (bif !decide (p0.ty = p1.ty) then (some false) else (bif !decide (p0.ttl = p1.ttl) then (some false) else (bif !decide (p0.n = p1.n) then (some false) else (bif !decide (p0.host = p1.host) then (some false) else (bif !decide (p0.text = p1.text) then (some false) else (some true))))))
/- laws.eqRecordS -/
def w_eqRecordS_l0 (p1 : List Rec) : List Rec → Nat → Option Bool
  | [], v0_0 => some true
  | e0 :: rs0, v0_0 => bnd1 (idx p1 (v0_0 : Int)) (fun x3 => bnd1 (w_eqRecord e0 x3) (fun x5 => bif !x5 then (some false) else (w_eqRecordS_l0 p1 rs0 (v0_0 + 1))))
def w_eqRecordS (p0 : List Rec) (p1 : List Rec) : Option Bool :=
  bif !decide ((p0.length : Int) = (p1.length : Int)) then (some false) else (w_eqRecordS_l0 p1 p0 0)
/- laws.eqQuest -/
def w_eqQuest (p0 : Quest) (p1 : Quest) : Option Bool :=
  bif !decide (p0.name = p1.name) then (some false) else (bif !decide (p0.ty = p1.ty) then (some false) else (some true))
/- laws.eqMsg -/
def w_eqMsg (p0 : MMsg) (p1 : MMsg) : Option Bool :=
  bif !decide (p0.id = p1.id) then (some false) else (bif !(p0.reply == p1.reply) then (some false) else (bif !(p0.auth == p1.auth) then (some false) else (bif !(p0.cut == p1.cut) then (some false) else (bif !(p0.want == p1.want) then (some false) else (bif !(p0.can == p1.can) then (some false) else (bif !decide (p0.code = p1.code) then (some false) else (bnd1 (w_eqQuest p0.q p1.q) (fun x8 => bif !x8 then (some false) else (bnd1 (w_eqRecordS p0.an p1.an) (fun x11 => bif !x11 then (some false) else (bnd1 (w_eqRecordS p0.au p1.au) (fun x14 => bif !x14 then (some false) else (bnd1 (w_eqRecordS p0.ad p1.ad) (fun x17 => bif !x17 then (some false) else (some true)))))))))))))))
/- laws.markText -/
def w_markText_l0  : Nat → Int → ByteArray → Option ByteArray
  | 0, _, _ => none
  | f0 + 1, v0_0, v0_1 => bif decide (0 < v0_0) then (grd (i64 (48 + (Int.tmod v0_0 10))) (grd ((strOfNums [IntKind.u8.wrap (48 + (Int.tmod v0_0 10))]).size + v0_1.size ≤ 9223372036854775807) (w_markText_l0 f0 (IntKind.i64.wrap (Int.tdiv v0_0 10)) ((strOfNums [IntKind.u8.wrap (48 + (Int.tmod v0_0 10))]) ++ v0_1)))) else (grd ((⟨#[109]⟩ : ByteArray).size + v0_1.size ≤ 9223372036854775807) (some ((⟨#[109]⟩ : ByteArray) ++ v0_1)))
def w_markText (p0 : Int) : Option ByteArray :=
  bif decide (p0 ≤ 0) then (some (⟨#[109, 48]⟩ : ByteArray)) else (w_markText_l0 fuel0 p0 (⟨#[]⟩ : ByteArray))
/- laws.markRecordS -/
def w_markRecordS_l0  : Nat → (List Rec) → Int → Int → Option (Int × (List Rec))
  | 0, _, _, _ => none
  | f0 + 1, v0_0, v0_1, v0_2 => bif decide (v0_2 < (v0_0.length : Int)) then (bnd1 (w_markText v0_1) (fun x2 => bnd1 (idx v0_0 v0_2) (fun x4 => grd (i64 (v0_1 + 1)) (grd (i64 ((v0_1 + 1) + 1)) (grd (i64 (((v0_1 + 1) + 1) + 1)) (grd (i64 ((((v0_1 + 1) + 1) + 1) + 1)) (bnd1 (w_markText ((((v0_1 + 1) + 1) + 1) + 1)) (fun x10 => grd (i64 (((((v0_1 + 1) + 1) + 1) + 1) + 1)) (bnd1 (w_markText (((((v0_1 + 1) + 1) + 1) + 1) + 1)) (fun x13 => grd (i64 ((((((v0_1 + 1) + 1) + 1) + 1) + 1) + 1)) (grd (i64 (v0_2 + 1)) (w_markRecordS_l0 f0 ((((((v0_0.set v0_2.toNat (Rec.mk x2 x4.ty x4.ttl x4.n x4.host x4.text)).set v0_2.toNat (Rec.mk x2 (v0_1 + 1) x4.ttl x4.n x4.host x4.text)).set v0_2.toNat (Rec.mk x2 (v0_1 + 1) ((v0_1 + 1) + 1) x4.n x4.host x4.text)).set v0_2.toNat (Rec.mk x2 (v0_1 + 1) ((v0_1 + 1) + 1) (((v0_1 + 1) + 1) + 1) x4.host x4.text)).set v0_2.toNat (Rec.mk x2 (v0_1 + 1) ((v0_1 + 1) + 1) (((v0_1 + 1) + 1) + 1) x10 x4.text)).set v0_2.toNat (Rec.mk x2 (v0_1 + 1) ((v0_1 + 1) + 1) (((v0_1 + 1) + 1) + 1) x10 x13)) ((((((v0_1 + 1) + 1) + 1) + 1) + 1) + 1) (v0_2 + 1))))))))))))) else (some (v0_1, v0_0))
def w_markRecordS (p0 : List Rec) (p1 : Int) : Option (Int × (List Rec)) :=
  w_markRecordS_l0 fuel0 p0 p1 0
/- laws.markMsg -/
def w_markMsg (p0 : MMsg) (p1 : Int) : Option (Int × (List Rec) × (List Rec) × (List Rec)) :=
  bnd2 (w_markRecordS p0.an p1) (fun x1 x2 => grd (x2.length = p0.an.length) (bnd2 (w_markRecordS p0.au x1) (fun x5 x6 => grd (x6.length = p0.au.length) (bnd2 (w_markRecordS p0.ad x5) (fun x9 x10 => grd (x10.length = p0.ad.length) (some (x9, x2, x6, x10)))))))
/- laws.heldRecordS -/
def w_heldRecordS_l0  : List Rec → Int → Nat → Option Int
  | [], v0_0, v0_1 => some v0_0
  | e0 :: rs0, v0_0, v0_1 => bnd1 (w_markText v0_0) (fun x2 => bif !decide (e0.name = x2) then (some (-1)) else (grd (i64 (v0_0 + 1)) (bif !decide (e0.ty = v0_0 + 1) then (some (-1)) else (grd (i64 ((v0_0 + 1) + 1)) (bif !decide (e0.ttl = (v0_0 + 1) + 1) then (some (-1)) else (grd (i64 (((v0_0 + 1) + 1) + 1)) (bif !decide (e0.n = ((v0_0 + 1) + 1) + 1) then (some (-1)) else (grd (i64 ((((v0_0 + 1) + 1) + 1) + 1)) (bnd1 (w_markText ((((v0_0 + 1) + 1) + 1) + 1)) (fun x12 => bif !decide (e0.host = x12) then (some (-1)) else (grd (i64 (((((v0_0 + 1) + 1) + 1) + 1) + 1)) (bnd1 (w_markText (((((v0_0 + 1) + 1) + 1) + 1) + 1)) (fun x16 => bif !decide (e0.text = x16) then (some (-1)) else (grd (i64 ((((((v0_0 + 1) + 1) + 1) + 1) + 1) + 1)) (w_heldRecordS_l0 rs0 ((((((v0_0 + 1) + 1) + 1) + 1) + 1) + 1) (v0_1 + 1))))))))))))))))
def w_heldRecordS (p0 : List Rec) (p1 : Int) : Option Int :=
  w_heldRecordS_l0 p0 p1 0
/- laws.FnExactSetIn -/
def w_FnExactSetIn_j0 (p0 : MMsg) (x6 : List Rec) (x10 : List Rec) (j0_0 : Bool) : Option Bool :=
  bif j0_0 then (some false) else (bnd2 (w_markRecordS x10 1) (fun x29 x30 => grd (x30.length = x10.length) (bnd1 (w_heldRecordS x30 1) (fun x33 => bif decide (x33 < 0) then (some false) else (bif !decide (x33 = x29) then (some false) else (bnd1 (w_toMsg p0) (fun x37 => bnd1 (i_SetIn x37) (fun x39 => bnd1 (w_eqRecordS x39 x6) (fun x41 => bif !x41 then (some false) else (bnd1 (w_heldRecordS x30 1) (fun x44 => bif decide (x44 < 0) then (some false) else (bif !decide (x44 = x29) then (some false) else (some true)))))))))))))
def w_FnExactSetIn (p0 : MMsg) : Option Bool :=
  bnd1 (w_szMsg p0 1048576) (fun x1 => bif decide (x1 < 0) then (some true) else (bnd1 (w_toMsg p0) (fun x4 => bnd1 (s_SetIn x4) (fun x6 => bnd1 (w_toMsg p0) (fun x8 => bnd1 (i_SetIn x8) (fun x10 => bnd1 (w_eqRecordS x10 x6) (fun x12 => bif !x12 then (some false) else (bnd1 (w_toMsg p0) (fun x15 => bnd1 (w_eqMsg x8 x15) (fun x17 => bif !x17 then (some false) else (bnd4 (w_markMsg x8 1) (fun x20 x21 x22 x23 => grd (x21.length = x8.an.length) (grd (x22.length = x8.au.length) (grd (x23.length = x8.ad.length) (bif decide (x20 < 0) then (w_FnExactSetIn_j0 p0 x6 x10 true) else (bnd1 (w_eqRecordS x10 x6) (fun x29 => w_FnExactSetIn_j0 p0 x6 x10 (!x29))))))))))))))))))
end Go.Abs.M
