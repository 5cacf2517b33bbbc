/- The functions that the law of ZoneOk reaches, as pure functions that may fail. -/
import Derived.Test.YtepbpkfchioicaaDoorAbsA29
namespace Go.Abs.M
open Go Go.Abs
structure Rec where
  name : ByteArray
  ty : Int
  ttl : Int
  n : Int
  host : ByteArray
  text : ByteArray
  deriving DecidableEq
def recV (r : Rec) : List V := [.sc (.string r.name), .sc (.int .i64 r.ty), .sc (.int .i64 r.ttl), .sc (.int .i64 r.n), .sc (.string r.host), .sc (.string r.text)]
theorem recV_free (r : Rec) : (recV r).all (·.free) = true := rfl
theorem recV_len (r : Rec) : (recV r).length = 6 := rfl
def Rec.ok (r : Rec) : Prop := r.name.size ≤ 9223372036854775807 ∧ i64 r.ty ∧ i64 r.ttl ∧ i64 r.n ∧ r.host.size ≤ 9223372036854775807 ∧ r.text.size ≤ 9223372036854775807
theorem recV_sc (r : Rec) : (recV r).all isScN = true := rfl
structure MZone where
  apex : ByteArray
  l : List Rec
  deriving DecidableEq
def mZoneV (r : MZone) : List V := [.sc (.string r.apex), .lst 6 (List.map recV r.l)]
theorem mZoneV_free (r : MZone) : (mZoneV r).all (·.free) = true := rfl
theorem mZoneV_len (r : MZone) : (mZoneV r).length = 2 := rfl
def MZone.ok (r : MZone) : Prop := r.apex.size ≤ 9223372036854775807 ∧ (r.l.length ≤ 9223372036854775807 ∧ ∀ q, q ∈ r.l → q.ok)
/- laws.szRecord -/
def w_szRecord (p0 : Rec) (p1 : Int) : Option Int :=
  grd (i64 (p1 - (p0.name.size : Int))) (bif decide (p1 - (p0.name.size : Int) < 0) then (some (-1)) else (grd (i64 ((p1 - (p0.name.size : Int)) - (p0.host.size : Int))) (bif decide ((p1 - (p0.name.size : Int)) - (p0.host.size : Int) < 0) then (some (-1)) else (grd (i64 (((p1 - (p0.name.size : Int)) - (p0.host.size : Int)) - (p0.text.size : Int))) (bif decide (((p1 - (p0.name.size : Int)) - (p0.host.size : Int)) - (p0.text.size : Int) < 0) then (some (-1)) else (some (((p1 - (p0.name.size : Int)) - (p0.host.size : Int)) - (p0.text.size : Int))))))))
/- laws.szRecordS -/
def w_szRecordS_l0  : List Rec → Int → Nat → Option Int
  | [], v0_0, v0_1 => some v0_0
  | e0 :: rs0, v0_0, v0_1 => bnd1 (w_szRecord e0 v0_0) (fun x4 => bif decide (x4 < 0) then (some (-1)) else (w_szRecordS_l0 rs0 x4 (v0_1 + 1)))
def w_szRecordS (p0 : List Rec) (p1 : Int) : Option Int :=
  grd (i64 (p1 - (p0.length : Int))) (bif decide (p1 - (p0.length : Int) < 0) then (some (-1)) else (w_szRecordS_l0 p0 (p1 - (p0.length : Int)) 0))
/- laws.szZone -/
def w_szZone (p0 : MZone) (p1 : Int) : Option Int :=
  grd (i64 (p1 - (p0.apex.size : Int))) (bif decide (p1 - (p0.apex.size : Int) < 0) then (some (-1)) else (bnd1 (w_szRecordS p0.l (p1 - (p0.apex.size : Int))) (fun x3 => bif decide (x3 < 0) then (some (-1)) else (some x3))))
/- laws.toRecord -/
def w_toRecord (p0 : Rec) : Option Rec :=
  some p0
/- laws.toRecordS -/
def w_toRecordS_l0  : List Rec → (List Rec) → Nat → Option (List Rec)
  | [], v0_0, v0_1 => some v0_0
  | e0 :: rs0, v0_0, v0_1 => bnd1 (w_toRecord e0) (fun x3 => bnd1 (idx v0_0 (v0_1 : Int)) (fun x5 => w_toRecordS_l0 rs0 (v0_0.set ((v0_1 : Int).toNat) x3) (v0_1 + 1)))
def w_toRecordS (p0 : List Rec) : Option (List Rec) :=
  grd (0 ≤ (p0.length : Int) ∧ (p0.length : Int).toNat ≤ 1099511627776) (w_toRecordS_l0 p0 (List.replicate (p0.length : Int).toNat (Rec.mk (⟨#[]⟩ : ByteArray) 0 0 0 (⟨#[]⟩ : ByteArray) (⟨#[]⟩ : ByteArray))) 0)
/- laws.toZone -/
def w_toZone (p0 : MZone) : Option MZone :=
  bnd1 (w_toRecordS p0.l) (fun x1 => some (MZone.mk p0.apex x1))
/- spec.Labels -/
def s_Labels_j2 (p0 : ByteArray) (v0_0 : List ByteArray) (v0_1 : Int) (v0_2 : Int) (k0 : (List ByteArray) → Int → Int → Option (List ByteArray)) (j2_0 : Bool) : Option (List ByteArray) :=
  bif j2_0 then (grd (0 ≤ v0_1 ∧ v0_1 ≤ v0_2 ∧ v0_2 ≤ (p0.size : Int)) (grd ((v0_0 ++ [p0.extract v0_1.toNat v0_2.toNat]).length ≤ 1099511627776) (grd (i64 (v0_2 + 1)) (grd (i64 (v0_2 + 1)) (k0 (v0_0 ++ [p0.extract v0_1.toNat v0_2.toNat]) (v0_2 + 1) (v0_2 + 1)))))) else (grd (i64 (v0_2 + 1)) (k0 v0_0 v0_1 (v0_2 + 1)))
def s_Labels_j1 (p0 : ByteArray) (v0_0 : List ByteArray) (v0_1 : Int) (v0_2 : Int) (k0 : (List ByteArray) → Int → Int → Option (List ByteArray)) (j1_0 : Bool) : Option (List ByteArray) :=
  bif j1_0 then (bif decide (v0_2 = (p0.size : Int)) then (s_Labels_j2 p0 v0_0 v0_1 v0_2 (k0) true) else (bnd1 (sidx p0 v0_2) (fun x3 => s_Labels_j2 p0 v0_0 v0_1 v0_2 (k0) (decide (x3 = 46))))) else (some v0_0)
def s_Labels_l0 (p0 : ByteArray) : Nat → (List ByteArray) → Int → Int → Option (List ByteArray)
  | 0, _, _, _ => none
  | f0 + 1, v0_0, v0_1, v0_2 => bif decide (v0_2 ≤ (p0.size : Int)) then (s_Labels_j1 p0 v0_0 v0_1 v0_2 (s_Labels_l0 p0 f0) (!decide (p0 = (⟨#[]⟩ : ByteArray)))) else (s_Labels_j1 p0 v0_0 v0_1 v0_2 (s_Labels_l0 p0 f0) false)
def s_Labels (p0 : ByteArray) : Option (List ByteArray) :=
  s_Labels_l0 p0 fuel0 ([] : List ByteArray) 0 0
/- spec.l1In -/
def s_l1In (p0 : Int) (p1 : Int) (p2 : Int) : Option Bool :=
  bif decide (p1 ≤ p0) then (some (decide (p0 ≤ p2))) else (some false)
/- spec.l2Byte -/
def s_l2Byte (p0 : Int) : Option Bool :=
  bnd1 (s_l1In (IntKind.i64.wrap p0) 97 122) (fun x1 => bif x1 then (some true) else (bnd1 (s_l1In (IntKind.i64.wrap p0) 48 57) (fun x4 => bif x4 then (some true) else (bif decide (p0 = 45) then (some true) else (some (decide (p0 = 95)))))))
/- spec.LabelOk -/
def s_LabelOk_j0 (p0 : ByteArray) : Option Bool :=
  bnd1 (s_l1In (p0.size : Int) 1 12) (fun x1 => some x1)
def s_LabelOk_l1 (p0 : ByteArray) : Nat → Int → Option Bool
  | 0, _ => none
  | f1 + 1, v1_0 => bif decide (v1_0 < (p0.size : Int)) then (bnd1 (sidx p0 v1_0) (fun x2 => bnd1 (s_l2Byte x2) (fun x4 => bif !x4 then (some false) else (grd (i64 (v1_0 + 1)) (s_LabelOk_l1 p0 f1 (v1_0 + 1)))))) else (s_LabelOk_j0 p0)
def s_LabelOk (p0 : ByteArray) : Option Bool :=
  s_LabelOk_l1 p0 fuel0 0
/- spec.NameOk -/
def s_NameOk_j0 (p0 : ByteArray) (x1 : List ByteArray) : Option Bool :=
  bif decide ((p0.size : Int) ≤ 50) then (some (decide ((x1.length : Int) ≤ 6))) else (some false)
def s_NameOk_l1 (p0 : ByteArray) (x1 : List ByteArray) : List ByteArray → Nat → Option Bool
  | [], v1_0 => s_NameOk_j0 p0 x1
  | e1 :: rs1, v1_0 => bnd1 (s_LabelOk e1) (fun x4 => bif !x4 then (some false) else (s_NameOk_l1 p0 x1 rs1 (v1_0 + 1)))
def s_NameOk (p0 : ByteArray) : Option Bool :=
  bnd1 (s_Labels p0) (fun x1 => s_NameOk_l1 p0 x1 x1 0)
/- spec.l5Text -/
def s_l5Text_j0 (p0 : ByteArray) : Option Bool :=
  some (decide ((p0.size : Int) ≤ 12))
def s_l5Text_l1 (p0 : ByteArray) : Nat → Int → Option Bool
  | 0, _ => none
  | f1 + 1, v1_0 => bif decide (v1_0 < (p0.size : Int)) then (bnd1 (sidx p0 v1_0) (fun x2 => bnd1 (s_l1In (IntKind.i64.wrap x2) 33 126) (fun x4 => bif !x4 then (some false) else (grd (i64 (v1_0 + 1)) (s_l5Text_l1 p0 f1 (v1_0 + 1)))))) else (s_l5Text_j0 p0)
def s_l5Text (p0 : ByteArray) : Option Bool :=
  s_l5Text_l1 p0 fuel0 0
/- spec.RecordOk -/
def s_RecordOk_j1 (p0 : Rec) (j1_0 : Bool) : Option Bool :=
  bif j1_0 then (bif decide (p0.n = 0) then (bnd1 (s_NameOk p0.host) (fun x9 => bif x9 then (some (decide (p0.text = (⟨#[]⟩ : ByteArray)))) else (some false))) else (some false)) else (bif decide (p0.ty = 6) then (bnd1 (s_l1In p0.n 0 100000) (fun x13 => bif x13 then (bnd1 (s_NameOk p0.host) (fun x16 => bif x16 then (some (decide (p0.text = (⟨#[]⟩ : ByteArray)))) else (some false))) else (some false))) else (bif decide (p0.ty = 16) then (bif decide (p0.n = 0) then (bif decide (p0.host = (⟨#[]⟩ : ByteArray)) then (bnd1 (s_l5Text p0.text) (fun x22 => some x22)) else (some false)) else (some false)) else (some false)))
def s_RecordOk_j0 (p0 : Rec) (j0_0 : Bool) : Option Bool :=
  bif j0_0 then (some false) else (bif decide (p0.ty = 1) then (bnd1 (s_l1In p0.n 0 2147483647) (fun x3 => bif x3 then (bif decide (p0.host = (⟨#[]⟩ : ByteArray)) then (some (decide (p0.text = (⟨#[]⟩ : ByteArray)))) else (some false)) else (some false))) else (bif decide (p0.ty = 2) then (s_RecordOk_j1 p0 (decide (p0.ty = 2))) else (s_RecordOk_j1 p0 (decide (p0.ty = 5)))))
def s_RecordOk (p0 : Rec) : Option Bool :=
  bnd1 (s_NameOk p0.name) (fun x1 => bif !x1 then (s_RecordOk_j0 p0 true) else (bnd1 (s_l1In p0.ttl 0 100000) (fun x4 => s_RecordOk_j0 p0 (!x4))))
/- spec.Under -/
def s_Under_l0 (x1 : List ByteArray) (x3 : List ByteArray) : Nat → Int → Option Bool
  | 0, _ => none
  | f0 + 1, v0_0 => bif decide (v0_0 ≤ (x3.length : Int)) then (grd (i64 ((x1.length : Int) - v0_0)) (bnd1 (idx x1 ((x1.length : Int) - v0_0)) (fun x8 => grd (i64 ((x3.length : Int) - v0_0)) (bnd1 (idx x3 ((x3.length : Int) - v0_0)) (fun x11 => bif !decide (x8 = x11) then (some false) else (grd (i64 (v0_0 + 1)) (s_Under_l0 x1 x3 f0 (v0_0 + 1)))))))) else (some true)
def s_Under (p0 : ByteArray) (p1 : ByteArray) : Option Bool :=
  bnd1 (s_Labels p0) (fun x1 => bnd1 (s_Labels p1) (fun x3 => bif decide ((x1.length : Int) < (x3.length : Int)) then (some false) else (s_Under_l0 x1 x3 fuel0 1)))
/- spec.LessName -/
def s_LessName_j0 (x1 : List ByteArray) (x3 : List ByteArray) : Option Bool :=
  some (decide ((x1.length : Int) < (x3.length : Int)))
def s_LessName_j2 (x1 : List ByteArray) (x3 : List ByteArray) (v1_0 : Int) (k1 : Int → Option Bool) (j2_0 : Bool) : Option Bool :=
  bif j2_0 then (grd (i64 ((x1.length : Int) - v1_0)) (bnd1 (idx x1 ((x1.length : Int) - v1_0)) (fun x7 => grd (i64 ((x3.length : Int) - v1_0)) (bnd1 (idx x3 ((x3.length : Int) - v1_0)) (fun x10 => bif !decide (x7 = x10) then (some (Op.bytesLess x7.toList x10.toList)) else (grd (i64 (v1_0 + 1)) (k1 (v1_0 + 1)))))))) else (s_LessName_j0 x1 x3)
def s_LessName_l1 (x1 : List ByteArray) (x3 : List ByteArray) : Nat → Int → Option Bool
  | 0, _ => none
  | f1 + 1, v1_0 => bif decide (v1_0 ≤ (x1.length : Int)) then (s_LessName_j2 x1 x3 v1_0 (s_LessName_l1 x1 x3 f1) (decide (v1_0 ≤ (x3.length : Int)))) else (s_LessName_j2 x1 x3 v1_0 (s_LessName_l1 x1 x3 f1) false)
def s_LessName (p0 : ByteArray) (p1 : ByteArray) : Option Bool :=
  bnd1 (s_Labels p0) (fun x1 => bnd1 (s_Labels p1) (fun x3 => s_LessName_l1 x1 x3 fuel0 1))
/- spec.LessRecord -/
def s_LessRecord (p0 : Rec) (p1 : Rec) : Option Bool :=
  bif !decide (p0.name = p1.name) then (bnd1 (s_LessName p0.name p1.name) (fun x2 => some x2)) else (bif !decide (p0.ty = p1.ty) then (some (decide (p0.ty < p1.ty))) else (bif !decide (p0.n = p1.n) then (some (decide (p0.n < p1.n))) else (bif !decide (p0.host = p1.host) then (bnd1 (s_LessName p0.host p1.host) (fun x7 => some x7)) else (bif !decide (p0.text = p1.text) then (some (Op.bytesLess p0.text.toList p1.text.toList)) else (some (decide (p0.ttl < p1.ttl)))))))
/- spec.l9Has -/
def s_l9Has_l0 (p1 : ByteArray) : List ByteArray → Nat → Option Bool
  | [], v0_0 => some false
  | e0 :: rs0, v0_0 => bif decide (e0 = p1) then (some true) else (s_l9Has_l0 p1 rs0 (v0_0 + 1))
def s_l9Has (p0 : List ByteArray) (p1 : ByteArray) : Option Bool :=
  s_l9Has_l0 p1 p0 0
/- spec.CutsOf -/
def s_CutsOf_j1 (v0_0 : List ByteArray) (v0_1 : Nat) (e0 : Rec) (k0 : (List ByteArray) → Nat → Option (List ByteArray)) (j1_0 : Bool) : Option (List ByteArray) :=
  bif j1_0 then (grd ((v0_0 ++ [e0.name]).length ≤ 1099511627776) (k0 (v0_0 ++ [e0.name]) (v0_1 + 1))) else (k0 v0_0 (v0_1 + 1))
def s_CutsOf_l0 (p0 : MZone) : List Rec → (List ByteArray) → Nat → Option (List ByteArray)
  | [], v0_0, v0_1 => some v0_0
  | e0 :: rs0, v0_0, v0_1 => bif decide (e0.ty = 2) then (bif !decide (e0.name = p0.apex) then (bnd1 (s_Under e0.name p0.apex) (fun x4 => bif x4 then (bnd1 (s_l9Has v0_0 e0.name) (fun x7 => s_CutsOf_j1 v0_0 v0_1 e0 (s_CutsOf_l0 p0 rs0) (!x7))) else (s_CutsOf_j1 v0_0 v0_1 e0 (s_CutsOf_l0 p0 rs0) false))) else (s_CutsOf_j1 v0_0 v0_1 e0 (s_CutsOf_l0 p0 rs0) false)) else (s_CutsOf_j1 v0_0 v0_1 e0 (s_CutsOf_l0 p0 rs0) false)
def s_CutsOf (p0 : MZone) : Option (List ByteArray) :=
  s_CutsOf_l0 p0 p0.l ([] : List ByteArray) 0
/- spec.CutOf -/
def s_CutOf_l0 (p1 : ByteArray) : List ByteArray → Nat → Option (ByteArray × Bool)
  | [], v0_0 => some ((⟨#[]⟩ : ByteArray), false)
  | e0 :: rs0, v0_0 => bnd1 (s_Under p1 e0) (fun x4 => bif x4 then (some (e0, true)) else (s_CutOf_l0 p1 rs0 (v0_0 + 1)))
def s_CutOf (p0 : MZone) (p1 : ByteArray) : Option (ByteArray × Bool) :=
  bnd1 (s_CutsOf p0) (fun x1 => s_CutOf_l0 p1 x1 0)
/- spec.l10Record -/
def s_l10Record_j4 (p0 : MZone) (x1 : Rec) : Option Bool :=
  bnd2 (s_CutOf p0 x1.name) (fun x5 x6 => bif !x6 then (some true) else (bif decide (x1.ty = 1) then (some true) else (bif decide (x1.ty = 2) then (some (decide (x1.name = x5))) else (some false))))
def s_l10Record_j6 (v5_0 : Nat) (k5 : Nat → Option Bool) (j6_0 : Bool) : Option Bool :=
  bif j6_0 then (some false) else (k5 (v5_0 + 1))
def s_l10Record_l5 (p0 : MZone) (p1 : Int) (x1 : Rec) : List Rec → Nat → Option Bool
  | [], v5_0 => s_l10Record_j4 p0 x1
  | e5 :: rs5, v5_0 => bif decide (x1.ty = 5) then (bif !decide ((v5_0 : Int) = p1) then (s_l10Record_j6 v5_0 (s_l10Record_l5 p0 p1 x1 rs5) (decide (e5.name = x1.name))) else (s_l10Record_j6 v5_0 (s_l10Record_l5 p0 p1 x1 rs5) false)) else (s_l10Record_j6 v5_0 (s_l10Record_l5 p0 p1 x1 rs5) false)
def s_l10Record_j3 (p0 : MZone) (p1 : Int) (x1 : Rec) (j3_0 : Bool) : Option Bool :=
  bif j3_0 then (some false) else (s_l10Record_l5 p0 p1 x1 p0.l 0)
def s_l10Record_j1 (p0 : MZone) (p1 : Int) (x1 : Rec) : Option Bool :=
  bif decide (x1.ty = 6) then (bif !decide (x1.name = p0.apex) then (s_l10Record_j3 p0 p1 x1 true) else (bif decide (x1.ty = 5) then (s_l10Record_j3 p0 p1 x1 (decide (x1.name = p0.apex))) else (s_l10Record_j3 p0 p1 x1 false))) else (bif decide (x1.ty = 5) then (s_l10Record_j3 p0 p1 x1 (decide (x1.name = p0.apex))) else (s_l10Record_j3 p0 p1 x1 false))
def s_l10Record_j2 (p0 : MZone) (p1 : Int) (x1 : Rec) (j2_0 : Bool) : Option Bool :=
  bif j2_0 then (some false) else (s_l10Record_j1 p0 p1 x1)
def s_l10Record_j0 (p0 : MZone) (p1 : Int) (x1 : Rec) (j0_0 : Bool) : Option Bool :=
  bif j0_0 then (some false) else (bif decide (0 < p1) then (grd (i64 (p1 - 1)) (bnd1 (idx p0.l (p1 - 1)) (fun x6 => bnd1 (s_LessRecord x6 x1) (fun x8 => bif !x8 then (s_l10Record_j2 p0 p1 x1 true) else (bif decide (x6.name = x1.name) then (bif decide (x6.ty = x1.ty) then (s_l10Record_j2 p0 p1 x1 (!decide (x6.ttl = x1.ttl))) else (s_l10Record_j2 p0 p1 x1 false)) else (s_l10Record_j2 p0 p1 x1 false)))))) else (s_l10Record_j1 p0 p1 x1))
def s_l10Record (p0 : MZone) (p1 : Int) : Option Bool :=
  bnd1 (idx p0.l p1) (fun x1 => bnd1 (s_RecordOk x1) (fun x3 => bif !x3 then (s_l10Record_j0 p0 p1 x1 true) else (bnd1 (s_Under x1.name p0.apex) (fun x6 => s_l10Record_j0 p0 p1 x1 (!x6)))))
/- spec.ZoneOk -/
def s_ZoneOk_j1  (j1_0 : Int) (j1_1 : Int) : Option Bool :=
  bif decide (j1_0 = 1) then (some (decide (0 < j1_1))) else (some false)
def s_ZoneOk_j4 (v2_1 : Int) (v2_2 : Nat) (j3_0 : Int) (k2 : Int → Int → Nat → Option Bool) (j4_0 : Bool) : Option Bool :=
  bif j4_0 then (grd (i64 (v2_1 + 1)) (k2 j3_0 (v2_1 + 1) (v2_2 + 1))) else (k2 j3_0 v2_1 (v2_2 + 1))
def s_ZoneOk_j3 (p0 : MZone) (v2_1 : Int) (v2_2 : Nat) (e2 : Rec) (k2 : Int → Int → Nat → Option Bool) (j3_0 : Int) : Option Bool :=
  bif decide (e2.ty = 2) then (s_ZoneOk_j4 v2_1 v2_2 j3_0 (k2) (decide (e2.name = p0.apex))) else (s_ZoneOk_j4 v2_1 v2_2 j3_0 (k2) false)
def s_ZoneOk_l2 (p0 : MZone) : List Rec → Int → Int → Nat → Option Bool
  | [], v2_0, v2_1, v2_2 => s_ZoneOk_j1 v2_0 v2_1
  | e2 :: rs2, v2_0, v2_1, v2_2 => bnd1 (s_l10Record p0 (v2_2 : Int)) (fun x3 => bif !x3 then (some false) else (bif decide (e2.ty = 6) then (grd (i64 (v2_0 + 1)) (s_ZoneOk_j3 p0 v2_1 v2_2 e2 (s_ZoneOk_l2 p0 rs2) (v2_0 + 1))) else (s_ZoneOk_j3 p0 v2_1 v2_2 e2 (s_ZoneOk_l2 p0 rs2) v2_0)))
def s_ZoneOk_j0 (p0 : MZone) (j0_0 : Bool) : Option Bool :=
  bif j0_0 then (some false) else (s_ZoneOk_l2 p0 p0.l 0 0 0)
def s_ZoneOk (p0 : MZone) : Option Bool :=
  bnd1 (s_NameOk p0.apex) (fun x1 => bif !x1 then (s_ZoneOk_j0 p0 true) else (s_ZoneOk_j0 p0 (decide (20 < (p0.l.length : Int)))))
/- stringslite.IndexByte -/
def internal_stringslite_IndexByte (p0 : ByteArray) (p1 : Int) : Option Int :=
  some (Lib.indexByte p0.data.toList p1.toNat.toUInt8)
/- stringslite.Index -/
def internal_stringslite_Index_j0 (p0 : ByteArray) (p1 : ByteArray) (j0_0 : Bool) : Option Int :=
  bif j0_0 then (some 0) else (bif decide ((p1.size : Int) = 1) then (bnd1 (sidx p1 0) (fun x3 => bnd1 (internal_stringslite_IndexByte p0 x3) (fun x5 => some x5))) else (bif decide ((p0.size : Int) ≤ (p1.size : Int)) then (some (-1)) else (none)))
def internal_stringslite_Index (p0 : ByteArray) (p1 : ByteArray) : Option Int :=
  bif decide ((p1.size : Int) = 0) then (internal_stringslite_Index_j0 p0 p1 true) else (internal_stringslite_Index_j0 p0 p1 (decide (p1 = p0)))
/- strings.Index -/
def strings_Index (p0 : ByteArray) (p1 : ByteArray) : Option Int :=
  bnd1 (internal_stringslite_Index p0 p1) (fun x1 => some x1)
/- strings.Count -/
def strings_Count_l0 (p1 : ByteArray) : Nat → ByteArray → Int → Option Int
  | 0, _, _ => none
  | f0 + 1, v0_0, v0_1 => bnd1 (strings_Index v0_0 p1) (fun x5 => bif decide (x5 = (-1)) then (some v0_1) else (grd (i64 (v0_1 + 1)) (grd (i64 (x5 + (p1.size : Int))) (grd (0 ≤ x5 + (p1.size : Int) ∧ x5 + (p1.size : Int) ≤ (v0_0.size : Int) ∧ (v0_0.size : Int) ≤ (v0_0.size : Int)) (strings_Count_l0 p1 f0 (v0_0.extract (x5 + (p1.size : Int)).toNat (v0_0.size : Int).toNat) (v0_1 + 1))))))
def strings_Count (p0 : ByteArray) (p1 : ByteArray) : Option Int :=
  bif decide ((p1.size : Int) = 0) then (none) else (bif decide ((p1.size : Int) = 1) then (bnd1 (sidx p1 0) (fun x3 => some (Lib.countByte p0.data.toList x3.toNat.toUInt8 : Int))) else (strings_Count_l0 p1 fuel0 p0 0))
/- strings.genSplit -/
def strings_genSplit_j1  (j1_0 : ByteArray) (j1_1 : List ByteArray) (j1_2 : Int) : Option (List ByteArray) :=
  bnd1 (idx j1_1 j1_2) (fun x6 => grd (i64 (j1_2 + 1)) (grd (0 ≤ ((0 : Nat) : Int) ∧ ((0 : Nat) : Int) ≤ j1_2 + 1 ∧ j1_2 + 1 ≤ (j1_1.length : Int)) (some (((j1_1.set j1_2.toNat j1_0).drop (0 + ((0 : Nat) : Int).toNat)).take ((j1_2 + 1).toNat - ((0 : Nat) : Int).toNat)))))
def strings_genSplit_l2 (p0 : ByteArray) (p1 : ByteArray) (p2 : Int) (j0_0 : Int) : Nat → ByteArray → (List ByteArray) → Int → Option (List ByteArray)
  | 0, _, _, _ => none
  | f2 + 1, v2_0, v2_1, v2_2 => bif decide (v2_2 < (if (p0.size : Int) + 1 < j0_0 then (p0.size : Int) + 1 else j0_0) - 1) then (bnd1 (strings_Index v2_0 p1) (fun x7 => bif decide (x7 < 0) then (strings_genSplit_j1 v2_0 v2_1 v2_2) else (grd (i64 (x7 + p2)) (grd (0 ≤ ((0 : Nat) : Int) ∧ ((0 : Nat) : Int) ≤ x7 + p2 ∧ x7 + p2 ≤ (v2_0.size : Int)) (bnd1 (idx v2_1 v2_2) (fun x12 => grd (i64 (x7 + (p1.size : Int))) (grd (0 ≤ x7 + (p1.size : Int) ∧ x7 + (p1.size : Int) ≤ (v2_0.size : Int) ∧ (v2_0.size : Int) ≤ (v2_0.size : Int)) (grd (i64 (v2_2 + 1)) (strings_genSplit_l2 p0 p1 p2 j0_0 f2 (v2_0.extract (x7 + (p1.size : Int)).toNat (v2_0.size : Int).toNat) (v2_1.set v2_2.toNat (v2_0.extract ((0 : Nat) : Int).toNat (x7 + p2).toNat)) (v2_2 + 1)))))))))) else (strings_genSplit_j1 v2_0 v2_1 v2_2)
def strings_genSplit_j0 (p0 : ByteArray) (p1 : ByteArray) (p2 : Int) (j0_0 : Int) : Option (List ByteArray) :=
  grd (i64 ((p0.size : Int) + 1)) (grd (0 ≤ (if (p0.size : Int) + 1 < j0_0 then (p0.size : Int) + 1 else j0_0) ∧ (if (p0.size : Int) + 1 < j0_0 then (p0.size : Int) + 1 else j0_0).toNat ≤ 1099511627776) (grd (i64 ((if (p0.size : Int) + 1 < j0_0 then (p0.size : Int) + 1 else j0_0) - 1)) (strings_genSplit_l2 p0 p1 p2 j0_0 fuel0 p0 (List.replicate (if (p0.size : Int) + 1 < j0_0 then (p0.size : Int) + 1 else j0_0).toNat (⟨#[]⟩ : ByteArray)) 0)))
def strings_genSplit (p0 : ByteArray) (p1 : ByteArray) (p2 : Int) (p3 : Int) : Option (List ByteArray) :=
  bif decide (p3 = 0) then (some ([] : List ByteArray)) else (bif decide (p1 = (⟨#[]⟩ : ByteArray)) then (none) else (bif decide (p3 < 0) then (bnd1 (strings_Count p0 p1) (fun x4 => grd (i64 (x4 + 1)) (strings_genSplit_j0 p0 p1 p2 (x4 + 1)))) else (strings_genSplit_j0 p0 p1 p2 p3)))
/- strings.Split -/
def strings_Split (p0 : ByteArray) (p1 : ByteArray) : Option (List ByteArray) :=
  bnd1 (strings_genSplit p0 p1 0 (-1)) (fun x1 => some x1)
/- impl.Labels -/
def i_Labels (p0 : ByteArray) : Option (List ByteArray) :=
  bif decide (p0 = (⟨#[]⟩ : ByteArray)) then (some ([] : List ByteArray)) else (bnd1 (strings_Split p0 (⟨#[46]⟩ : ByteArray)) (fun x2 => some x2))
/- slices.IndexFunc[[]string,string] -/
def slices_IndexFunc_string_l0 (p1 : ByteArray → Option Bool) : List ByteArray → Nat → Option Int
  | [], v0_0 => some (-1)
  | e0 :: rs0, v0_0 => bnd1 (p1 e0) (fun x2 => bif x2 then (some (v0_0 : Int)) else (slices_IndexFunc_string_l0 p1 rs0 (v0_0 + 1)))
def slices_IndexFunc_string (p0 : List ByteArray) (p1 : ByteArray → Option Bool) : Option Int :=
  slices_IndexFunc_string_l0 p1 p0 0
/- slices.ContainsFunc[[]string,string] -/
def slices_ContainsFunc_string (p0 : List ByteArray) (p1 : ByteArray → Option Bool) : Option Bool :=
  bnd1 (slices_IndexFunc_string p0 p1) (fun x1 => some (decide (0 ≤ x1)))
/- impl.LabelOk -/
def i_LabelOk_j0 (p0 : ByteArray) : Option Bool :=
  bif decide (1 ≤ (p0.size : Int)) then (some (decide ((p0.size : Int) ≤ 12))) else (some false)
def i_LabelOk_j2 (v1_0 : Int) (k1 : Int → Option Bool) (j2_0 : Bool) : Option Bool :=
  bif j2_0 then (some false) else (grd (i64 (v1_0 + 1)) (k1 (v1_0 + 1)))
def i_LabelOk_l1 (p0 : ByteArray) : Nat → Int → Option Bool
  | 0, _ => none
  | f1 + 1, v1_0 => bif decide (v1_0 < (p0.size : Int)) then (bnd1 (sidx p0 v1_0) (fun x2 => bif decide (x2 < 97) then (bif decide (x2 < 48) then (bif !decide (x2 = 45) then (i_LabelOk_j2 v1_0 (i_LabelOk_l1 p0 f1) (!decide (x2 = 95))) else (i_LabelOk_j2 v1_0 (i_LabelOk_l1 p0 f1) false)) else (bif decide (57 < x2) then (bif !decide (x2 = 45) then (i_LabelOk_j2 v1_0 (i_LabelOk_l1 p0 f1) (!decide (x2 = 95))) else (i_LabelOk_j2 v1_0 (i_LabelOk_l1 p0 f1) false)) else (i_LabelOk_j2 v1_0 (i_LabelOk_l1 p0 f1) false))) else (bif decide (122 < x2) then (bif decide (x2 < 48) then (bif !decide (x2 = 45) then (i_LabelOk_j2 v1_0 (i_LabelOk_l1 p0 f1) (!decide (x2 = 95))) else (i_LabelOk_j2 v1_0 (i_LabelOk_l1 p0 f1) false)) else (bif decide (57 < x2) then (bif !decide (x2 = 45) then (i_LabelOk_j2 v1_0 (i_LabelOk_l1 p0 f1) (!decide (x2 = 95))) else (i_LabelOk_j2 v1_0 (i_LabelOk_l1 p0 f1) false)) else (i_LabelOk_j2 v1_0 (i_LabelOk_l1 p0 f1) false))) else (i_LabelOk_j2 v1_0 (i_LabelOk_l1 p0 f1) false)))) else (i_LabelOk_j0 p0)
def i_LabelOk (p0 : ByteArray) : Option Bool :=
  i_LabelOk_l1 p0 fuel0 0
/- impl.NameOk$1 -/
def i_NameOk_1 (p0 : ByteArray) : Option Bool :=
  bnd1 (i_LabelOk p0) (fun x1 => some (!x1))
/- impl.NameOk -/
def i_NameOk (p0 : ByteArray) : Option Bool :=
  bnd1 (i_Labels p0) (fun x1 => bif decide ((p0.size : Int) ≤ 50) then (bif decide ((x1.length : Int) ≤ 6) then (bnd1 (slices_ContainsFunc_string x1 (fun a0 => i_NameOk_1 a0)) (fun x5 => some (!x5))) else (some false)) else (some false))
/- impl.Record] -/
def slices_IndexFunc_Record_l0 (p1 : Rec → Option Bool) : List Rec → Nat → Option Int
  | [], v0_0 => some (-1)
  | e0 :: rs0, v0_0 => bnd1 (p1 e0) (fun x2 => bif x2 then (some (v0_0 : Int)) else (slices_IndexFunc_Record_l0 p1 rs0 (v0_0 + 1)))
def slices_IndexFunc_Record (p0 : List Rec) (p1 : Rec → Option Bool) : Option Int :=
  slices_IndexFunc_Record_l0 p1 p0 0
/- impl.Record] -/
def slices_ContainsFunc_Record (p0 : List Rec) (p1 : Rec → Option Bool) : Option Bool :=
  bnd1 (slices_IndexFunc_Record p0 p1) (fun x1 => some (decide (0 ≤ x1)))
/- impl.isTtl -/
def i_isTtl (p0 : Int) : Option Bool :=
  bif decide (0 ≤ p0) then (some (decide (p0 ≤ 100000))) else (some false)
/- impl.isFour -/
def i_isFour (p0 : Int) : Option Bool :=
  bif decide (0 ≤ p0) then (some (decide (p0 ≤ 2147483647))) else (some false)
/- impl.isText -/
def i_isText_j0 (p0 : ByteArray) : Option Bool :=
  some (decide ((p0.size : Int) ≤ 12))
def i_isText_j2 (v1_0 : Int) (k1 : Int → Option Bool) (j2_0 : Bool) : Option Bool :=
  bif j2_0 then (some false) else (grd (i64 (v1_0 + 1)) (k1 (v1_0 + 1)))
def i_isText_l1 (p0 : ByteArray) : Nat → Int → Option Bool
  | 0, _ => none
  | f1 + 1, v1_0 => bif decide (v1_0 < (p0.size : Int)) then (bnd1 (sidx p0 v1_0) (fun x2 => bif decide (x2 < 33) then (i_isText_j2 v1_0 (i_isText_l1 p0 f1) true) else (bnd1 (sidx p0 v1_0) (fun x5 => i_isText_j2 v1_0 (i_isText_l1 p0 f1) (decide (126 < x5)))))) else (i_isText_j0 p0)
def i_isText (p0 : ByteArray) : Option Bool :=
  i_isText_l1 p0 fuel0 0
/- impl.RecordOk -/
def i_RecordOk_j1 (p0 : Rec) (j1_0 : Bool) : Option Bool :=
  bif j1_0 then (bif decide (p0.n = 0) then (bnd1 (i_NameOk p0.host) (fun x9 => bif x9 then (some (decide (p0.text = (⟨#[]⟩ : ByteArray)))) else (some false))) else (some false)) else (bif decide (p0.ty = 6) then (bnd1 (i_isTtl p0.n) (fun x13 => bif x13 then (bnd1 (i_NameOk p0.host) (fun x16 => bif x16 then (some (decide (p0.text = (⟨#[]⟩ : ByteArray)))) else (some false))) else (some false))) else (bif decide (p0.ty = 16) then (bif decide (p0.n = 0) then (bif decide (p0.host = (⟨#[]⟩ : ByteArray)) then (bnd1 (i_isText p0.text) (fun x22 => some x22)) else (some false)) else (some false)) else (some false)))
def i_RecordOk_j0 (p0 : Rec) (j0_0 : Bool) : Option Bool :=
  bif j0_0 then (some false) else (bif decide (p0.ty = 1) then (bnd1 (i_isFour p0.n) (fun x3 => bif x3 then (bif decide (p0.host = (⟨#[]⟩ : ByteArray)) then (some (decide (p0.text = (⟨#[]⟩ : ByteArray)))) else (some false)) else (some false))) else (bif decide (p0.ty = 2) then (i_RecordOk_j1 p0 (decide (p0.ty = 2))) else (i_RecordOk_j1 p0 (decide (p0.ty = 5)))))
def i_RecordOk (p0 : Rec) : Option Bool :=
  bnd1 (i_NameOk p0.name) (fun x1 => bif !x1 then (i_RecordOk_j0 p0 true) else (bnd1 (i_isTtl p0.ttl) (fun x4 => i_RecordOk_j0 p0 (!x4))))
/- impl.allOk$1 -/
def i_allOk_1 (p0 : Rec) : Option Bool :=
  bnd1 (i_RecordOk p0) (fun x1 => some (!x1))
/- impl.allOk -/
def i_allOk (p0 : List Rec) (p1 : Int) : Option Bool :=
  bif decide ((p0.length : Int) ≤ p1) then (bnd1 (slices_ContainsFunc_Record p0 (fun a0 => i_allOk_1 a0)) (fun x2 => some (!x2))) else (some false)
/- slices.Equal[[]string,string] -/
def slices_Equal_string_l0 (p1 : List ByteArray) : List ByteArray → Nat → Option Bool
  | [], v0_0 => some true
  | e0 :: rs0, v0_0 => bnd1 (idx p1 (v0_0 : Int)) (fun x3 => bif !decide (e0 = x3) then (some false) else (slices_Equal_string_l0 p1 rs0 (v0_0 + 1)))
def slices_Equal_string (p0 : List ByteArray) (p1 : List ByteArray) : Option Bool :=
  bif !decide ((p0.length : Int) = (p1.length : Int)) then (some false) else (slices_Equal_string_l0 p1 p0 0)
/- impl.Under -/
def i_Under (p0 : ByteArray) (p1 : ByteArray) : Option Bool :=
  bnd1 (i_Labels p0) (fun x1 => bnd1 (i_Labels p1) (fun x3 => bif decide ((x3.length : Int) ≤ (x1.length : Int)) then (grd (i64 ((x1.length : Int) - (x3.length : Int))) (grd (0 ≤ (x1.length : Int) - (x3.length : Int) ∧ (x1.length : Int) - (x3.length : Int) ≤ (x1.length : Int) ∧ (x1.length : Int) ≤ (x1.length : Int)) (bnd1 (slices_Equal_string ((x1.drop (0 + ((x1.length : Int) - (x3.length : Int)).toNat)).take ((x1.length : Int).toNat - ((x1.length : Int) - (x3.length : Int)).toNat)) x3) (fun x8 => some x8)))) else (some false)))
/- slices.Reverse[[]string,string] -/
def slices_Reverse_string_l0  : Nat → (List ByteArray) → Int → Int → Option (List ByteArray)
  | 0, _, _, _ => none
  | f0 + 1, v0_0, v0_1, v0_2 => bif decide (v0_1 < v0_2) then (bnd1 (idx v0_0 v0_2) (fun x3 => bnd1 (idx v0_0 v0_1) (fun x5 => bnd1 (idx (v0_0.set v0_1.toNat x3) v0_2) (fun x7 => grd (i64 (v0_1 + 1)) (grd (i64 (v0_2 - 1)) (slices_Reverse_string_l0 f0 ((v0_0.set v0_1.toNat x3).set v0_2.toNat x5) (v0_1 + 1) (v0_2 - 1))))))) else (some v0_0)
def slices_Reverse_string (p0 : List ByteArray) : Option (List ByteArray) :=
  grd (i64 ((p0.length : Int) - 1)) (slices_Reverse_string_l0 fuel0 p0 0 ((p0.length : Int) - 1))
/- cmp.isNaN[string] -/
def cmp_isNaN_string (p0 : ByteArray) : Option Bool :=
  some (!decide (p0 = p0))
/- cmp.Compare[string] -/
def cmp_Compare_string (p0 : ByteArray) (p1 : ByteArray) : Option Int :=
  bnd1 (cmp_isNaN_string p0) (fun x1 => bnd1 (cmp_isNaN_string p1) (fun x3 => bif x1 then (bif x3 then (some 0) else (some (-1))) else (bif x3 then (some 1) else (bif Op.bytesLess p0.toList p1.toList then (some (-1)) else (bif (!Op.bytesLess p0.toList p1.toList && !(p0.toList == p1.toList)) then (some 1) else (some 0))))))
/- slices.Compare[[]string,string] -/
def slices_Compare_string_j0 (p0 : List ByteArray) (p1 : List ByteArray) : Option Int :=
  bif decide ((p0.length : Int) < (p1.length : Int)) then (some (-1)) else (some 0)
def slices_Compare_string_l1 (p0 : List ByteArray) (p1 : List ByteArray) : List ByteArray → Nat → Option Int
  | [], v1_0 => slices_Compare_string_j0 p0 p1
  | e1 :: rs1, v1_0 => bif decide ((p1.length : Int) ≤ (v1_0 : Int)) then (some 1) else (bnd1 (idx p1 (v1_0 : Int)) (fun x3 => bnd1 (cmp_Compare_string e1 x3) (fun x5 => bif !decide (x5 = 0) then (some x5) else (slices_Compare_string_l1 p0 p1 rs1 (v1_0 + 1)))))
def slices_Compare_string (p0 : List ByteArray) (p1 : List ByteArray) : Option Int :=
  slices_Compare_string_l1 p0 p1 p0 0
/- impl.LessName -/
def i_LessName (p0 : ByteArray) (p1 : ByteArray) : Option Bool :=
  bnd1 (i_Labels p0) (fun x1 => bnd1 (i_Labels p1) (fun x3 => bnd1 (slices_Reverse_string x1) (fun x5 => grd (x5.length = x1.length) (bnd1 (slices_Reverse_string x3) (fun x8 => grd (x8.length = x3.length) (bnd1 (slices_Compare_string x5 x8) (fun x11 => some (decide (x11 < 0)))))))))
/- impl.byName -/
def i_byName (p0 : ByteArray) (p1 : ByteArray) : Option Int :=
  bnd1 (i_LessName p0 p1) (fun x1 => bif x1 then (some (-1)) else (bnd1 (i_LessName p1 p0) (fun x4 => bif x4 then (some 1) else (some 0))))
/- cmp.isNaN[int] -/
def cmp_isNaN_int (p0 : Int) : Option Bool :=
  some (!decide (p0 = p0))
/- cmp.Compare[int] -/
def cmp_Compare_int (p0 : Int) (p1 : Int) : Option Int :=
  bnd1 (cmp_isNaN_int p0) (fun x1 => bnd1 (cmp_isNaN_int p1) (fun x3 => bif x1 then (bif x3 then (some 0) else (some (-1))) else (bif x3 then (some 1) else (bif decide (p0 < p1) then (some (-1)) else (bif decide (p1 < p0) then (some 1) else (some 0))))))
/- cmp.Or[int] -/
def cmp_Or_int_l0  : List Int → Nat → Option Int
  | [], v0_0 => some 0
  | e0 :: rs0, v0_0 => bif !decide (e0 = 0) then (some e0) else (cmp_Or_int_l0 rs0 (v0_0 + 1))
def cmp_Or_int (p0 : List Int) : Option Int :=
  cmp_Or_int_l0 p0 0
/- impl.byRecord -/
def i_byRecord (p0 : Rec) (p1 : Rec) : Option Int :=
  bnd1 (i_byName p0.name p1.name) (fun x1 => bnd1 (cmp_Compare_int p0.ty p1.ty) (fun x3 => bnd1 (cmp_Compare_int p0.n p1.n) (fun x5 => bnd1 (i_byName p0.host p1.host) (fun x7 => bnd1 (cmp_Compare_string p0.text p1.text) (fun x9 => bnd1 (cmp_Compare_int p0.ttl p1.ttl) (fun x11 => bnd1 (cmp_Or_int [x1, x3, x5, x7, x9, x11]) (fun x13 => some x13)))))))
/- impl.LessRecord -/
def i_LessRecord (p0 : Rec) (p1 : Rec) : Option Bool :=
  bnd1 (i_byRecord p0 p1) (fun x1 => some (decide (x1 < 0)))
/- slices.Index[[]string,string] -/
def slices_Index_string_l0 (p1 : ByteArray) : List ByteArray → Nat → Option Int
  | [], v0_0 => some (-1)
  | e0 :: rs0, v0_0 => bif decide (p1 = e0) then (some (v0_0 : Int)) else (slices_Index_string_l0 p1 rs0 (v0_0 + 1))
def slices_Index_string (p0 : List ByteArray) (p1 : ByteArray) : Option Int :=
  slices_Index_string_l0 p1 p0 0
/- slices.Contains[[]string,string] -/
def slices_Contains_string (p0 : List ByteArray) (p1 : ByteArray) : Option Bool :=
  bnd1 (slices_Index_string p0 p1) (fun x1 => some (decide (0 ≤ x1)))
/- impl.CutsOf -/
def i_CutsOf_j1 (v0_0 : List ByteArray) (v0_1 : Nat) (e0 : Rec) (k0 : (List ByteArray) → Nat → Option (List ByteArray)) (j1_0 : Bool) : Option (List ByteArray) :=
  bif j1_0 then (grd ((v0_0 ++ [e0.name]).length ≤ 1099511627776) (k0 (v0_0 ++ [e0.name]) (v0_1 + 1))) else (k0 v0_0 (v0_1 + 1))
def i_CutsOf_l0 (p0 : MZone) : List Rec → (List ByteArray) → Nat → Option (List ByteArray)
  | [], v0_0, v0_1 => some v0_0
  | e0 :: rs0, v0_0, v0_1 => bif decide (e0.ty = 2) then (bif !decide (e0.name = p0.apex) then (bnd1 (i_Under e0.name p0.apex) (fun x4 => bif x4 then (bnd1 (slices_Contains_string v0_0 e0.name) (fun x7 => i_CutsOf_j1 v0_0 v0_1 e0 (i_CutsOf_l0 p0 rs0) (!x7))) else (i_CutsOf_j1 v0_0 v0_1 e0 (i_CutsOf_l0 p0 rs0) false))) else (i_CutsOf_j1 v0_0 v0_1 e0 (i_CutsOf_l0 p0 rs0) false)) else (i_CutsOf_j1 v0_0 v0_1 e0 (i_CutsOf_l0 p0 rs0) false)
def i_CutsOf (p0 : MZone) : Option (List ByteArray) :=
  i_CutsOf_l0 p0 p0.l ([] : List ByteArray) 0
/- impl.SetOf -/
def i_SetOf_j1 (v0_0 : List Rec) (v0_1 : Nat) (e0 : Rec) (k0 : (List Rec) → Nat → Option (List Rec)) (j1_0 : Bool) : Option (List Rec) :=
  bif j1_0 then (grd ((v0_0 ++ [e0]).length ≤ 1099511627776) (k0 (v0_0 ++ [e0]) (v0_1 + 1))) else (k0 v0_0 (v0_1 + 1))
def i_SetOf_l0 (p1 : ByteArray) (p2 : Int) : List Rec → (List Rec) → Nat → Option (List Rec)
  | [], v0_0, v0_1 => some v0_0
  | e0 :: rs0, v0_0, v0_1 => bif decide (e0.name = p1) then (i_SetOf_j1 v0_0 v0_1 e0 (i_SetOf_l0 p1 p2 rs0) (decide (e0.ty = p2))) else (i_SetOf_j1 v0_0 v0_1 e0 (i_SetOf_l0 p1 p2 rs0) false)
def i_SetOf (p0 : List Rec) (p1 : ByteArray) (p2 : Int) : Option (List Rec) :=
  i_SetOf_l0 p1 p2 p0 ([] : List Rec) 0
/- impl.ZoneOk -/
def i_ZoneOk_j1 (p0 : MZone) (j1_0 : Int) : Option Bool :=
  bif decide (j1_0 = 1) then (bnd1 (i_SetOf p0.l p0.apex 2) (fun x3 => some (decide (0 < (x3.length : Int))))) else (some false)
def i_ZoneOk_j10 (v9_0 : Nat) (k9 : Nat → Option Bool) (j10_0 : Bool) : Option Bool :=
  bif j10_0 then (some false) else (k9 (v9_0 + 1))
def i_ZoneOk_l9 (v2_1 : Nat) (e2 : Rec) (j7_0 : Int) (k2 : Int → Nat → Option Bool) : List ByteArray → Nat → Option Bool
  | [], v9_0 => k2 j7_0 (v2_1 + 1)
  | e9 :: rs9, v9_0 => bnd1 (i_Under e2.name e9) (fun x7 => bif x7 then (bif !decide (e2.ty = 1) then (bif decide (e2.ty = 2) then (i_ZoneOk_j10 v9_0 (i_ZoneOk_l9 v2_1 e2 j7_0 k2 rs9) (!(decide (e2.name = e9)))) else (i_ZoneOk_j10 v9_0 (i_ZoneOk_l9 v2_1 e2 j7_0 k2 rs9) true)) else (i_ZoneOk_j10 v9_0 (i_ZoneOk_l9 v2_1 e2 j7_0 k2 rs9) false)) else (i_ZoneOk_j10 v9_0 (i_ZoneOk_l9 v2_1 e2 j7_0 k2 rs9) false))
def i_ZoneOk_j7 (p0 : MZone) (v2_1 : Nat) (e2 : Rec) (k2 : Int → Nat → Option Bool) (j7_0 : Int) : Option Bool :=
  bnd1 (i_CutsOf p0) (fun x4 => i_ZoneOk_l9 v2_1 e2 j7_0 (k2) x4 0)
def i_ZoneOk_j8 (p0 : MZone) (v2_0 : Int) (v2_1 : Nat) (e2 : Rec) (k2 : Int → Nat → Option Bool) (j8_0 : Bool) : Option Bool :=
  bif j8_0 then (some false) else (bif decide (e2.ty = 6) then (grd (i64 (v2_0 + 1)) (i_ZoneOk_j7 p0 v2_1 e2 (k2) (v2_0 + 1))) else (i_ZoneOk_j7 p0 v2_1 e2 (k2) v2_0))
def i_ZoneOk_j4 (p0 : MZone) (v2_0 : Int) (v2_1 : Nat) (e2 : Rec) (k2 : Int → Nat → Option Bool) : Option Bool :=
  bif decide (e2.ty = 6) then (bif !decide (e2.name = p0.apex) then (i_ZoneOk_j8 p0 v2_0 v2_1 e2 (k2) true) else (bif decide (e2.ty = 5) then (i_ZoneOk_j8 p0 v2_0 v2_1 e2 (k2) (decide (e2.name = p0.apex))) else (i_ZoneOk_j8 p0 v2_0 v2_1 e2 (k2) false))) else (bif decide (e2.ty = 5) then (i_ZoneOk_j8 p0 v2_0 v2_1 e2 (k2) (decide (e2.name = p0.apex))) else (i_ZoneOk_j8 p0 v2_0 v2_1 e2 (k2) false))
def i_ZoneOk_j6 (v5_0 : Nat) (k5 : Nat → Option Bool) (j6_0 : Bool) : Option Bool :=
  bif j6_0 then (some false) else (k5 (v5_0 + 1))
def i_ZoneOk_l5 (p0 : MZone) (v2_0 : Int) (v2_1 : Nat) (e2 : Rec) (k2 : Int → Nat → Option Bool) : List Rec → Nat → Option Bool
  | [], v5_0 => i_ZoneOk_j4 p0 v2_0 v2_1 e2 (k2)
  | e5 :: rs5, v5_0 => bif !decide (e5.name = e2.name) then (i_ZoneOk_l5 p0 v2_0 v2_1 e2 k2 rs5 (v5_0 + 1)) else (bif decide (e5.ty = e2.ty) then (bif !decide (e5.ttl = e2.ttl) then (i_ZoneOk_j6 v5_0 (i_ZoneOk_l5 p0 v2_0 v2_1 e2 k2 rs5) true) else (bif decide (e2.ty = 5) then (i_ZoneOk_j6 v5_0 (i_ZoneOk_l5 p0 v2_0 v2_1 e2 k2 rs5) (!(decide (e5.name = e2.name) && (decide (e5.ty = e2.ty) && (decide (e5.ttl = e2.ttl) && (decide (e5.n = e2.n) && (decide (e5.host = e2.host) && (decide (e5.text = e2.text) && true)))))))) else (i_ZoneOk_j6 v5_0 (i_ZoneOk_l5 p0 v2_0 v2_1 e2 k2 rs5) false))) else (bif decide (e2.ty = 5) then (i_ZoneOk_j6 v5_0 (i_ZoneOk_l5 p0 v2_0 v2_1 e2 k2 rs5) (!(decide (e5.name = e2.name) && (decide (e5.ty = e2.ty) && (decide (e5.ttl = e2.ttl) && (decide (e5.n = e2.n) && (decide (e5.host = e2.host) && (decide (e5.text = e2.text) && true)))))))) else (i_ZoneOk_j6 v5_0 (i_ZoneOk_l5 p0 v2_0 v2_1 e2 k2 rs5) false)))
def i_ZoneOk_j3 (p0 : MZone) (v2_0 : Int) (v2_1 : Nat) (e2 : Rec) (k2 : Int → Nat → Option Bool) (j3_0 : Bool) : Option Bool :=
  bif j3_0 then (some false) else (i_ZoneOk_l5 p0 v2_0 v2_1 e2 (k2) p0.l 0)
def i_ZoneOk_l2 (p0 : MZone) : List Rec → Int → Nat → Option Bool
  | [], v2_0, v2_1 => i_ZoneOk_j1 p0 v2_0
  | e2 :: rs2, v2_0, v2_1 => bnd1 (i_Under e2.name p0.apex) (fun x3 => bif !x3 then (i_ZoneOk_j3 p0 v2_0 v2_1 e2 (i_ZoneOk_l2 p0 rs2) true) else (bif decide (0 < (v2_1 : Int)) then (grd (i64 ((v2_1 : Int) - 1)) (bnd1 (idx p0.l ((v2_1 : Int) - 1)) (fun x8 => bnd1 (i_LessRecord x8 e2) (fun x10 => i_ZoneOk_j3 p0 v2_0 v2_1 e2 (i_ZoneOk_l2 p0 rs2) (!x10))))) else (i_ZoneOk_j3 p0 v2_0 v2_1 e2 (i_ZoneOk_l2 p0 rs2) false)))
def i_ZoneOk_j0 (p0 : MZone) (j0_0 : Bool) : Option Bool :=
  bif j0_0 then (some false) else (i_ZoneOk_l2 p0 p0.l 0 0)
def i_ZoneOk (p0 : MZone) : Option Bool :=
  bnd1 (i_NameOk p0.apex) (fun x1 => bif !x1 then (i_ZoneOk_j0 p0 true) else (bnd1 (i_allOk p0.l 20) (fun x4 => i_ZoneOk_j0 p0 (!x4))))
/- laws.eqRecord -/
def w_eqRecord (p0 : Rec) (p1 : Rec) : Option Bool :=
  bif !decide (p0.name = p1.name) then (some false) else (bif !decide (p0.ty = p1.ty) then (some false) else (bif !decide (p0.ttl = p1.ttl) then (some false) else (bif !decide (p0.n = p1.n) then (some false) else (bif !decide (p0.host = p1.host) then (some false) else (bif !decide (p0.text = p1.text) then (some false) else (some true))))))
/- laws.eqRecordS -/
def w_eqRecordS_l0 (p1 : List Rec) : List Rec → Nat → Option Bool
  | [], v0_0 => some true
  | e0 :: rs0, v0_0 => bnd1 (idx p1 (v0_0 : Int)) (fun x3 => bnd1 (w_eqRecord e0 x3) (fun x5 => bif !x5 then (some false) else (w_eqRecordS_l0 p1 rs0 (v0_0 + 1))))
def w_eqRecordS (p0 : List Rec) (p1 : List Rec) : Option Bool :=
  bif !decide ((p0.length : Int) = (p1.length : Int)) then (some false) else (w_eqRecordS_l0 p1 p0 0)
/- laws.eqZone -/
def w_eqZone (p0 : MZone) (p1 : MZone) : Option Bool :=
  bif !decide (p0.apex = p1.apex) then (some false) else (bnd1 (w_eqRecordS p0.l p1.l) (fun x2 => bif !x2 then (some false) else (some true)))
/- laws.FnExactZoneOk -/
def w_FnExactZoneOk (p0 : MZone) : Option Bool :=
  bnd1 (w_szZone p0 1048576) (fun x1 => bif decide (x1 < 0) then (some true) else (bnd1 (w_toZone p0) (fun x4 => bnd1 (s_ZoneOk x4) (fun x6 => bnd1 (w_toZone p0) (fun x8 => bnd1 (i_ZoneOk x8) (fun x10 => bif !(x10 == x6) then (some false) else (bnd1 (w_toZone p0) (fun x13 => bnd1 (w_eqZone x8 x13) (fun x15 => bif !x15 then (some false) else (some true))))))))))
end Go.Abs.M
