/- The functions that the law of SameFact reaches, as pure functions that may fail. -/
import Derived.Test.YtaacegjkiccijaaAbsA28
namespace Go.Abs.M
open Go Go.Abs
structure Rec where
  name : ByteArray
  ty : Int
  ttl : Int
  n : Int
  host : ByteArray
  text : ByteArray
  deriving DecidableEq
def recV (r : Rec) : List V := [.sc (.string r.name), .sc (.int .i64 r.ty), .sc (.int .i64 r.ttl), .sc (.int .i64 r.n), .sc (.string r.host), .sc (.string r.text)]
theorem recV_free (r : Rec) : (recV r).all (·.free) = true := rfl
theorem recV_len (r : Rec) : (recV r).length = 6 := rfl
def Rec.ok (r : Rec) : Prop := r.name.size ≤ 9223372036854775807 ∧ i64 r.ty ∧ i64 r.ttl ∧ i64 r.n ∧ r.host.size ≤ 9223372036854775807 ∧ r.text.size ≤ 9223372036854775807
theorem recV_sc (r : Rec) : (recV r).all isScN = true := rfl
structure MFact where
  code : Int
  links : List Rec
  l : List Rec
  fin : Bool
  deriving DecidableEq
def mFactV (r : MFact) : List V := [.sc (.int .i64 r.code), .lst 6 (List.map recV r.links), .lst 6 (List.map recV r.l), .sc (.bool r.fin)]
theorem mFactV_free (r : MFact) : (mFactV r).all (·.free) = true := rfl
theorem mFactV_len (r : MFact) : (mFactV r).length = 4 := rfl
def MFact.ok (r : MFact) : Prop := i64 r.code ∧ (r.links.length ≤ 9223372036854775807 ∧ ∀ q, q ∈ r.links → q.ok) ∧ (r.l.length ≤ 9223372036854775807 ∧ ∀ q, q ∈ r.l → q.ok)
/- laws.szRecord -/
def w_szRecord (p0 : Rec) (p1 : Int) : Option Int :=
  grd (i64 (p1 - (p0.name.size : Int))) (bif decide (p1 - (p0.name.size : Int) < 0) then (some (-1)) else (grd (i64 ((p1 - (p0.name.size : Int)) - (p0.host.size : Int))) (bif decide ((p1 - (p0.name.size : Int)) - (p0.host.size : Int) < 0) then (some (-1)) else (grd (i64 (((p1 - (p0.name.size : Int)) - (p0.host.size : Int)) - (p0.text.size : Int))) (bif decide (((p1 - (p0.name.size : Int)) - (p0.host.size : Int)) - (p0.text.size : Int) < 0) then (some (-1)) else (some (((p1 - (p0.name.size : Int)) - (p0.host.size : Int)) - (p0.text.size : Int))))))))
/- laws.szRecordS -/
def w_szRecordS_l0  : List Rec → Int → Nat → Option Int
  | [], v0_0, v0_1 => some v0_0
  | e0 :: rs0, v0_0, v0_1 => bnd1 (w_szRecord e0 v0_0) (fun x4 => bif decide (x4 < 0) then (some (-1)) else (w_szRecordS_l0 rs0 x4 (v0_1 + 1)))
def w_szRecordS (p0 : List Rec) (p1 : Int) : Option Int :=
  grd (i64 (p1 - (p0.length : Int))) (bif decide (p1 - (p0.length : Int) < 0) then (some (-1)) else (w_szRecordS_l0 p0 (p1 - (p0.length : Int)) 0))
/- laws.szFact -/
def w_szFact (p0 : MFact) (p1 : Int) : Option Int :=
  bnd1 (w_szRecordS p0.links p1) (fun x1 => bif decide (x1 < 0) then (some (-1)) else (bnd1 (w_szRecordS p0.l x1) (fun x4 => bif decide (x4 < 0) then (some (-1)) else (some x4))))
/- laws.toRecord -/
def w_toRecord (p0 : Rec) : Option Rec :=
  some p0
/- laws.toRecordS -/
def w_toRecordS_l0  : List Rec → (List Rec) → Nat → Option (List Rec)
  | [], v0_0, v0_1 => some v0_0
  | e0 :: rs0, v0_0, v0_1 => bnd1 (w_toRecord e0) (fun x3 => bnd1 (idx v0_0 (v0_1 : Int)) (fun x5 => w_toRecordS_l0 rs0 (v0_0.set ((v0_1 : Int).toNat) x3) (v0_1 + 1)))
def w_toRecordS (p0 : List Rec) : Option (List Rec) :=
  grd (0 ≤ (p0.length : Int) ∧ (p0.length : Int).toNat ≤ 1099511627776) (w_toRecordS_l0 p0 (List.replicate (p0.length : Int).toNat (Rec.mk (⟨#[]⟩ : ByteArray) 0 0 0 (⟨#[]⟩ : ByteArray) (⟨#[]⟩ : ByteArray))) 0)
/- laws.toFact -/
def w_toFact (p0 : MFact) : Option MFact :=
  bnd1 (w_toRecordS p0.links) (fun x1 => bnd1 (w_toRecordS p0.l) (fun x3 => some (MFact.mk p0.code x1 x3 p0.fin)))
/- spec.l13SameLinks -/
def s_l13SameLinks_l0 (p1 : List Rec) : List Rec → Nat → Option Bool
  | [], v0_0 => some true
  | e0 :: rs0, v0_0 => bnd1 (idx p1 (v0_0 : Int)) (fun x3 => bif !(decide (e0.name = x3.name) && (decide (e0.ty = x3.ty) && (decide (x3.ttl = x3.ttl) && (decide (e0.n = x3.n) && (decide (e0.host = x3.host) && (decide (e0.text = x3.text) && true)))))) then (some false) else (s_l13SameLinks_l0 p1 rs0 (v0_0 + 1)))
def s_l13SameLinks (p0 : List Rec) (p1 : List Rec) : Option Bool :=
  bif !decide ((p0.length : Int) = (p1.length : Int)) then (some false) else (s_l13SameLinks_l0 p1 p0 0)
/- spec.l9In -/
def s_l9In_l0 (p1 : Rec) : List Rec → Nat → Option Bool
  | [], v0_0 => some false
  | e0 :: rs0, v0_0 => bif (decide (e0.name = p1.name) && (decide (e0.ty = p1.ty) && (decide (p1.ttl = p1.ttl) && (decide (e0.n = p1.n) && (decide (e0.host = p1.host) && (decide (e0.text = p1.text) && true)))))) then (some true) else (s_l9In_l0 p1 rs0 (v0_0 + 1))
def s_l9In (p0 : List Rec) (p1 : Rec) : Option Bool :=
  s_l9In_l0 p1 p0 0
/- spec.SameData -/
def s_SameData_l2 (p0 : List Rec) : List Rec → Nat → Option Bool
  | [], v2_0 => some true
  | e2 :: rs2, v2_0 => bnd1 (s_l9In p0 e2) (fun x2 => bif !x2 then (some false) else (s_SameData_l2 p0 rs2 (v2_0 + 1)))
def s_SameData_j0 (p0 : List Rec) (p1 : List Rec) : Option Bool :=
  s_SameData_l2 p0 p1 0
def s_SameData_l1 (p0 : List Rec) (p1 : List Rec) : List Rec → Nat → Option Bool
  | [], v1_0 => s_SameData_j0 p0 p1
  | e1 :: rs1, v1_0 => bnd1 (s_l9In p1 e1) (fun x2 => bif !x2 then (some false) else (s_SameData_l1 p0 p1 rs1 (v1_0 + 1)))
def s_SameData (p0 : List Rec) (p1 : List Rec) : Option Bool :=
  s_SameData_l1 p0 p1 p0 0
/- spec.SameFact -/
def s_SameFact (p0 : MFact) (p1 : MFact) : Option Bool :=
  bif decide (p0.code = p1.code) then (bif (p0.fin == p1.fin) then (bnd1 (s_l13SameLinks p0.links p1.links) (fun x3 => bif x3 then (bnd1 (s_SameData p0.l p1.l) (fun x6 => some x6)) else (some false))) else (some false)) else (some false)
/- impl.Record] -/
def slices_Clone_Record (p0 : List Rec) : Option (List Rec) :=
  grd ((([] : List Rec) ++ p0).length ≤ 1099511627776) (some (([] : List Rec) ++ p0))
/- impl.WithTtl -/
def i_WithTtl_l0 (p1 : Int) : List Rec → (List Rec) → Nat → Option (List Rec)
  | [], v0_0, v0_1 => some v0_0
  | e0 :: rs0, v0_0, v0_1 => bnd1 (idx v0_0 (v0_1 : Int)) (fun x4 => i_WithTtl_l0 p1 rs0 (v0_0.set ((v0_1 : Int).toNat) (Rec.mk x4.name x4.ty p1 x4.n x4.host x4.text)) (v0_1 + 1))
def i_WithTtl (p0 : List Rec) (p1 : Int) : Option (List Rec) :=
  bnd1 (slices_Clone_Record p0) (fun x1 => i_WithTtl_l0 p1 x1 x1 0)
/- impl.Record] -/
def slices_Equal_Record_l0 (p1 : List Rec) : List Rec → Nat → Option Bool
  | [], v0_0 => some true
  | e0 :: rs0, v0_0 => bnd1 (idx p1 (v0_0 : Int)) (fun x3 => bif !(decide (e0.name = x3.name) && (decide (e0.ty = x3.ty) && (decide (e0.ttl = x3.ttl) && (decide (e0.n = x3.n) && (decide (e0.host = x3.host) && (decide (e0.text = x3.text) && true)))))) then (some false) else (slices_Equal_Record_l0 p1 rs0 (v0_0 + 1)))
def slices_Equal_Record (p0 : List Rec) (p1 : List Rec) : Option Bool :=
  bif !decide ((p0.length : Int) = (p1.length : Int)) then (some false) else (slices_Equal_Record_l0 p1 p0 0)
/- impl.SameRecords -/
def i_SameRecords (p0 : List Rec) (p1 : List Rec) : Option Bool :=
  bnd1 (slices_Equal_Record p0 p1) (fun x1 => some x1)
/- impl.Record] -/
def slices_IndexFunc_Record_l0 (p1 : Rec → Option Bool) : List Rec → Nat → Option Int
  | [], v0_0 => some (-1)
  | e0 :: rs0, v0_0 => bnd1 (p1 e0) (fun x2 => bif x2 then (some (v0_0 : Int)) else (slices_IndexFunc_Record_l0 p1 rs0 (v0_0 + 1)))
def slices_IndexFunc_Record (p0 : List Rec) (p1 : Rec → Option Bool) : Option Int :=
  slices_IndexFunc_Record_l0 p1 p0 0
/- impl.Record] -/
def slices_ContainsFunc_Record (p0 : List Rec) (p1 : Rec → Option Bool) : Option Bool :=
  bnd1 (slices_IndexFunc_Record p0 p1) (fun x1 => some (decide (0 ≤ x1)))
/- impl.Record] -/
def slices_Index_Record_l0 (p1 : Rec) : List Rec → Nat → Option Int
  | [], v0_0 => some (-1)
  | e0 :: rs0, v0_0 => bif (decide (p1.name = e0.name) && (decide (p1.ty = e0.ty) && (decide (p1.ttl = e0.ttl) && (decide (p1.n = e0.n) && (decide (p1.host = e0.host) && (decide (p1.text = e0.text) && true)))))) then (some (v0_0 : Int)) else (slices_Index_Record_l0 p1 rs0 (v0_0 + 1))
def slices_Index_Record (p0 : List Rec) (p1 : Rec) : Option Int :=
  slices_Index_Record_l0 p1 p0 0
/- impl.Record] -/
def slices_Contains_Record (p0 : List Rec) (p1 : Rec) : Option Bool :=
  bnd1 (slices_Index_Record p0 p1) (fun x1 => some (decide (0 ≤ x1)))
/- impl.within$1 -/
def i_within_1 (p0 : Rec) (p1 : List Rec) : Option Bool :=
  bnd1 (slices_Contains_Record p1 p0) (fun x1 => some (!x1))
/- impl.within -/
def i_within (p0 : List Rec) (p1 : List Rec) : Option Bool :=
  bnd1 (i_WithTtl p0 0) (fun x1 => bnd1 (i_WithTtl p1 0) (fun x3 => bnd1 (slices_ContainsFunc_Record x1 (fun a0 => i_within_1 a0 x3)) (fun x5 => some (!x5))))
/- impl.SameData -/
def i_SameData (p0 : List Rec) (p1 : List Rec) : Option Bool :=
  bnd1 (i_within p0 p1) (fun x1 => bif x1 then (bnd1 (i_within p1 p0) (fun x4 => some x4)) else (some false))
/- impl.SameFact -/
def i_SameFact (p0 : MFact) (p1 : MFact) : Option Bool :=
  bif decide (p0.code = p1.code) then (bif (p0.fin == p1.fin) then (bnd1 (i_WithTtl p0.links 0) (fun x3 => bnd1 (i_WithTtl p1.links 0) (fun x5 => bnd1 (i_SameRecords x3 x5) (fun x7 => bif x7 then (bnd1 (i_SameData p0.l p1.l) (fun x10 => some x10)) else (some false))))) else (some false)) else (some false)
/- laws.eqRecord -/
def w_eqRecord (p0 : Rec) (p1 : Rec) : Option Bool :=
  bif !decide (p0.name = p1.name) then (some false) else (bif !decide (p0.ty = p1.ty) then (some false) else (bif !decide (p0.ttl = p1.ttl) then (some false) else (bif !decide (p0.n = p1.n) then (some false) else (bif !decide (p0.host = p1.host) then (some false) else (bif !decide (p0.text = p1.text) then (some false) else (some true))))))
/- laws.eqRecordS -/
def w_eqRecordS_l0 (p1 : List Rec) : List Rec → Nat → Option Bool
  | [], v0_0 => some true
  | e0 :: rs0, v0_0 => bnd1 (idx p1 (v0_0 : Int)) (fun x3 => bnd1 (w_eqRecord e0 x3) (fun x5 => bif !x5 then (some false) else (w_eqRecordS_l0 p1 rs0 (v0_0 + 1))))
def w_eqRecordS (p0 : List Rec) (p1 : List Rec) : Option Bool :=
  bif !decide ((p0.length : Int) = (p1.length : Int)) then (some false) else (w_eqRecordS_l0 p1 p0 0)
/- laws.eqFact -/
def w_eqFact (p0 : MFact) (p1 : MFact) : Option Bool :=
  bif !decide (p0.code = p1.code) then (some false) else (bnd1 (w_eqRecordS p0.links p1.links) (fun x2 => bif !x2 then (some false) else (bnd1 (w_eqRecordS p0.l p1.l) (fun x5 => bif !x5 then (some false) else (bif !(p0.fin == p1.fin) then (some false) else (some true))))))
/- laws.FnExactSameFact -/
def w_FnExactSameFact (p0 : MFact) (p1 : MFact) : Option Bool :=
  bnd1 (w_szFact p0 1048576) (fun x1 => bif decide (x1 < 0) then (some true) else (bnd1 (w_szFact p1 x1) (fun x4 => bif decide (x4 < 0) then (some true) else (bnd1 (w_toFact p0) (fun x7 => bnd1 (w_toFact p1) (fun x9 => bnd1 (s_SameFact x7 x9) (fun x11 => bnd1 (w_toFact p0) (fun x13 => bnd1 (w_toFact p1) (fun x15 => bnd1 (i_SameFact x13 x15) (fun x17 => bif !(x17 == x11) then (some false) else (bnd1 (w_toFact p0) (fun x20 => bnd1 (w_eqFact x13 x20) (fun x22 => bif !x22 then (some false) else (bnd1 (w_toFact p1) (fun x25 => bnd1 (w_eqFact x15 x25) (fun x27 => bif !x27 then (some false) else (some true)))))))))))))))))
end Go.Abs.M
