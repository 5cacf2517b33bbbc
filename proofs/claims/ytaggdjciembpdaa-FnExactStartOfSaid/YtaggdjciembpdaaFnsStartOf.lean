/- The functions that the law of StartOf reaches, as pure functions that may fail. -/
import Derived.Test.YtaggdjciembpdaaAbsA27
namespace Go.Abs.M
open Go Go.Abs
structure Rec where
  name : ByteArray
  ty : Int
  ttl : Int
  n : Int
  host : ByteArray
  text : ByteArray
  deriving DecidableEq
def recV (r : Rec) : List V := [.sc (.string r.name), .sc (.int .i64 r.ty), .sc (.int .i64 r.ttl), .sc (.int .i64 r.n), .sc (.string r.host), .sc (.string r.text)]
theorem recV_free (r : Rec) : (recV r).all (·.free) = true := rfl
theorem recV_len (r : Rec) : (recV r).length = 6 := rfl
def Rec.ok (r : Rec) : Prop := r.name.size ≤ 9223372036854775807 ∧ i64 r.ty ∧ i64 r.ttl ∧ i64 r.n ∧ r.host.size ≤ 9223372036854775807 ∧ r.text.size ≤ 9223372036854775807
theorem recV_sc (r : Rec) : (recV r).all isScN = true := rfl
structure MZone where
  apex : ByteArray
  l : List Rec
  deriving DecidableEq
def mZoneV (r : MZone) : List V := [.sc (.string r.apex), .lst 6 (List.map recV r.l)]
theorem mZoneV_free (r : MZone) : (mZoneV r).all (·.free) = true := rfl
theorem mZoneV_len (r : MZone) : (mZoneV r).length = 2 := rfl
def MZone.ok (r : MZone) : Prop := r.apex.size ≤ 9223372036854775807 ∧ (r.l.length ≤ 9223372036854775807 ∧ ∀ q, q ∈ r.l → q.ok)
/- laws.szRecord -/
def w_szRecord (p0 : Rec) (p1 : Int) : Option Int :=
  grd (i64 (p1 - (p0.name.size : Int))) (bif decide (p1 - (p0.name.size : Int) < 0) then (some (-1)) else (grd (i64 ((p1 - (p0.name.size : Int)) - (p0.host.size : Int))) (bif decide ((p1 - (p0.name.size : Int)) - (p0.host.size : Int) < 0) then (some (-1)) else (grd (i64 (((p1 - (p0.name.size : Int)) - (p0.host.size : Int)) - (p0.text.size : Int))) (bif decide (((p1 - (p0.name.size : Int)) - (p0.host.size : Int)) - (p0.text.size : Int) < 0) then (some (-1)) else (some (((p1 - (p0.name.size : Int)) - (p0.host.size : Int)) - (p0.text.size : Int))))))))
/- laws.szRecordS -/
def w_szRecordS_l0  : List Rec → Int → Nat → Option Int
  | [], v0_0, v0_1 => some v0_0
  | e0 :: rs0, v0_0, v0_1 => bnd1 (w_szRecord e0 v0_0) (fun x4 => bif decide (x4 < 0) then (some (-1)) else (w_szRecordS_l0 rs0 x4 (v0_1 + 1)))
def w_szRecordS (p0 : List Rec) (p1 : Int) : Option Int :=
  grd (i64 (p1 - (p0.length : Int))) (bif decide (p1 - (p0.length : Int) < 0) then (some (-1)) else (w_szRecordS_l0 p0 (p1 - (p0.length : Int)) 0))
/- laws.szZone -/
def w_szZone (p0 : MZone) (p1 : Int) : Option Int :=
  grd (i64 (p1 - (p0.apex.size : Int))) (bif decide (p1 - (p0.apex.size : Int) < 0) then (some (-1)) else (bnd1 (w_szRecordS p0.l (p1 - (p0.apex.size : Int))) (fun x3 => bif decide (x3 < 0) then (some (-1)) else (some x3))))
/- laws.toRecord -/
def w_toRecord (p0 : Rec) : Option Rec :=
  some p0
/- laws.toRecordS -/
def w_toRecordS_l0  : List Rec → (List Rec) → Nat → Option (List Rec)
  | [], v0_0, v0_1 => some v0_0
  | e0 :: rs0, v0_0, v0_1 => bnd1 (w_toRecord e0) (fun x3 => bnd1 (idx v0_0 (v0_1 : Int)) (fun x5 => w_toRecordS_l0 rs0 (v0_0.set ((v0_1 : Int).toNat) x3) (v0_1 + 1)))
def w_toRecordS (p0 : List Rec) : Option (List Rec) :=
  grd (0 ≤ (p0.length : Int) ∧ (p0.length : Int).toNat ≤ 1099511627776) (w_toRecordS_l0 p0 (List.replicate (p0.length : Int).toNat (Rec.mk (⟨#[]⟩ : ByteArray) 0 0 0 (⟨#[]⟩ : ByteArray) (⟨#[]⟩ : ByteArray))) 0)
/- laws.toZone -/
def w_toZone (p0 : MZone) : Option MZone :=
  bnd1 (w_toRecordS p0.l) (fun x1 => some (MZone.mk p0.apex x1))
/- spec.StartOf -/
def s_StartOf_j0  : Option Rec :=
  some (Rec.mk (⟨#[]⟩ : ByteArray) 0 0 0 (⟨#[]⟩ : ByteArray) (⟨#[]⟩ : ByteArray))
def s_StartOf_l1  : List Rec → Nat → Option Rec
  | [], v1_0 => s_StartOf_j0
  | e1 :: rs1, v1_0 => bif decide (e1.ty = 6) then (some e1) else (s_StartOf_l1 rs1 (v1_0 + 1))
def s_StartOf (p0 : MZone) : Option Rec :=
  s_StartOf_l1 p0.l 0
/- impl.firstOf -/
def i_firstOf_j0  : Option Rec :=
  some (Rec.mk (⟨#[]⟩ : ByteArray) 0 0 0 (⟨#[]⟩ : ByteArray) (⟨#[]⟩ : ByteArray))
def i_firstOf_l1 (p1 : Int) : List Rec → Nat → Option Rec
  | [], v1_0 => i_firstOf_j0
  | e1 :: rs1, v1_0 => bif decide (e1.ty = p1) then (some e1) else (i_firstOf_l1 p1 rs1 (v1_0 + 1))
def i_firstOf (p0 : List Rec) (p1 : Int) : Option Rec :=
  i_firstOf_l1 p1 p0 0
/- impl.StartOf -/
def i_StartOf (p0 : MZone) : Option Rec :=
  bnd1 (i_firstOf p0.l 6) (fun x1 => some x1)
/- laws.eqRecord -/
def w_eqRecord (p0 : Rec) (p1 : Rec) : Option Bool :=
  bif !decide (p0.name = p1.name) then (some false) else (bif !decide (p0.ty = p1.ty) then (some false) else (bif !decide (p0.ttl = p1.ttl) then (some false) else (bif !decide (p0.n = p1.n) then (some false) else (bif !decide (p0.host = p1.host) then (some false) else (bif !decide (p0.text = p1.text) then (some false) else (some true))))))
/- laws.eqRecordS -/
def w_eqRecordS_l0 (p1 : List Rec) : List Rec → Nat → Option Bool
  | [], v0_0 => some true
  | e0 :: rs0, v0_0 => bnd1 (idx p1 (v0_0 : Int)) (fun x3 => bnd1 (w_eqRecord e0 x3) (fun x5 => bif !x5 then (some false) else (w_eqRecordS_l0 p1 rs0 (v0_0 + 1))))
def w_eqRecordS (p0 : List Rec) (p1 : List Rec) : Option Bool :=
  bif !decide ((p0.length : Int) = (p1.length : Int)) then (some false) else (w_eqRecordS_l0 p1 p0 0)
/- laws.eqZone -/
def w_eqZone (p0 : MZone) (p1 : MZone) : Option Bool :=
  bif !decide (p0.apex = p1.apex) then (some false) else (bnd1 (w_eqRecordS p0.l p1.l) (fun x2 => bif !x2 then (some false) else (some true)))
/- laws.FnExactStartOf -/
def w_FnExactStartOf (p0 : MZone) : Option Bool :=
  bnd1 (w_szZone p0 1048576) (fun x1 => bif decide (x1 < 0) then (some true) else (bnd1 (w_toZone p0) (fun x4 => bnd1 (s_StartOf x4) (fun x6 => bnd1 (w_toZone p0) (fun x8 => bnd1 (i_StartOf x8) (fun x10 => bnd1 (w_eqRecord x10 x6) (fun x12 => bif !x12 then (some false) else (bnd1 (w_toZone p0) (fun x15 => bnd1 (w_eqZone x8 x15) (fun x17 => bif !x17 then (some false) else (some true)))))))))))
end Go.Abs.M
