/- The functions that the law of Glue reaches, as pure functions that may fail. -/
import Derived.Test.YtaacegjkiccijaaAbsA28
namespace Go.Abs.M
open Go Go.Abs
structure Rec where
  name : ByteArray
  ty : Int
  ttl : Int
  n : Int
  host : ByteArray
  text : ByteArray
  deriving DecidableEq
def recV (r : Rec) : List V := [.sc (.string r.name), .sc (.int .i64 r.ty), .sc (.int .i64 r.ttl), .sc (.int .i64 r.n), .sc (.string r.host), .sc (.string r.text)]
theorem recV_free (r : Rec) : (recV r).all (·.free) = true := rfl
theorem recV_len (r : Rec) : (recV r).length = 6 := rfl
def Rec.ok (r : Rec) : Prop := r.name.size ≤ 9223372036854775807 ∧ i64 r.ty ∧ i64 r.ttl ∧ i64 r.n ∧ r.host.size ≤ 9223372036854775807 ∧ r.text.size ≤ 9223372036854775807
theorem recV_sc (r : Rec) : (recV r).all isScN = true := rfl
structure MZone where
  apex : ByteArray
  l : List Rec
  deriving DecidableEq
def mZoneV (r : MZone) : List V := [.sc (.string r.apex), .lst 6 (List.map recV r.l)]
theorem mZoneV_free (r : MZone) : (mZoneV r).all (·.free) = true := rfl
theorem mZoneV_len (r : MZone) : (mZoneV r).length = 2 := rfl
def MZone.ok (r : MZone) : Prop := r.apex.size ≤ 9223372036854775807 ∧ (r.l.length ≤ 9223372036854775807 ∧ ∀ q, q ∈ r.l → q.ok)
/- laws.szRecord -/
def w_szRecord (p0 : Rec) (p1 : Int) : Option Int :=
  grd (i64 (p1 - (p0.name.size : Int))) (bif decide (p1 - (p0.name.size : Int) < 0) then (some (-1)) else (grd (i64 ((p1 - (p0.name.size : Int)) - (p0.host.size : Int))) (bif decide ((p1 - (p0.name.size : Int)) - (p0.host.size : Int) < 0) then (some (-1)) else (grd (i64 (((p1 - (p0.name.size : Int)) - (p0.host.size : Int)) - (p0.text.size : Int))) (bif decide (((p1 - (p0.name.size : Int)) - (p0.host.size : Int)) - (p0.text.size : Int) < 0) then (some (-1)) else (some (((p1 - (p0.name.size : Int)) - (p0.host.size : Int)) - (p0.text.size : Int))))))))
/- laws.szRecordS -/
def w_szRecordS_l0  : List Rec → Int → Nat → Option Int
  | [], v0_0, v0_1 => some v0_0
  | e0 :: rs0, v0_0, v0_1 => bnd1 (w_szRecord e0 v0_0) (fun x4 => bif decide (x4 < 0) then (some (-1)) else (w_szRecordS_l0 rs0 x4 (v0_1 + 1)))
def w_szRecordS (p0 : List Rec) (p1 : Int) : Option Int :=
  grd (i64 (p1 - (p0.length : Int))) (bif decide (p1 - (p0.length : Int) < 0) then (some (-1)) else (w_szRecordS_l0 p0 (p1 - (p0.length : Int)) 0))
/- laws.szZone -/
def w_szZone (p0 : MZone) (p1 : Int) : Option Int :=
  grd (i64 (p1 - (p0.apex.size : Int))) (bif decide (p1 - (p0.apex.size : Int) < 0) then (some (-1)) else (bnd1 (w_szRecordS p0.l (p1 - (p0.apex.size : Int))) (fun x3 => bif decide (x3 < 0) then (some (-1)) else (some x3))))
/- laws.szStringS -/
def w_szStringS_l0  : List ByteArray → Int → Nat → Option Int
  | [], v0_0, v0_1 => some v0_0
  | e0 :: rs0, v0_0, v0_1 => grd (i64 (v0_0 - (e0.size : Int))) (bif decide (v0_0 - (e0.size : Int) < 0) then (some (-1)) else (w_szStringS_l0 rs0 (v0_0 - (e0.size : Int)) (v0_1 + 1)))
def w_szStringS (p0 : List ByteArray) (p1 : Int) : Option Int :=
  grd (i64 (p1 - (p0.length : Int))) (bif decide (p1 - (p0.length : Int) < 0) then (some (-1)) else (w_szStringS_l0 p0 (p1 - (p0.length : Int)) 0))
/- laws.toRecord -/
def w_toRecord (p0 : Rec) : Option Rec :=
  some p0
/- laws.toRecordS -/
def w_toRecordS_l0  : List Rec → (List Rec) → Nat → Option (List Rec)
  | [], v0_0, v0_1 => some v0_0
  | e0 :: rs0, v0_0, v0_1 => bnd1 (w_toRecord e0) (fun x3 => bnd1 (idx v0_0 (v0_1 : Int)) (fun x5 => w_toRecordS_l0 rs0 (v0_0.set ((v0_1 : Int).toNat) x3) (v0_1 + 1)))
def w_toRecordS (p0 : List Rec) : Option (List Rec) :=
  grd (0 ≤ (p0.length : Int) ∧ (p0.length : Int).toNat ≤ 1099511627776) (w_toRecordS_l0 p0 (List.replicate (p0.length : Int).toNat (Rec.mk (⟨#[]⟩ : ByteArray) 0 0 0 (⟨#[]⟩ : ByteArray) (⟨#[]⟩ : ByteArray))) 0)
/- laws.toZone -/
def w_toZone (p0 : MZone) : Option MZone :=
  bnd1 (w_toRecordS p0.l) (fun x1 => some (MZone.mk p0.apex x1))
/- laws.toStringS -/
def w_toStringS_l0  : List ByteArray → (List ByteArray) → Nat → Option (List ByteArray)
  | [], v0_0, v0_1 => some v0_0
  | e0 :: rs0, v0_0, v0_1 => bnd1 (idx v0_0 (v0_1 : Int)) (fun x3 => w_toStringS_l0 rs0 (v0_0.set ((v0_1 : Int).toNat) e0) (v0_1 + 1))
def w_toStringS (p0 : List ByteArray) : Option (List ByteArray) :=
  grd (0 ≤ (p0.length : Int) ∧ (p0.length : Int).toNat ≤ 1099511627776) (w_toStringS_l0 p0 (List.replicate (p0.length : Int).toNat (⟨#[]⟩ : ByteArray)) 0)
/- spec.SetOf -/
def s_SetOf_j1 (v0_0 : List Rec) (v0_1 : Nat) (e0 : Rec) (k0 : (List Rec) → Nat → Option (List Rec)) (j1_0 : Bool) : Option (List Rec) :=
  bif j1_0 then (grd ((v0_0 ++ [e0]).length ≤ 1099511627776) (k0 (v0_0 ++ [e0]) (v0_1 + 1))) else (k0 v0_0 (v0_1 + 1))
def s_SetOf_l0 (p1 : ByteArray) (p2 : Int) : List Rec → (List Rec) → Nat → Option (List Rec)
  | [], v0_0, v0_1 => some v0_0
  | e0 :: rs0, v0_0, v0_1 => bif decide (e0.name = p1) then (s_SetOf_j1 v0_0 v0_1 e0 (s_SetOf_l0 p1 p2 rs0) (decide (e0.ty = p2))) else (s_SetOf_j1 v0_0 v0_1 e0 (s_SetOf_l0 p1 p2 rs0) false)
def s_SetOf (p0 : List Rec) (p1 : ByteArray) (p2 : Int) : Option (List Rec) :=
  s_SetOf_l0 p1 p2 p0 ([] : List Rec) 0
/- spec.Glue -/
def s_Glue_l0 (p0 : MZone) : List ByteArray → (List Rec) → Nat → Option (List Rec)
  | [], v0_0, v0_1 => some v0_0
  | e0 :: rs0, v0_0, v0_1 => bnd1 (s_SetOf p0.l e0 1) (fun x2 => grd ((v0_0 ++ x2).length ≤ 1099511627776) (s_Glue_l0 p0 rs0 (v0_0 ++ x2) (v0_1 + 1)))
def s_Glue (p0 : MZone) (p1 : List ByteArray) : Option (List Rec) :=
  s_Glue_l0 p0 p1 ([] : List Rec) 0
/- impl.SetOf -/
def i_SetOf_j1 (v0_0 : List Rec) (v0_1 : Nat) (e0 : Rec) (k0 : (List Rec) → Nat → Option (List Rec)) (j1_0 : Bool) : Option (List Rec) :=
  bif j1_0 then (grd ((v0_0 ++ [e0]).length ≤ 1099511627776) (k0 (v0_0 ++ [e0]) (v0_1 + 1))) else (k0 v0_0 (v0_1 + 1))
def i_SetOf_l0 (p1 : ByteArray) (p2 : Int) : List Rec → (List Rec) → Nat → Option (List Rec)
  | [], v0_0, v0_1 => some v0_0
  | e0 :: rs0, v0_0, v0_1 => bif decide (e0.name = p1) then (i_SetOf_j1 v0_0 v0_1 e0 (i_SetOf_l0 p1 p2 rs0) (decide (e0.ty = p2))) else (i_SetOf_j1 v0_0 v0_1 e0 (i_SetOf_l0 p1 p2 rs0) false)
def i_SetOf (p0 : List Rec) (p1 : ByteArray) (p2 : Int) : Option (List Rec) :=
  i_SetOf_l0 p1 p2 p0 ([] : List Rec) 0
/- impl.Glue -/
def i_Glue_l0 (p0 : MZone) : List ByteArray → (List Rec) → Nat → Option (List Rec)
  | [], v0_0, v0_1 => some v0_0
  | e0 :: rs0, v0_0, v0_1 => bnd1 (i_SetOf p0.l e0 1) (fun x2 => grd ((v0_0 ++ x2).length ≤ 1099511627776) (i_Glue_l0 p0 rs0 (v0_0 ++ x2) (v0_1 + 1)))
def i_Glue (p0 : MZone) (p1 : List ByteArray) : Option (List Rec) :=
  i_Glue_l0 p0 p1 ([] : List Rec) 0
/- laws.eqRecord -/
def w_eqRecord (p0 : Rec) (p1 : Rec) : Option Bool :=
  bif !decide (p0.name = p1.name) then (some false) else (bif !decide (p0.ty = p1.ty) then (some false) else (bif !decide (p0.ttl = p1.ttl) then (some false) else (bif !decide (p0.n = p1.n) then (some false) else (bif !decide (p0.host = p1.host) then (some false) else (bif !decide (p0.text = p1.text) then (some false) else (some true))))))
/- laws.eqRecordS -/
def w_eqRecordS_l0 (p1 : List Rec) : List Rec → Nat → Option Bool
  | [], v0_0 => some true
  | e0 :: rs0, v0_0 => bnd1 (idx p1 (v0_0 : Int)) (fun x3 => bnd1 (w_eqRecord e0 x3) (fun x5 => bif !x5 then (some false) else (w_eqRecordS_l0 p1 rs0 (v0_0 + 1))))
def w_eqRecordS (p0 : List Rec) (p1 : List Rec) : Option Bool :=
  bif !decide ((p0.length : Int) = (p1.length : Int)) then (some false) else (w_eqRecordS_l0 p1 p0 0)
/- laws.eqZone -/
def w_eqZone (p0 : MZone) (p1 : MZone) : Option Bool :=
  bif !decide (p0.apex = p1.apex) then (some false) else (bnd1 (w_eqRecordS p0.l p1.l) (fun x2 => bif !x2 then (some false) else (some true)))
/- laws.eqStringS -/
def w_eqStringS_l0 (p1 : List ByteArray) : List ByteArray → Nat → Option Bool
  | [], v0_0 => some true
  | e0 :: rs0, v0_0 => bnd1 (idx p1 (v0_0 : Int)) (fun x3 => bif !decide (e0 = x3) then (some false) else (w_eqStringS_l0 p1 rs0 (v0_0 + 1)))
def w_eqStringS (p0 : List ByteArray) (p1 : List ByteArray) : Option Bool :=
  bif !decide ((p0.length : Int) = (p1.length : Int)) then (some false) else (w_eqStringS_l0 p1 p0 0)
/- laws.markText -/
def w_markText_l0  : Nat → Int → ByteArray → Option ByteArray
  | 0, _, _ => none
  | f0 + 1, v0_0, v0_1 => bif decide (0 < v0_0) then (grd (i64 (48 + (Int.tmod v0_0 10))) (grd ((strOfNums [IntKind.u8.wrap (48 + (Int.tmod v0_0 10))]).size + v0_1.size ≤ 9223372036854775807) (w_markText_l0 f0 (IntKind.i64.wrap (Int.tdiv v0_0 10)) ((strOfNums [IntKind.u8.wrap (48 + (Int.tmod v0_0 10))]) ++ v0_1)))) else (grd ((⟨#[109]⟩ : ByteArray).size + v0_1.size ≤ 9223372036854775807) (some ((⟨#[109]⟩ : ByteArray) ++ v0_1)))
def w_markText (p0 : Int) : Option ByteArray :=
  bif decide (p0 ≤ 0) then (some (⟨#[109, 48]⟩ : ByteArray)) else (w_markText_l0 fuel0 p0 (⟨#[]⟩ : ByteArray))
/- laws.markRecordS -/
def w_markRecordS_l0  : Nat → (List Rec) → Int → Int → Option (Int × (List Rec))
  | 0, _, _, _ => none
  | f0 + 1, v0_0, v0_1, v0_2 => bif decide (v0_2 < (v0_0.length : Int)) then (bnd1 (w_markText v0_1) (fun x2 => bnd1 (idx v0_0 v0_2) (fun x4 => grd (i64 (v0_1 + 1)) (grd (i64 ((v0_1 + 1) + 1)) (grd (i64 (((v0_1 + 1) + 1) + 1)) (grd (i64 ((((v0_1 + 1) + 1) + 1) + 1)) (bnd1 (w_markText ((((v0_1 + 1) + 1) + 1) + 1)) (fun x10 => grd (i64 (((((v0_1 + 1) + 1) + 1) + 1) + 1)) (bnd1 (w_markText (((((v0_1 + 1) + 1) + 1) + 1) + 1)) (fun x13 => grd (i64 ((((((v0_1 + 1) + 1) + 1) + 1) + 1) + 1)) (grd (i64 (v0_2 + 1)) (w_markRecordS_l0 f0 ((((((v0_0.set v0_2.toNat (Rec.mk x2 x4.ty x4.ttl x4.n x4.host x4.text)).set v0_2.toNat (Rec.mk x2 (v0_1 + 1) x4.ttl x4.n x4.host x4.text)).set v0_2.toNat (Rec.mk x2 (v0_1 + 1) ((v0_1 + 1) + 1) x4.n x4.host x4.text)).set v0_2.toNat (Rec.mk x2 (v0_1 + 1) ((v0_1 + 1) + 1) (((v0_1 + 1) + 1) + 1) x4.host x4.text)).set v0_2.toNat (Rec.mk x2 (v0_1 + 1) ((v0_1 + 1) + 1) (((v0_1 + 1) + 1) + 1) x10 x4.text)).set v0_2.toNat (Rec.mk x2 (v0_1 + 1) ((v0_1 + 1) + 1) (((v0_1 + 1) + 1) + 1) x10 x13)) ((((((v0_1 + 1) + 1) + 1) + 1) + 1) + 1) (v0_2 + 1))))))))))))) else (some (v0_1, v0_0))
def w_markRecordS (p0 : List Rec) (p1 : Int) : Option (Int × (List Rec)) :=
  w_markRecordS_l0 fuel0 p0 p1 0
/- laws.markZone -/
def w_markZone (p0 : MZone) (p1 : Int) : Option (Int × (List Rec)) :=
  bnd2 (w_markRecordS p0.l p1) (fun x1 x2 => grd (x2.length = p0.l.length) (some (x1, x2)))
/- laws.markStringS -/
def w_markStringS_l0  : Nat → (List ByteArray) → Int → Int → Option (Int × (List ByteArray))
  | 0, _, _, _ => none
  | f0 + 1, v0_0, v0_1, v0_2 => bif decide (v0_2 < (v0_0.length : Int)) then (bnd1 (w_markText v0_1) (fun x2 => bnd1 (idx v0_0 v0_2) (fun x4 => grd (i64 (v0_1 + 1)) (grd (i64 (v0_2 + 1)) (w_markStringS_l0 f0 (v0_0.set v0_2.toNat x2) (v0_1 + 1) (v0_2 + 1)))))) else (some (v0_1, v0_0))
def w_markStringS (p0 : List ByteArray) (p1 : Int) : Option (Int × (List ByteArray)) :=
  w_markStringS_l0 fuel0 p0 p1 0
/- laws.heldRecordS -/
def w_heldRecordS_l0  : List Rec → Int → Nat → Option Int
  | [], v0_0, v0_1 => some v0_0
  | e0 :: rs0, v0_0, v0_1 => bnd1 (w_markText v0_0) (fun x2 => bif !decide (e0.name = x2) then (some (-1)) else (grd (i64 (v0_0 + 1)) (bif !decide (e0.ty = v0_0 + 1) then (some (-1)) else (grd (i64 ((v0_0 + 1) + 1)) (bif !decide (e0.ttl = (v0_0 + 1) + 1) then (some (-1)) else (grd (i64 (((v0_0 + 1) + 1) + 1)) (bif !decide (e0.n = ((v0_0 + 1) + 1) + 1) then (some (-1)) else (grd (i64 ((((v0_0 + 1) + 1) + 1) + 1)) (bnd1 (w_markText ((((v0_0 + 1) + 1) + 1) + 1)) (fun x12 => bif !decide (e0.host = x12) then (some (-1)) else (grd (i64 (((((v0_0 + 1) + 1) + 1) + 1) + 1)) (bnd1 (w_markText (((((v0_0 + 1) + 1) + 1) + 1) + 1)) (fun x16 => bif !decide (e0.text = x16) then (some (-1)) else (grd (i64 ((((((v0_0 + 1) + 1) + 1) + 1) + 1) + 1)) (w_heldRecordS_l0 rs0 ((((((v0_0 + 1) + 1) + 1) + 1) + 1) + 1) (v0_1 + 1))))))))))))))))
def w_heldRecordS (p0 : List Rec) (p1 : Int) : Option Int :=
  w_heldRecordS_l0 p0 p1 0
/- laws.FnExactGlue -/
def w_FnExactGlue_j0 (p0 : MZone) (p1 : List ByteArray) (x11 : List Rec) (x17 : List Rec) (j0_0 : Bool) : Option Bool :=
  bif j0_0 then (some false) else (bnd2 (w_markRecordS x17 1) (fun x41 x42 => grd (x42.length = x17.length) (bnd1 (w_heldRecordS x42 1) (fun x45 => bif decide (x45 < 0) then (some false) else (bif !decide (x45 = x41) then (some false) else (bnd1 (w_toZone p0) (fun x49 => bnd1 (w_toStringS p1) (fun x51 => bnd1 (i_Glue x49 x51) (fun x53 => bnd1 (w_eqRecordS x53 x11) (fun x55 => bif !x55 then (some false) else (bnd1 (w_heldRecordS x42 1) (fun x58 => bif decide (x58 < 0) then (some false) else (bif !decide (x58 = x41) then (some false) else (some true))))))))))))))
def w_FnExactGlue (p0 : MZone) (p1 : List ByteArray) : Option Bool :=
  bnd1 (w_szZone p0 1048576) (fun x1 => bif decide (x1 < 0) then (some true) else (bnd1 (w_szStringS p1 x1) (fun x4 => bif decide (x4 < 0) then (some true) else (bnd1 (w_toZone p0) (fun x7 => bnd1 (w_toStringS p1) (fun x9 => bnd1 (s_Glue x7 x9) (fun x11 => bnd1 (w_toZone p0) (fun x13 => bnd1 (w_toStringS p1) (fun x15 => bnd1 (i_Glue x13 x15) (fun x17 => bnd1 (w_eqRecordS x17 x11) (fun x19 => bif !x19 then (some false) else (bnd1 (w_toZone p0) (fun x22 => bnd1 (w_eqZone x13 x22) (fun x24 => bif !x24 then (some false) else (bnd1 (w_toStringS p1) (fun x27 => bnd1 (w_eqStringS x15 x27) (fun x29 => bif !x29 then (some false) else (bnd2 (w_markZone x13 1) (fun x32 x33 => grd (x33.length = x13.l.length) (bnd2 (w_markStringS x15 x32) (fun x36 x37 => grd (x37.length = x15.length) (bif decide (x36 < 0) then (w_FnExactGlue_j0 p0 p1 x11 x17 true) else (bnd1 (w_eqRecordS x17 x11) (fun x41 => w_FnExactGlue_j0 p0 p1 x11 x17 (!x41)))))))))))))))))))))))))
end Go.Abs.M
