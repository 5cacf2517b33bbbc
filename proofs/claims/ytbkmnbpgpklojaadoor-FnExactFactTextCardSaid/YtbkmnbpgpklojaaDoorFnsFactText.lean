/- The functions that the law of FactText reaches, as pure functions that may fail. -/
import Derived.Test.YtbkmnbpgpklojaaDoorAbsC1
namespace Go.Abs.M
open Go Go.Abs
structure Rec where
  name : ByteArray
  ty : Int
  ttl : Int
  n : Int
  host : ByteArray
  text : ByteArray
  deriving DecidableEq
def recV (r : Rec) : List V := [.sc (.string r.name), .sc (.int .i64 r.ty), .sc (.int .i64 r.ttl), .sc (.int .i64 r.n), .sc (.string r.host), .sc (.string r.text)]
theorem recV_free (r : Rec) : (recV r).all (·.free) = true := rfl
theorem recV_len (r : Rec) : (recV r).length = 6 := rfl
def Rec.ok (r : Rec) : Prop := r.name.size ≤ 9223372036854775807 ∧ i64 r.ty ∧ i64 r.ttl ∧ i64 r.n ∧ r.host.size ≤ 9223372036854775807 ∧ r.text.size ≤ 9223372036854775807
theorem recV_sc (r : Rec) : (recV r).all isScN = true := rfl
structure MFact where
  code : Int
  links : List Rec
  l : List Rec
  fin : Bool
  deriving DecidableEq
def mFactV (r : MFact) : List V := [.sc (.int .i64 r.code), .lst 6 (List.map recV r.links), .lst 6 (List.map recV r.l), .sc (.bool r.fin)]
theorem mFactV_free (r : MFact) : (mFactV r).all (·.free) = true := rfl
theorem mFactV_len (r : MFact) : (mFactV r).length = 4 := rfl
def MFact.ok (r : MFact) : Prop := i64 r.code ∧ (r.links.length ≤ 9223372036854775807 ∧ ∀ q, q ∈ r.links → q.ok) ∧ (r.l.length ≤ 9223372036854775807 ∧ ∀ q, q ∈ r.l → q.ok)
def recLV (r : List Rec) : List V := [.lst 6 (List.map recV r)]
theorem recLV_free (r : List Rec) : (recLV r).all (·.free) = true := rfl
theorem recLV_len (r : List Rec) : (recLV r).length = 1 := rfl
/- laws.szRecord -/
def w_szRecord (p0 : Rec) (p1 : Int) : Option Int :=
  grd (i64 (p1 - (p0.name.size : Int))) (bif decide (p1 - (p0.name.size : Int) < 0) then (some (-1)) else (grd (i64 ((p1 - (p0.name.size : Int)) - (p0.host.size : Int))) (bif decide ((p1 - (p0.name.size : Int)) - (p0.host.size : Int) < 0) then (some (-1)) else (grd (i64 (((p1 - (p0.name.size : Int)) - (p0.host.size : Int)) - (p0.text.size : Int))) (bif decide (((p1 - (p0.name.size : Int)) - (p0.host.size : Int)) - (p0.text.size : Int) < 0) then (some (-1)) else (some (((p1 - (p0.name.size : Int)) - (p0.host.size : Int)) - (p0.text.size : Int))))))))
/- laws.szRecordS -/
def w_szRecordS_l0  : List Rec → Int → Nat → Option Int
  | [], v0_0, v0_1 => some v0_0
  | e0 :: rs0, v0_0, v0_1 => bnd1 (w_szRecord e0 v0_0) (fun x4 => bif decide (x4 < 0) then (some (-1)) else (w_szRecordS_l0 rs0 x4 (v0_1 + 1)))
def w_szRecordS (p0 : List Rec) (p1 : Int) : Option Int :=
  grd (i64 (p1 - (p0.length : Int))) (bif decide (p1 - (p0.length : Int) < 0) then (some (-1)) else (w_szRecordS_l0 p0 (p1 - (p0.length : Int)) 0))
/- laws.szFact -/
def w_szFact (p0 : MFact) (p1 : Int) : Option Int :=
  bnd1 (w_szRecordS p0.links p1) (fun x1 => bif decide (x1 < 0) then (some (-1)) else (bnd1 (w_szRecordS p0.l x1) (fun x4 => bif decide (x4 < 0) then (some (-1)) else (some x4))))
/- laws.toRecord -/
def w_toRecord (p0 : Rec) : Option Rec :=
  some p0
/- laws.toRecordS -/
def w_toRecordS_l0  : List Rec → (List Rec) → Nat → Option (List Rec)
  | [], v0_0, v0_1 => some v0_0
  | e0 :: rs0, v0_0, v0_1 => bnd1 (w_toRecord e0) (fun x3 => bnd1 (idx v0_0 (v0_1 : Int)) (fun x5 => w_toRecordS_l0 rs0 (v0_0.set ((v0_1 : Int).toNat) x3) (v0_1 + 1)))
def w_toRecordS (p0 : List Rec) : Option (List Rec) :=
  grd (0 ≤ (p0.length : Int) ∧ (p0.length : Int).toNat ≤ 1099511627776) (w_toRecordS_l0 p0 (List.replicate (p0.length : Int).toNat (Rec.mk (⟨#[]⟩ : ByteArray) 0 0 0 (⟨#[]⟩ : ByteArray) (⟨#[]⟩ : ByteArray))) 0)
/- laws.toFact -/
def w_toFact (p0 : MFact) : Option MFact :=
  bnd1 (w_toRecordS p0.links) (fun x1 => bnd1 (w_toRecordS p0.l) (fun x3 => some (MFact.mk p0.code x1 x3 p0.fin)))
/- spec.Labels -/
def s_Labels_j2 (p0 : ByteArray) (v0_0 : List ByteArray) (v0_1 : Int) (v0_2 : Int) (k0 : (List ByteArray) → Int → Int → Option (List ByteArray)) (j2_0 : Bool) : Option (List ByteArray) :=
  bif j2_0 then (grd (0 ≤ v0_1 ∧ v0_1 ≤ v0_2 ∧ v0_2 ≤ (p0.size : Int)) (grd ((v0_0 ++ [p0.extract v0_1.toNat v0_2.toNat]).length ≤ 1099511627776) (grd (i64 (v0_2 + 1)) (grd (i64 (v0_2 + 1)) (k0 (v0_0 ++ [p0.extract v0_1.toNat v0_2.toNat]) (v0_2 + 1) (v0_2 + 1)))))) else (grd (i64 (v0_2 + 1)) (k0 v0_0 v0_1 (v0_2 + 1)))
def s_Labels_j1 (p0 : ByteArray) (v0_0 : List ByteArray) (v0_1 : Int) (v0_2 : Int) (k0 : (List ByteArray) → Int → Int → Option (List ByteArray)) (j1_0 : Bool) : Option (List ByteArray) :=
  bif j1_0 then (bif decide (v0_2 = (p0.size : Int)) then (s_Labels_j2 p0 v0_0 v0_1 v0_2 (k0) true) else (bnd1 (sidx p0 v0_2) (fun x3 => s_Labels_j2 p0 v0_0 v0_1 v0_2 (k0) (decide (x3 = 46))))) else (some v0_0)
def s_Labels_l0 (p0 : ByteArray) : Nat → (List ByteArray) → Int → Int → Option (List ByteArray)
  | 0, _, _, _ => none
  | f0 + 1, v0_0, v0_1, v0_2 => bif decide (v0_2 ≤ (p0.size : Int)) then (s_Labels_j1 p0 v0_0 v0_1 v0_2 (s_Labels_l0 p0 f0) (!decide (p0 = (⟨#[]⟩ : ByteArray)))) else (s_Labels_j1 p0 v0_0 v0_1 v0_2 (s_Labels_l0 p0 f0) false)
def s_Labels (p0 : ByteArray) : Option (List ByteArray) :=
  s_Labels_l0 p0 fuel0 ([] : List ByteArray) 0 0
/- spec.l1In -/
def s_l1In (p0 : Int) (p1 : Int) (p2 : Int) : Option Bool :=
  bif decide (p1 ≤ p0) then (some (decide (p0 ≤ p2))) else (some false)
/- spec.l2Byte -/
def s_l2Byte (p0 : Int) : Option Bool :=
  bnd1 (s_l1In (IntKind.i64.wrap p0) 97 122) (fun x1 => bif x1 then (some true) else (bnd1 (s_l1In (IntKind.i64.wrap p0) 48 57) (fun x4 => bif x4 then (some true) else (bif decide (p0 = 45) then (some true) else (some (decide (p0 = 95)))))))
/- spec.LabelOk -/
def s_LabelOk_j0 (p0 : ByteArray) : Option Bool :=
  bnd1 (s_l1In (p0.size : Int) 1 12) (fun x1 => some x1)
def s_LabelOk_l1 (p0 : ByteArray) : Nat → Int → Option Bool
  | 0, _ => none
  | f1 + 1, v1_0 => bif decide (v1_0 < (p0.size : Int)) then (bnd1 (sidx p0 v1_0) (fun x2 => bnd1 (s_l2Byte x2) (fun x4 => bif !x4 then (some false) else (grd (i64 (v1_0 + 1)) (s_LabelOk_l1 p0 f1 (v1_0 + 1)))))) else (s_LabelOk_j0 p0)
def s_LabelOk (p0 : ByteArray) : Option Bool :=
  s_LabelOk_l1 p0 fuel0 0
/- spec.NameOk -/
def s_NameOk_j0 (p0 : ByteArray) (x1 : List ByteArray) : Option Bool :=
  bif decide ((p0.size : Int) ≤ 50) then (some (decide ((x1.length : Int) ≤ 6))) else (some false)
def s_NameOk_l1 (p0 : ByteArray) (x1 : List ByteArray) : List ByteArray → Nat → Option Bool
  | [], v1_0 => s_NameOk_j0 p0 x1
  | e1 :: rs1, v1_0 => bnd1 (s_LabelOk e1) (fun x4 => bif !x4 then (some false) else (s_NameOk_l1 p0 x1 rs1 (v1_0 + 1)))
def s_NameOk (p0 : ByteArray) : Option Bool :=
  bnd1 (s_Labels p0) (fun x1 => s_NameOk_l1 p0 x1 x1 0)
/- spec.l5Text -/
def s_l5Text_j0 (p0 : ByteArray) : Option Bool :=
  some (decide ((p0.size : Int) ≤ 12))
def s_l5Text_l1 (p0 : ByteArray) : Nat → Int → Option Bool
  | 0, _ => none
  | f1 + 1, v1_0 => bif decide (v1_0 < (p0.size : Int)) then (bnd1 (sidx p0 v1_0) (fun x2 => bnd1 (s_l1In (IntKind.i64.wrap x2) 33 126) (fun x4 => bif !x4 then (some false) else (grd (i64 (v1_0 + 1)) (s_l5Text_l1 p0 f1 (v1_0 + 1)))))) else (s_l5Text_j0 p0)
def s_l5Text (p0 : ByteArray) : Option Bool :=
  s_l5Text_l1 p0 fuel0 0
/- spec.RecordOk -/
def s_RecordOk_j1 (p0 : Rec) (j1_0 : Bool) : Option Bool :=
  bif j1_0 then (bif decide (p0.n = 0) then (bnd1 (s_NameOk p0.host) (fun x9 => bif x9 then (some (decide (p0.text = (⟨#[]⟩ : ByteArray)))) else (some false))) else (some false)) else (bif decide (p0.ty = 6) then (bnd1 (s_l1In p0.n 0 100000) (fun x13 => bif x13 then (bnd1 (s_NameOk p0.host) (fun x16 => bif x16 then (some (decide (p0.text = (⟨#[]⟩ : ByteArray)))) else (some false))) else (some false))) else (bif decide (p0.ty = 16) then (bif decide (p0.n = 0) then (bif decide (p0.host = (⟨#[]⟩ : ByteArray)) then (bnd1 (s_l5Text p0.text) (fun x22 => some x22)) else (some false)) else (some false)) else (some false)))
def s_RecordOk_j0 (p0 : Rec) (j0_0 : Bool) : Option Bool :=
  bif j0_0 then (some false) else (bif decide (p0.ty = 1) then (bnd1 (s_l1In p0.n 0 2147483647) (fun x3 => bif x3 then (bif decide (p0.host = (⟨#[]⟩ : ByteArray)) then (some (decide (p0.text = (⟨#[]⟩ : ByteArray)))) else (some false)) else (some false))) else (bif decide (p0.ty = 2) then (s_RecordOk_j1 p0 (decide (p0.ty = 2))) else (s_RecordOk_j1 p0 (decide (p0.ty = 5)))))
def s_RecordOk (p0 : Rec) : Option Bool :=
  bnd1 (s_NameOk p0.name) (fun x1 => bif !x1 then (s_RecordOk_j0 p0 true) else (bnd1 (s_l1In p0.ttl 0 100000) (fun x4 => s_RecordOk_j0 p0 (!x4))))
/- spec.l5Dot -/
def s_l5Dot (p0 : ByteArray) : Option ByteArray :=
  bif decide (p0 = (⟨#[]⟩ : ByteArray)) then (some (⟨#[46]⟩ : ByteArray)) else (some p0)
/- spec.NumText -/
def s_NumText_j0 (p0 : Int) (j0_0 : ByteArray) : Option ByteArray :=
  bif decide (p0 < 0) then (grd ((⟨#[45]⟩ : ByteArray).size + j0_0.size ≤ 9223372036854775807) (some ((⟨#[45]⟩ : ByteArray) ++ j0_0))) else (some j0_0)
def s_NumText_j2 (v1_0 : ByteArray) (v1_1 : Int) (k1 : ByteArray → Int → Option ByteArray) (j2_0 : Int) : Option ByteArray :=
  grd (i64 (48 + j2_0)) (grd ((strOfNums [IntKind.u8.wrap (48 + j2_0)]).size + v1_0.size ≤ 9223372036854775807) (k1 ((strOfNums [IntKind.u8.wrap (48 + j2_0)]) ++ v1_0) (IntKind.i64.wrap (Int.tdiv v1_1 10))))
def s_NumText_l1 (p0 : Int) : Nat → ByteArray → Int → Option ByteArray
  | 0, _, _ => none
  | f1 + 1, v1_0, v1_1 => bif !decide (v1_1 = 0) then (bif decide (Int.tmod v1_1 10 < 0) then (s_NumText_j2 v1_0 v1_1 (s_NumText_l1 p0 f1) (IntKind.i64.wrap (-(Int.tmod v1_1 10)))) else (s_NumText_j2 v1_0 v1_1 (s_NumText_l1 p0 f1) (Int.tmod v1_1 10))) else (s_NumText_j0 p0 v1_0)
def s_NumText (p0 : Int) : Option ByteArray :=
  bif decide (p0 = 0) then (some (⟨#[48]⟩ : ByteArray)) else (s_NumText_l1 p0 fuel0 (⟨#[]⟩ : ByteArray) p0)
/- spec.TypeText -/
def s_TypeText (p0 : Int) : Option ByteArray :=
  bif decide (p0 = 1) then (some (⟨#[97, 100, 100, 114]⟩ : ByteArray)) else (bif decide (p0 = 2) then (some (⟨#[115, 101, 114, 118, 101, 114]⟩ : ByteArray)) else (bif decide (p0 = 5) then (some (⟨#[97, 108, 105, 97, 115]⟩ : ByteArray)) else (bif decide (p0 = 6) then (some (⟨#[115, 116, 97, 114, 116]⟩ : ByteArray)) else (bif decide (p0 = 16) then (some (⟨#[116, 101, 120, 116]⟩ : ByteArray)) else (some (⟨#[]⟩ : ByteArray))))))
/- spec.RecordText -/
def s_RecordText (p0 : Rec) : Option ByteArray :=
  bnd1 (s_RecordOk p0) (fun x1 => bif !x1 then (some (⟨#[]⟩ : ByteArray)) else (bnd1 (s_l5Dot p0.name) (fun x4 => grd (x4.size + (⟨#[32]⟩ : ByteArray).size ≤ 9223372036854775807) (bnd1 (s_NumText p0.ttl) (fun x7 => grd ((x4 ++ (⟨#[32]⟩ : ByteArray)).size + x7.size ≤ 9223372036854775807) (grd (((x4 ++ (⟨#[32]⟩ : ByteArray)) ++ x7).size + (⟨#[32]⟩ : ByteArray).size ≤ 9223372036854775807) (bnd1 (s_TypeText p0.ty) (fun x11 => grd ((((x4 ++ (⟨#[32]⟩ : ByteArray)) ++ x7) ++ (⟨#[32]⟩ : ByteArray)).size + x11.size ≤ 9223372036854775807) (grd (((((x4 ++ (⟨#[32]⟩ : ByteArray)) ++ x7) ++ (⟨#[32]⟩ : ByteArray)) ++ x11).size + (⟨#[32]⟩ : ByteArray).size ≤ 9223372036854775807) (bif decide (p0.ty = 1) then (bnd1 (s_NumText p0.n) (fun x16 => grd ((((((x4 ++ (⟨#[32]⟩ : ByteArray)) ++ x7) ++ (⟨#[32]⟩ : ByteArray)) ++ x11) ++ (⟨#[32]⟩ : ByteArray)).size + x16.size ≤ 9223372036854775807) (some ((((((x4 ++ (⟨#[32]⟩ : ByteArray)) ++ x7) ++ (⟨#[32]⟩ : ByteArray)) ++ x11) ++ (⟨#[32]⟩ : ByteArray)) ++ x16)))) else (bif decide (p0.ty = 6) then (bnd1 (s_l5Dot p0.host) (fun x20 => grd ((((((x4 ++ (⟨#[32]⟩ : ByteArray)) ++ x7) ++ (⟨#[32]⟩ : ByteArray)) ++ x11) ++ (⟨#[32]⟩ : ByteArray)).size + x20.size ≤ 9223372036854775807) (grd (((((((x4 ++ (⟨#[32]⟩ : ByteArray)) ++ x7) ++ (⟨#[32]⟩ : ByteArray)) ++ x11) ++ (⟨#[32]⟩ : ByteArray)) ++ x20).size + (⟨#[32]⟩ : ByteArray).size ≤ 9223372036854775807) (bnd1 (s_NumText p0.n) (fun x24 => grd ((((((((x4 ++ (⟨#[32]⟩ : ByteArray)) ++ x7) ++ (⟨#[32]⟩ : ByteArray)) ++ x11) ++ (⟨#[32]⟩ : ByteArray)) ++ x20) ++ (⟨#[32]⟩ : ByteArray)).size + x24.size ≤ 9223372036854775807) (some ((((((((x4 ++ (⟨#[32]⟩ : ByteArray)) ++ x7) ++ (⟨#[32]⟩ : ByteArray)) ++ x11) ++ (⟨#[32]⟩ : ByteArray)) ++ x20) ++ (⟨#[32]⟩ : ByteArray)) ++ x24))))))) else (bif decide (p0.ty = 16) then (grd ((((((x4 ++ (⟨#[32]⟩ : ByteArray)) ++ x7) ++ (⟨#[32]⟩ : ByteArray)) ++ x11) ++ (⟨#[32]⟩ : ByteArray)).size + (⟨#[39]⟩ : ByteArray).size ≤ 9223372036854775807) (grd (((((((x4 ++ (⟨#[32]⟩ : ByteArray)) ++ x7) ++ (⟨#[32]⟩ : ByteArray)) ++ x11) ++ (⟨#[32]⟩ : ByteArray)) ++ (⟨#[39]⟩ : ByteArray)).size + p0.text.size ≤ 9223372036854775807) (some (((((((x4 ++ (⟨#[32]⟩ : ByteArray)) ++ x7) ++ (⟨#[32]⟩ : ByteArray)) ++ x11) ++ (⟨#[32]⟩ : ByteArray)) ++ (⟨#[39]⟩ : ByteArray)) ++ p0.text)))) else (bnd1 (s_l5Dot p0.host) (fun x30 => grd ((((((x4 ++ (⟨#[32]⟩ : ByteArray)) ++ x7) ++ (⟨#[32]⟩ : ByteArray)) ++ x11) ++ (⟨#[32]⟩ : ByteArray)).size + x30.size ≤ 9223372036854775807) (some ((((((x4 ++ (⟨#[32]⟩ : ByteArray)) ++ x7) ++ (⟨#[32]⟩ : ByteArray)) ++ x11) ++ (⟨#[32]⟩ : ByteArray)) ++ x30))))))))))))))))
/- spec.l7Texts -/
def s_l7Texts_l0  : List Rec → ByteArray → Nat → Option ByteArray
  | [], v0_0, v0_1 => some v0_0
  | e0 :: rs0, v0_0, v0_1 => grd (v0_0.size + (⟨#[59, 32]⟩ : ByteArray).size ≤ 9223372036854775807) (bnd1 (s_RecordText e0) (fun x3 => grd ((v0_0 ++ (⟨#[59, 32]⟩ : ByteArray)).size + x3.size ≤ 9223372036854775807) (s_l7Texts_l0 rs0 ((v0_0 ++ (⟨#[59, 32]⟩ : ByteArray)) ++ x3) (v0_1 + 1))))
def s_l7Texts (p0 : List Rec) : Option ByteArray :=
  s_l7Texts_l0 p0 (⟨#[]⟩ : ByteArray) 0
/- spec.FactText -/
def s_FactText_j0 (p0 : MFact) (j0_0 : ByteArray) : Option ByteArray :=
  bnd1 (s_l7Texts p0.links) (fun x2 => grd (j0_0.size + x2.size ≤ 9223372036854775807) (bnd1 (s_l7Texts p0.l) (fun x5 => grd ((j0_0 ++ x2).size + x5.size ≤ 9223372036854775807) (some ((j0_0 ++ x2) ++ x5)))))
def s_FactText (p0 : MFact) : Option ByteArray :=
  bif !p0.fin then (some (⟨#[114, 111, 117, 110, 100]⟩ : ByteArray)) else (bif decide (p0.code = 3) then (s_FactText_j0 p0 (⟨#[110, 111, 110, 97, 109, 101]⟩ : ByteArray)) else (bif decide ((p0.l.length : Int) = 0) then (s_FactText_j0 p0 (⟨#[110, 111, 100, 97, 116, 97]⟩ : ByteArray)) else (s_FactText_j0 p0 (⟨#[115, 101, 116]⟩ : ByteArray))))
/- impl.Record] -/
def slices_Grow_Record (p1 : Int) : Option (List Rec) :=
  bif decide (p1 < 0) then (none) else (grd (i64 (p1 - 0)) (bif decide (0 < p1 - 0) then (grd (0 < p1 - 0 ∧ (p1 - 0).toNat ≤ 1099511627776) (grd ((0 : Int) ≤ ((0 : Nat) : Int) ∧ ((0 : Nat) : Int) ≤ 0 ∧ 0 ≤ ((List.replicate (p1 - 0).toNat (Rec.mk (⟨#[]⟩ : ByteArray) 0 0 0 (⟨#[]⟩ : ByteArray) (⟨#[]⟩ : ByteArray))).length : Int)) (some (((List.replicate (p1 - 0).toNat (Rec.mk (⟨#[]⟩ : ByteArray) 0 0 0 (⟨#[]⟩ : ByteArray) (⟨#[]⟩ : ByteArray))).drop (0 + ((0 : Nat) : Int).toNat)).take ((0 : Int).toNat - ((0 : Nat) : Int).toNat))))) else (some ([] : List Rec))))
/- impl.Record] -/
def slices_Concat_Record_l2  : List (List Rec) → (List Rec) → Nat → Option (List Rec)
  | [], v2_0, v2_1 => some v2_0
  | e2 :: rs2, v2_0, v2_1 => grd ((v2_0 ++ e2).length ≤ 1099511627776) (slices_Concat_Record_l2 rs2 (v2_0 ++ e2) (v2_1 + 1))
def slices_Concat_Record_j0 (p0 : List (List Rec)) (j0_0 : Int) : Option (List Rec) :=
  bnd1 (slices_Grow_Record j0_0) (fun x1 => slices_Concat_Record_l2 p0 x1 0)
def slices_Concat_Record_l1 (p0 : List (List Rec)) : List (List Rec) → Int → Nat → Option (List Rec)
  | [], v1_0, v1_1 => slices_Concat_Record_j0 p0 v1_0
  | e1 :: rs1, v1_0, v1_1 => grd (i64 (v1_0 + (e1.length : Int))) (bif decide (v1_0 + (e1.length : Int) < 0) then (none) else (slices_Concat_Record_l1 p0 rs1 (v1_0 + (e1.length : Int)) (v1_1 + 1)))
def slices_Concat_Record (p0 : List (List Rec)) : Option (List Rec) :=
  slices_Concat_Record_l1 p0 p0 0 0
/- stringslite.IndexByte -/
def internal_stringslite_IndexByte (p0 : ByteArray) (p1 : Int) : Option Int :=
  some (Lib.indexByte p0.data.toList p1.toNat.toUInt8)
/- stringslite.Index -/
def internal_stringslite_Index_j0 (p0 : ByteArray) (p1 : ByteArray) (j0_0 : Bool) : Option Int :=
  bif j0_0 then (some 0) else (bif decide ((p1.size : Int) = 1) then (bnd1 (sidx p1 0) (fun x3 => bnd1 (internal_stringslite_IndexByte p0 x3) (fun x5 => some x5))) else (bif decide ((p0.size : Int) ≤ (p1.size : Int)) then (some (-1)) else (none)))
def internal_stringslite_Index (p0 : ByteArray) (p1 : ByteArray) : Option Int :=
  bif decide ((p1.size : Int) = 0) then (internal_stringslite_Index_j0 p0 p1 true) else (internal_stringslite_Index_j0 p0 p1 (decide (p1 = p0)))
/- strings.Index -/
def strings_Index (p0 : ByteArray) (p1 : ByteArray) : Option Int :=
  bnd1 (internal_stringslite_Index p0 p1) (fun x1 => some x1)
/- strings.Count -/
def strings_Count_l0 (p1 : ByteArray) : Nat → ByteArray → Int → Option Int
  | 0, _, _ => none
  | f0 + 1, v0_0, v0_1 => bnd1 (strings_Index v0_0 p1) (fun x5 => bif decide (x5 = (-1)) then (some v0_1) else (grd (i64 (v0_1 + 1)) (grd (i64 (x5 + (p1.size : Int))) (grd (0 ≤ x5 + (p1.size : Int) ∧ x5 + (p1.size : Int) ≤ (v0_0.size : Int) ∧ (v0_0.size : Int) ≤ (v0_0.size : Int)) (strings_Count_l0 p1 f0 (v0_0.extract (x5 + (p1.size : Int)).toNat (v0_0.size : Int).toNat) (v0_1 + 1))))))
def strings_Count (p0 : ByteArray) (p1 : ByteArray) : Option Int :=
  bif decide ((p1.size : Int) = 0) then (none) else (bif decide ((p1.size : Int) = 1) then (bnd1 (sidx p1 0) (fun x3 => some (Lib.countByte p0.data.toList x3.toNat.toUInt8 : Int))) else (strings_Count_l0 p1 fuel0 p0 0))
/- strings.genSplit -/
def strings_genSplit_j1  (j1_0 : ByteArray) (j1_1 : List ByteArray) (j1_2 : Int) : Option (List ByteArray) :=
  bnd1 (idx j1_1 j1_2) (fun x6 => grd (i64 (j1_2 + 1)) (grd ((0 : Int) ≤ ((0 : Nat) : Int) ∧ ((0 : Nat) : Int) ≤ j1_2 + 1 ∧ j1_2 + 1 ≤ (j1_1.length : Int)) (some (((j1_1.set j1_2.toNat j1_0).drop (0 + ((0 : Nat) : Int).toNat)).take ((j1_2 + 1).toNat - ((0 : Nat) : Int).toNat)))))
def strings_genSplit_l2 (p0 : ByteArray) (p1 : ByteArray) (p2 : Int) (j0_0 : Int) : Nat → ByteArray → (List ByteArray) → Int → Option (List ByteArray)
  | 0, _, _, _ => none
  | f2 + 1, v2_0, v2_1, v2_2 => bif decide (v2_2 < (if (p0.size : Int) + 1 < j0_0 then (p0.size : Int) + 1 else j0_0) - 1) then (bnd1 (strings_Index v2_0 p1) (fun x7 => bif decide (x7 < 0) then (strings_genSplit_j1 v2_0 v2_1 v2_2) else (grd (i64 (x7 + p2)) (grd (0 ≤ ((0 : Nat) : Int) ∧ ((0 : Nat) : Int) ≤ x7 + p2 ∧ x7 + p2 ≤ (v2_0.size : Int)) (bnd1 (idx v2_1 v2_2) (fun x12 => grd (i64 (x7 + (p1.size : Int))) (grd (0 ≤ x7 + (p1.size : Int) ∧ x7 + (p1.size : Int) ≤ (v2_0.size : Int) ∧ (v2_0.size : Int) ≤ (v2_0.size : Int)) (grd (i64 (v2_2 + 1)) (strings_genSplit_l2 p0 p1 p2 j0_0 f2 (v2_0.extract (x7 + (p1.size : Int)).toNat (v2_0.size : Int).toNat) (v2_1.set v2_2.toNat (v2_0.extract ((0 : Nat) : Int).toNat (x7 + p2).toNat)) (v2_2 + 1)))))))))) else (strings_genSplit_j1 v2_0 v2_1 v2_2)
def strings_genSplit_j0 (p0 : ByteArray) (p1 : ByteArray) (p2 : Int) (j0_0 : Int) : Option (List ByteArray) :=
  grd (i64 ((p0.size : Int) + 1)) (grd (0 ≤ (if (p0.size : Int) + 1 < j0_0 then (p0.size : Int) + 1 else j0_0) ∧ (if (p0.size : Int) + 1 < j0_0 then (p0.size : Int) + 1 else j0_0).toNat ≤ 1099511627776) (grd (i64 ((if (p0.size : Int) + 1 < j0_0 then (p0.size : Int) + 1 else j0_0) - 1)) (strings_genSplit_l2 p0 p1 p2 j0_0 fuel0 p0 (List.replicate (if (p0.size : Int) + 1 < j0_0 then (p0.size : Int) + 1 else j0_0).toNat (⟨#[]⟩ : ByteArray)) 0)))
def strings_genSplit (p0 : ByteArray) (p1 : ByteArray) (p2 : Int) (p3 : Int) : Option (List ByteArray) :=
  bif decide (p3 = 0) then (some ([] : List ByteArray)) else (bif decide (p1 = (⟨#[]⟩ : ByteArray)) then (none) else (bif decide (p3 < 0) then (bnd1 (strings_Count p0 p1) (fun x4 => grd (i64 (x4 + 1)) (strings_genSplit_j0 p0 p1 p2 (x4 + 1)))) else (strings_genSplit_j0 p0 p1 p2 p3)))
/- strings.Split -/
def strings_Split (p0 : ByteArray) (p1 : ByteArray) : Option (List ByteArray) :=
  bnd1 (strings_genSplit p0 p1 0 (-1)) (fun x1 => some x1)
/- impl.Labels -/
def i_Labels (p0 : ByteArray) : Option (List ByteArray) :=
  bif decide (p0 = (⟨#[]⟩ : ByteArray)) then (some ([] : List ByteArray)) else (bnd1 (strings_Split p0 (⟨#[46]⟩ : ByteArray)) (fun x2 => some x2))
/- slices.IndexFunc[[]string,string] -/
def slices_IndexFunc_string_l0 (p1 : ByteArray → Option Bool) : List ByteArray → Nat → Option Int
  | [], v0_0 => some (-1)
  | e0 :: rs0, v0_0 => bnd1 (p1 e0) (fun x2 => bif x2 then (some (v0_0 : Int)) else (slices_IndexFunc_string_l0 p1 rs0 (v0_0 + 1)))
def slices_IndexFunc_string (p0 : List ByteArray) (p1 : ByteArray → Option Bool) : Option Int :=
  slices_IndexFunc_string_l0 p1 p0 0
/- slices.ContainsFunc[[]string,string] -/
def slices_ContainsFunc_string (p0 : List ByteArray) (p1 : ByteArray → Option Bool) : Option Bool :=
  bnd1 (slices_IndexFunc_string p0 p1) (fun x1 => some (decide (0 ≤ x1)))
/- impl.LabelOk -/
def i_LabelOk_j0 (p0 : ByteArray) : Option Bool :=
  bif decide (1 ≤ (p0.size : Int)) then (some (decide ((p0.size : Int) ≤ 12))) else (some false)
def i_LabelOk_j2 (v1_0 : Int) (k1 : Int → Option Bool) (j2_0 : Bool) : Option Bool :=
  bif j2_0 then (some false) else (grd (i64 (v1_0 + 1)) (k1 (v1_0 + 1)))
def i_LabelOk_l1 (p0 : ByteArray) : Nat → Int → Option Bool
  | 0, _ => none
  | f1 + 1, v1_0 => bif decide (v1_0 < (p0.size : Int)) then (bnd1 (sidx p0 v1_0) (fun x2 => bif decide (x2 < 97) then (bif decide (x2 < 48) then (bif !decide (x2 = 45) then (i_LabelOk_j2 v1_0 (i_LabelOk_l1 p0 f1) (!decide (x2 = 95))) else (i_LabelOk_j2 v1_0 (i_LabelOk_l1 p0 f1) false)) else (bif decide (57 < x2) then (bif !decide (x2 = 45) then (i_LabelOk_j2 v1_0 (i_LabelOk_l1 p0 f1) (!decide (x2 = 95))) else (i_LabelOk_j2 v1_0 (i_LabelOk_l1 p0 f1) false)) else (i_LabelOk_j2 v1_0 (i_LabelOk_l1 p0 f1) false))) else (bif decide (122 < x2) then (bif decide (x2 < 48) then (bif !decide (x2 = 45) then (i_LabelOk_j2 v1_0 (i_LabelOk_l1 p0 f1) (!decide (x2 = 95))) else (i_LabelOk_j2 v1_0 (i_LabelOk_l1 p0 f1) false)) else (bif decide (57 < x2) then (bif !decide (x2 = 45) then (i_LabelOk_j2 v1_0 (i_LabelOk_l1 p0 f1) (!decide (x2 = 95))) else (i_LabelOk_j2 v1_0 (i_LabelOk_l1 p0 f1) false)) else (i_LabelOk_j2 v1_0 (i_LabelOk_l1 p0 f1) false))) else (i_LabelOk_j2 v1_0 (i_LabelOk_l1 p0 f1) false)))) else (i_LabelOk_j0 p0)
def i_LabelOk (p0 : ByteArray) : Option Bool :=
  i_LabelOk_l1 p0 fuel0 0
/- impl.NameOk$1 -/
def i_NameOk_1 (p0 : ByteArray) : Option Bool :=
  bnd1 (i_LabelOk p0) (fun x1 => some (!x1))
/- impl.NameOk -/
def i_NameOk (p0 : ByteArray) : Option Bool :=
  bnd1 (i_Labels p0) (fun x1 => bif decide ((p0.size : Int) ≤ 50) then (bif decide ((x1.length : Int) ≤ 6) then (bnd1 (slices_ContainsFunc_string x1 (fun a0 => i_NameOk_1 a0)) (fun x5 => some (!x5))) else (some false)) else (some false))
/- impl.isTtl -/
def i_isTtl (p0 : Int) : Option Bool :=
  bif decide (0 ≤ p0) then (some (decide (p0 ≤ 100000))) else (some false)
/- impl.isFour -/
def i_isFour (p0 : Int) : Option Bool :=
  bif decide (0 ≤ p0) then (some (decide (p0 ≤ 2147483647))) else (some false)
/- impl.isText -/
def i_isText_j0 (p0 : ByteArray) : Option Bool :=
  some (decide ((p0.size : Int) ≤ 12))
def i_isText_j2 (v1_0 : Int) (k1 : Int → Option Bool) (j2_0 : Bool) : Option Bool :=
  bif j2_0 then (some false) else (grd (i64 (v1_0 + 1)) (k1 (v1_0 + 1)))
def i_isText_l1 (p0 : ByteArray) : Nat → Int → Option Bool
  | 0, _ => none
  | f1 + 1, v1_0 => bif decide (v1_0 < (p0.size : Int)) then (bnd1 (sidx p0 v1_0) (fun x2 => bif decide (x2 < 33) then (i_isText_j2 v1_0 (i_isText_l1 p0 f1) true) else (bnd1 (sidx p0 v1_0) (fun x5 => i_isText_j2 v1_0 (i_isText_l1 p0 f1) (decide (126 < x5)))))) else (i_isText_j0 p0)
def i_isText (p0 : ByteArray) : Option Bool :=
  i_isText_l1 p0 fuel0 0
/- impl.RecordOk -/
def i_RecordOk_j1 (p0 : Rec) (j1_0 : Bool) : Option Bool :=
  bif j1_0 then (bif decide (p0.n = 0) then (bnd1 (i_NameOk p0.host) (fun x9 => bif x9 then (some (decide (p0.text = (⟨#[]⟩ : ByteArray)))) else (some false))) else (some false)) else (bif decide (p0.ty = 6) then (bnd1 (i_isTtl p0.n) (fun x13 => bif x13 then (bnd1 (i_NameOk p0.host) (fun x16 => bif x16 then (some (decide (p0.text = (⟨#[]⟩ : ByteArray)))) else (some false))) else (some false))) else (bif decide (p0.ty = 16) then (bif decide (p0.n = 0) then (bif decide (p0.host = (⟨#[]⟩ : ByteArray)) then (bnd1 (i_isText p0.text) (fun x22 => some x22)) else (some false)) else (some false)) else (some false)))
def i_RecordOk_j0 (p0 : Rec) (j0_0 : Bool) : Option Bool :=
  bif j0_0 then (some false) else (bif decide (p0.ty = 1) then (bnd1 (i_isFour p0.n) (fun x3 => bif x3 then (bif decide (p0.host = (⟨#[]⟩ : ByteArray)) then (some (decide (p0.text = (⟨#[]⟩ : ByteArray)))) else (some false)) else (some false))) else (bif decide (p0.ty = 2) then (i_RecordOk_j1 p0 (decide (p0.ty = 2))) else (i_RecordOk_j1 p0 (decide (p0.ty = 5)))))
def i_RecordOk (p0 : Rec) : Option Bool :=
  bnd1 (i_NameOk p0.name) (fun x1 => bif !x1 then (i_RecordOk_j0 p0 true) else (bnd1 (i_isTtl p0.ttl) (fun x4 => i_RecordOk_j0 p0 (!x4))))
/- impl.nameText -/
def i_nameText (p0 : ByteArray) : Option ByteArray :=
  bif decide (p0 = (⟨#[]⟩ : ByteArray)) then (some (⟨#[46]⟩ : ByteArray)) else (some p0)
/- impl.NumText -/
def i_NumText_j0 (kr : Int → Option ByteArray) (p0 : Int) (j0_0 : Bool) : Option ByteArray :=
  bif j0_0 then (bnd1 (kr (IntKind.i64.wrap (-p0))) (fun x2 => grd ((⟨#[45]⟩ : ByteArray).size + x2.size ≤ 9223372036854775807) (some ((⟨#[45]⟩ : ByteArray) ++ x2)))) else (bif decide (p0 < 0) then (bnd1 (kr (IntKind.i64.wrap (Int.tdiv p0 10))) (fun x6 => bnd1 (kr (IntKind.i64.wrap (-(Int.tmod p0 10)))) (fun x8 => grd (x6.size + x8.size ≤ 9223372036854775807) (some (x6 ++ x8))))) else (bif decide (p0 < 10) then (grd (i64 (48 + p0)) (some (Utf8.encode (IntKind.i32.wrap (48 + p0))))) else (bnd1 (kr (IntKind.i64.wrap (Int.tdiv p0 10))) (fun x13 => grd (i64 (48 + (Int.tmod p0 10))) (grd (x13.size + (Utf8.encode (IntKind.i32.wrap (48 + (Int.tmod p0 10)))).size ≤ 9223372036854775807) (some (x13 ++ (Utf8.encode (IntKind.i32.wrap (48 + (Int.tmod p0 10)))))))))))
def i_NumText_r : Nat → Int → Option ByteArray
  | 0, _ => none
  | fr + 1, p0 => bif decide (p0 < 0) then (i_NumText_j0 (i_NumText_r fr) p0 (decide ((-10) < p0))) else (i_NumText_j0 (i_NumText_r fr) p0 false)
def i_NumText (p0 : Int) : Option ByteArray :=
  i_NumText_r fuel0 p0
/- impl.TypeText -/
def i_TypeText (p0 : Int) : Option ByteArray :=
  bif decide (p0 = 1) then (some (⟨#[97, 100, 100, 114]⟩ : ByteArray)) else (bif decide (p0 = 2) then (some (⟨#[115, 101, 114, 118, 101, 114]⟩ : ByteArray)) else (bif decide (p0 = 5) then (some (⟨#[97, 108, 105, 97, 115]⟩ : ByteArray)) else (bif decide (p0 = 6) then (some (⟨#[115, 116, 97, 114, 116]⟩ : ByteArray)) else (bif decide (p0 = 16) then (some (⟨#[116, 101, 120, 116]⟩ : ByteArray)) else (some (⟨#[]⟩ : ByteArray))))))
/- strings.Join -/
def strings_Join (p0 : List ByteArray) (p1 : ByteArray) : Option ByteArray :=
  grd (p0.length ≤ 140737488355328 ∧ (Lib.join (p0.map (fun x => x.data.toList)) p1.data.toList).length ≤ 140737488355328) (some (joinB p0 p1))
/- impl.RecordText -/
def i_RecordText_j0  (j0_0 : List ByteArray) : Option ByteArray :=
  bnd1 (strings_Join j0_0 (⟨#[32]⟩ : ByteArray)) (fun x10 => some x10)
def i_RecordText_j1 (p0 : Rec) (x4 : ByteArray) (x6 : ByteArray) (x8 : ByteArray) (j1_0 : Bool) : Option ByteArray :=
  bif j1_0 then (bnd1 (i_nameText p0.host) (fun x15 => grd (([x4, x6, x8] ++ [x15]).length ≤ 1099511627776) (i_RecordText_j0 ([x4, x6, x8] ++ [x15])))) else (bif decide (p0.ty = 6) then (bnd1 (i_nameText p0.host) (fun x19 => bnd1 (i_NumText p0.n) (fun x21 => grd (([x4, x6, x8] ++ [x19, x21]).length ≤ 1099511627776) (i_RecordText_j0 ([x4, x6, x8] ++ [x19, x21]))))) else (bif decide (p0.ty = 16) then (grd ((⟨#[39]⟩ : ByteArray).size + p0.text.size ≤ 9223372036854775807) (grd (([x4, x6, x8] ++ ([(⟨#[39]⟩ : ByteArray) ++ p0.text])).length ≤ 1099511627776) (i_RecordText_j0 ([x4, x6, x8] ++ ([(⟨#[39]⟩ : ByteArray) ++ p0.text]))))) else (i_RecordText_j0 [x4, x6, x8])))
def i_RecordText (p0 : Rec) : Option ByteArray :=
  bnd1 (i_RecordOk p0) (fun x1 => bif !x1 then (some (⟨#[]⟩ : ByteArray)) else (bnd1 (i_nameText p0.name) (fun x4 => bnd1 (i_NumText p0.ttl) (fun x6 => bnd1 (i_TypeText p0.ty) (fun x8 => bif decide (p0.ty = 1) then (bnd1 (i_NumText p0.n) (fun x11 => grd (([x4, x6, x8] ++ [x11]).length ≤ 1099511627776) (i_RecordText_j0 ([x4, x6, x8] ++ [x11])))) else (bif decide (p0.ty = 2) then (i_RecordText_j1 p0 x4 x6 x8 (decide (p0.ty = 2))) else (i_RecordText_j1 p0 x4 x6 x8 (decide (p0.ty = 5)))))))))
/- impl.FactText -/
def i_FactText_l1  : List Rec → ByteArray → Nat → Option ByteArray
  | [], v1_0, v1_1 => some v1_0
  | e1 :: rs1, v1_0, v1_1 => bnd1 (i_RecordText e1) (fun x5 => grd ((⟨#[59, 32]⟩ : ByteArray).size + x5.size ≤ 9223372036854775807) (grd (v1_0.size + ((⟨#[59, 32]⟩ : ByteArray) ++ x5).size ≤ 9223372036854775807) (i_FactText_l1 rs1 (v1_0 ++ ((⟨#[59, 32]⟩ : ByteArray) ++ x5)) (v1_1 + 1))))
def i_FactText_j0 (p0 : MFact) (j0_0 : ByteArray) : Option ByteArray :=
  bnd1 (slices_Concat_Record [p0.links, p0.l]) (fun x2 => i_FactText_l1 x2 j0_0 0)
def i_FactText (p0 : MFact) : Option ByteArray :=
  bif !p0.fin then (some (⟨#[114, 111, 117, 110, 100]⟩ : ByteArray)) else (bif decide (p0.code = 3) then (i_FactText_j0 p0 (⟨#[110, 111, 110, 97, 109, 101]⟩ : ByteArray)) else (bif decide ((p0.l.length : Int) = 0) then (i_FactText_j0 p0 (⟨#[110, 111, 100, 97, 116, 97]⟩ : ByteArray)) else (i_FactText_j0 p0 (⟨#[115, 101, 116]⟩ : ByteArray))))
/- laws.eqRecord -/
def w_eqRecord (p0 : Rec) (p1 : Rec) : Option Bool :=
  bif !decide (p0.name = p1.name) then (some false) else (bif !decide (p0.ty = p1.ty) then (some false) else (bif !decide (p0.ttl = p1.ttl) then (some false) else (bif !decide (p0.n = p1.n) then (some false) else (bif !decide (p0.host = p1.host) then (some false) else (bif !decide (p0.text = p1.text) then (some false) else (some true))))))
/- laws.eqRecordS -/
def w_eqRecordS_l0 (p1 : List Rec) : List Rec → Nat → Option Bool
  | [], v0_0 => some true
  | e0 :: rs0, v0_0 => bnd1 (idx p1 (v0_0 : Int)) (fun x3 => bnd1 (w_eqRecord e0 x3) (fun x5 => bif !x5 then (some false) else (w_eqRecordS_l0 p1 rs0 (v0_0 + 1))))
def w_eqRecordS (p0 : List Rec) (p1 : List Rec) : Option Bool :=
  bif !decide ((p0.length : Int) = (p1.length : Int)) then (some false) else (w_eqRecordS_l0 p1 p0 0)
/- laws.eqFact -/
def w_eqFact (p0 : MFact) (p1 : MFact) : Option Bool :=
  bif !decide (p0.code = p1.code) then (some false) else (bnd1 (w_eqRecordS p0.links p1.links) (fun x2 => bif !x2 then (some false) else (bnd1 (w_eqRecordS p0.l p1.l) (fun x5 => bif !x5 then (some false) else (bif !(p0.fin == p1.fin) then (some false) else (some true))))))
/- laws.FnExactFactText -/
def w_FnExactFactText (p0 : MFact) : Option Bool :=
  bnd1 (w_szFact p0 1048576) (fun x1 => bif decide (x1 < 0) then (some true) else (bnd1 (w_toFact p0) (fun x4 => bnd1 (s_FactText x4) (fun x6 => bnd1 (w_toFact p0) (fun x8 => bnd1 (i_FactText x8) (fun x10 => bif !decide (x10 = x6) then (some false) else (bnd1 (w_toFact p0) (fun x13 => bnd1 (w_eqFact x8 x13) (fun x15 => bif !x15 then (some false) else (some true))))))))))
end Go.Abs.M
