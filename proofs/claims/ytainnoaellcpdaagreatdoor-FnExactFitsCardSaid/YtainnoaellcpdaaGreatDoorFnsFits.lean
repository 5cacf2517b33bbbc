/- The functions that the law of Fits reaches, as pure functions that may fail. -/
import Derived.Test.YtainnoaellcpdaaGreatDoorAbsC1
namespace Go.Abs.M
open Go Go.Abs
structure Quest where
  name : ByteArray
  ty : Int
  deriving DecidableEq
def questV (r : Quest) : List V := [.sc (.string r.name), .sc (.int .i64 r.ty)]
theorem questV_free (r : Quest) : (questV r).all (·.free) = true := rfl
theorem questV_len (r : Quest) : (questV r).length = 2 := rfl
def Quest.ok (r : Quest) : Prop := r.name.size ≤ 9223372036854775807 ∧ i64 r.ty
theorem questV_sc (r : Quest) : (questV r).all isScN = true := rfl
structure Rec where
  name : ByteArray
  ty : Int
  ttl : Int
  n : Int
  host : ByteArray
  text : ByteArray
  deriving DecidableEq
def recV (r : Rec) : List V := [.sc (.string r.name), .sc (.int .i64 r.ty), .sc (.int .i64 r.ttl), .sc (.int .i64 r.n), .sc (.string r.host), .sc (.string r.text)]
theorem recV_free (r : Rec) : (recV r).all (·.free) = true := rfl
theorem recV_len (r : Rec) : (recV r).length = 6 := rfl
def Rec.ok (r : Rec) : Prop := r.name.size ≤ 9223372036854775807 ∧ i64 r.ty ∧ i64 r.ttl ∧ i64 r.n ∧ r.host.size ≤ 9223372036854775807 ∧ r.text.size ≤ 9223372036854775807
theorem recV_sc (r : Rec) : (recV r).all isScN = true := rfl
structure MMsg where
  id : Int
  reply : Bool
  auth : Bool
  cut : Bool
  want : Bool
  can : Bool
  code : Int
  q : Quest
  an : List Rec
  au : List Rec
  ad : List Rec
  deriving DecidableEq
def mMsgV (r : MMsg) : List V := [.sc (.int .i64 r.id), .sc (.bool r.reply), .sc (.bool r.auth), .sc (.bool r.cut), .sc (.bool r.want), .sc (.bool r.can), .sc (.int .i64 r.code), .sc (.string r.q.name), .sc (.int .i64 r.q.ty), .lst 6 (List.map recV r.an), .lst 6 (List.map recV r.au), .lst 6 (List.map recV r.ad)]
theorem mMsgV_free (r : MMsg) : (mMsgV r).all (·.free) = true := rfl
theorem mMsgV_len (r : MMsg) : (mMsgV r).length = 12 := rfl
def MMsg.ok (r : MMsg) : Prop := i64 r.id ∧ i64 r.code ∧ r.q.ok ∧ (r.an.length ≤ 9223372036854775807 ∧ ∀ q, q ∈ r.an → q.ok) ∧ (r.au.length ≤ 9223372036854775807 ∧ ∀ q, q ∈ r.au → q.ok) ∧ (r.ad.length ≤ 9223372036854775807 ∧ ∀ q, q ∈ r.ad → q.ok)
def recLV (r : List Rec) : List V := [.lst 6 (List.map recV r)]
theorem recLV_free (r : List Rec) : (recLV r).all (·.free) = true := rfl
theorem recLV_len (r : List Rec) : (recLV r).length = 1 := rfl
/- laws.szQuest -/
def w_szQuest (p0 : Quest) (p1 : Int) : Option Int :=
  grd (i64 (p1 - (p0.name.size : Int))) (bif decide (p1 - (p0.name.size : Int) < 0) then (some (-1)) else (some (p1 - (p0.name.size : Int))))
/- laws.szRecord -/
def w_szRecord (p0 : Rec) (p1 : Int) : Option Int :=
  grd (i64 (p1 - (p0.name.size : Int))) (bif decide (p1 - (p0.name.size : Int) < 0) then (some (-1)) else (grd (i64 ((p1 - (p0.name.size : Int)) - (p0.host.size : Int))) (bif decide ((p1 - (p0.name.size : Int)) - (p0.host.size : Int) < 0) then (some (-1)) else (grd (i64 (((p1 - (p0.name.size : Int)) - (p0.host.size : Int)) - (p0.text.size : Int))) (bif decide (((p1 - (p0.name.size : Int)) - (p0.host.size : Int)) - (p0.text.size : Int) < 0) then (some (-1)) else (some (((p1 - (p0.name.size : Int)) - (p0.host.size : Int)) - (p0.text.size : Int))))))))
/- laws.szRecordS -/
def w_szRecordS_l0  : List Rec → Int → Nat → Option Int
  | [], v0_0, v0_1 => some v0_0
  | e0 :: rs0, v0_0, v0_1 => bnd1 (w_szRecord e0 v0_0) (fun x4 => bif decide (x4 < 0) then (some (-1)) else (w_szRecordS_l0 rs0 x4 (v0_1 + 1)))
def w_szRecordS (p0 : List Rec) (p1 : Int) : Option Int :=
  grd (i64 (p1 - (p0.length : Int))) (bif decide (p1 - (p0.length : Int) < 0) then (some (-1)) else (w_szRecordS_l0 p0 (p1 - (p0.length : Int)) 0))
/- laws.szMsg -/
def w_szMsg (p0 : MMsg) (p1 : Int) : Option Int :=
  bnd1 (w_szQuest p0.q p1) (fun x1 => bif decide (x1 < 0) then (some (-1)) else (bnd1 (w_szRecordS p0.an x1) (fun x4 => bif decide (x4 < 0) then (some (-1)) else (bnd1 (w_szRecordS p0.au x4) (fun x7 => bif decide (x7 < 0) then (some (-1)) else (bnd1 (w_szRecordS p0.ad x7) (fun x10 => bif decide (x10 < 0) then (some (-1)) else (some x10))))))))
/- laws.toQuest -/
def w_toQuest (p0 : Quest) : Option Quest :=
  some p0
/- laws.toRecord -/
def w_toRecord (p0 : Rec) : Option Rec :=
  some p0
/- laws.toRecordS -/
def w_toRecordS_l0  : List Rec → (List Rec) → Nat → Option (List Rec)
  | [], v0_0, v0_1 => some v0_0
  | e0 :: rs0, v0_0, v0_1 => bnd1 (w_toRecord e0) (fun x3 => bnd1 (idx v0_0 (v0_1 : Int)) (fun x5 => w_toRecordS_l0 rs0 (v0_0.set ((v0_1 : Int).toNat) x3) (v0_1 + 1)))
def w_toRecordS (p0 : List Rec) : Option (List Rec) :=
  grd (0 ≤ (p0.length : Int) ∧ (p0.length : Int).toNat ≤ 1099511627776) (w_toRecordS_l0 p0 (List.replicate (p0.length : Int).toNat (Rec.mk (⟨#[]⟩ : ByteArray) 0 0 0 (⟨#[]⟩ : ByteArray) (⟨#[]⟩ : ByteArray))) 0)
/- laws.toMsg -/
def w_toMsg (p0 : MMsg) : Option MMsg :=
  bnd1 (w_toQuest p0.q) (fun x1 => bnd1 (w_toRecordS p0.an) (fun x3 => bnd1 (w_toRecordS p0.au) (fun x5 => bnd1 (w_toRecordS p0.ad) (fun x7 => some (MMsg.mk p0.id p0.reply p0.auth p0.cut p0.want p0.can p0.code x1 x3 x5 x7)))))
/- spec.l1In -/
def s_l1In (p0 : Int) (p1 : Int) (p2 : Int) : Option Bool :=
  bif decide (p1 ≤ p0) then (some (decide (p0 ≤ p2))) else (some false)
/- spec.Labels -/
def s_Labels_j2 (p0 : ByteArray) (v0_0 : List ByteArray) (v0_1 : Int) (v0_2 : Int) (k0 : (List ByteArray) → Int → Int → Option (List ByteArray)) (j2_0 : Bool) : Option (List ByteArray) :=
  bif j2_0 then (grd (0 ≤ v0_1 ∧ v0_1 ≤ v0_2 ∧ v0_2 ≤ (p0.size : Int)) (grd ((v0_0 ++ [p0.extract v0_1.toNat v0_2.toNat]).length ≤ 1099511627776) (grd (i64 (v0_2 + 1)) (grd (i64 (v0_2 + 1)) (k0 (v0_0 ++ [p0.extract v0_1.toNat v0_2.toNat]) (v0_2 + 1) (v0_2 + 1)))))) else (grd (i64 (v0_2 + 1)) (k0 v0_0 v0_1 (v0_2 + 1)))
def s_Labels_j1 (p0 : ByteArray) (v0_0 : List ByteArray) (v0_1 : Int) (v0_2 : Int) (k0 : (List ByteArray) → Int → Int → Option (List ByteArray)) (j1_0 : Bool) : Option (List ByteArray) :=
  bif j1_0 then (bif decide (v0_2 = (p0.size : Int)) then (s_Labels_j2 p0 v0_0 v0_1 v0_2 (k0) true) else (bnd1 (sidx p0 v0_2) (fun x3 => s_Labels_j2 p0 v0_0 v0_1 v0_2 (k0) (decide (x3 = 46))))) else (some v0_0)
def s_Labels_l0 (p0 : ByteArray) : Nat → (List ByteArray) → Int → Int → Option (List ByteArray)
  | 0, _, _, _ => none
  | f0 + 1, v0_0, v0_1, v0_2 => bif decide (v0_2 ≤ (p0.size : Int)) then (s_Labels_j1 p0 v0_0 v0_1 v0_2 (s_Labels_l0 p0 f0) (!decide (p0 = (⟨#[]⟩ : ByteArray)))) else (s_Labels_j1 p0 v0_0 v0_1 v0_2 (s_Labels_l0 p0 f0) false)
def s_Labels (p0 : ByteArray) : Option (List ByteArray) :=
  s_Labels_l0 p0 fuel0 ([] : List ByteArray) 0 0
/- spec.l2Byte -/
def s_l2Byte (p0 : Int) : Option Bool :=
  bnd1 (s_l1In (IntKind.i64.wrap p0) 97 122) (fun x1 => bif x1 then (some true) else (bnd1 (s_l1In (IntKind.i64.wrap p0) 48 57) (fun x4 => bif x4 then (some true) else (bif decide (p0 = 45) then (some true) else (some (decide (p0 = 95)))))))
/- spec.LabelOk -/
def s_LabelOk_j0 (p0 : ByteArray) : Option Bool :=
  bnd1 (s_l1In (p0.size : Int) 1 12) (fun x1 => some x1)
def s_LabelOk_l1 (p0 : ByteArray) : Nat → Int → Option Bool
  | 0, _ => none
  | f1 + 1, v1_0 => bif decide (v1_0 < (p0.size : Int)) then (bnd1 (sidx p0 v1_0) (fun x2 => bnd1 (s_l2Byte x2) (fun x4 => bif !x4 then (some false) else (grd (i64 (v1_0 + 1)) (s_LabelOk_l1 p0 f1 (v1_0 + 1)))))) else (s_LabelOk_j0 p0)
def s_LabelOk (p0 : ByteArray) : Option Bool :=
  s_LabelOk_l1 p0 fuel0 0
/- spec.NameOk -/
def s_NameOk_j0 (p0 : ByteArray) (x1 : List ByteArray) : Option Bool :=
  bif decide ((p0.size : Int) ≤ 50) then (some (decide ((x1.length : Int) ≤ 6))) else (some false)
def s_NameOk_l1 (p0 : ByteArray) (x1 : List ByteArray) : List ByteArray → Nat → Option Bool
  | [], v1_0 => s_NameOk_j0 p0 x1
  | e1 :: rs1, v1_0 => bnd1 (s_LabelOk e1) (fun x4 => bif !x4 then (some false) else (s_NameOk_l1 p0 x1 rs1 (v1_0 + 1)))
def s_NameOk (p0 : ByteArray) : Option Bool :=
  bnd1 (s_Labels p0) (fun x1 => s_NameOk_l1 p0 x1 x1 0)
/- spec.TypeOk -/
def s_TypeOk (p0 : Int) : Option Bool :=
  bif decide (p0 = 1) then (some true) else (bif decide (p0 = 2) then (some true) else (bif decide (p0 = 5) then (some true) else (bif decide (p0 = 6) then (some true) else (some (decide (p0 = 16))))))
/- spec.QuestOk -/
def s_QuestOk (p0 : Quest) : Option Bool :=
  bnd1 (s_NameOk p0.name) (fun x1 => bif x1 then (bnd1 (s_TypeOk p0.ty) (fun x4 => some x4)) else (some false))
/- spec.l5Text -/
def s_l5Text_j0 (p0 : ByteArray) : Option Bool :=
  some (decide ((p0.size : Int) ≤ 12))
def s_l5Text_l1 (p0 : ByteArray) : Nat → Int → Option Bool
  | 0, _ => none
  | f1 + 1, v1_0 => bif decide (v1_0 < (p0.size : Int)) then (bnd1 (sidx p0 v1_0) (fun x2 => bnd1 (s_l1In (IntKind.i64.wrap x2) 33 126) (fun x4 => bif !x4 then (some false) else (grd (i64 (v1_0 + 1)) (s_l5Text_l1 p0 f1 (v1_0 + 1)))))) else (s_l5Text_j0 p0)
def s_l5Text (p0 : ByteArray) : Option Bool :=
  s_l5Text_l1 p0 fuel0 0
/- spec.RecordOk -/
def s_RecordOk_j1 (p0 : Rec) (j1_0 : Bool) : Option Bool :=
  bif j1_0 then (bif decide (p0.n = 0) then (bnd1 (s_NameOk p0.host) (fun x9 => bif x9 then (some (decide (p0.text = (⟨#[]⟩ : ByteArray)))) else (some false))) else (some false)) else (bif decide (p0.ty = 6) then (bnd1 (s_l1In p0.n 0 100000) (fun x13 => bif x13 then (bnd1 (s_NameOk p0.host) (fun x16 => bif x16 then (some (decide (p0.text = (⟨#[]⟩ : ByteArray)))) else (some false))) else (some false))) else (bif decide (p0.ty = 16) then (bif decide (p0.n = 0) then (bif decide (p0.host = (⟨#[]⟩ : ByteArray)) then (bnd1 (s_l5Text p0.text) (fun x22 => some x22)) else (some false)) else (some false)) else (some false)))
def s_RecordOk_j0 (p0 : Rec) (j0_0 : Bool) : Option Bool :=
  bif j0_0 then (some false) else (bif decide (p0.ty = 1) then (bnd1 (s_l1In p0.n 0 2147483647) (fun x3 => bif x3 then (bif decide (p0.host = (⟨#[]⟩ : ByteArray)) then (some (decide (p0.text = (⟨#[]⟩ : ByteArray)))) else (some false)) else (some false))) else (bif decide (p0.ty = 2) then (s_RecordOk_j1 p0 (decide (p0.ty = 2))) else (s_RecordOk_j1 p0 (decide (p0.ty = 5)))))
def s_RecordOk (p0 : Rec) : Option Bool :=
  bnd1 (s_NameOk p0.name) (fun x1 => bif !x1 then (s_RecordOk_j0 p0 true) else (bnd1 (s_l1In p0.ttl 0 100000) (fun x4 => s_RecordOk_j0 p0 (!x4))))
/- spec.l7List -/
def s_l7List_j0 (p0 : List Rec) : Option Bool :=
  some (decide ((p0.length : Int) ≤ 8))
def s_l7List_l1 (p0 : List Rec) : List Rec → Nat → Option Bool
  | [], v1_0 => s_l7List_j0 p0
  | e1 :: rs1, v1_0 => bnd1 (s_RecordOk e1) (fun x2 => bif !x2 then (some false) else (s_l7List_l1 p0 rs1 (v1_0 + 1)))
def s_l7List (p0 : List Rec) : Option Bool :=
  s_l7List_l1 p0 p0 0
/- spec.MsgOk -/
def s_MsgOk (p0 : MMsg) : Option Bool :=
  bnd1 (s_l1In p0.id 0 65535) (fun x1 => bif x1 then (bnd1 (s_l1In p0.code 0 15) (fun x4 => bif x4 then (bnd1 (s_QuestOk p0.q) (fun x7 => bif x7 then (bnd1 (s_l7List p0.an) (fun x10 => bif x10 then (bnd1 (s_l7List p0.au) (fun x13 => bif x13 then (bnd1 (s_l7List p0.ad) (fun x16 => some x16)) else (some false))) else (some false))) else (some false))) else (some false))) else (some false))
/- spec.Put2 -/
def s_Put2 (p0 : List Int) (p1 : Int) : Option (List Int) :=
  grd ((([] : List Int) ++ p0).length ≤ 1099511627776) (bnd1 (s_l1In p1 0 65535) (fun x2 => bif !x2 then (some (([] : List Int) ++ p0)) else (grd (((([] : List Int) ++ p0) ++ [IntKind.u8.wrap (ishr .i64 p1 8), IntKind.u8.wrap (iand .i64 p1 255)]).length ≤ 1099511627776) (some ((([] : List Int) ++ p0) ++ [IntKind.u8.wrap (ishr .i64 p1 8), IntKind.u8.wrap (iand .i64 p1 255)])))))
/- spec.l8Flag -/
def s_l8Flag (p0 : Bool) (p1 : Int) : Option Int :=
  bif p0 then (some p1) else (some 0)
/- spec.PutHead -/
def s_PutHead (p0 : MMsg) : Option (List Int) :=
  bnd1 (s_Put2 ([] : List Int) p0.id) (fun x1 => bnd1 (s_l8Flag p0.reply 128) (fun x3 => bnd1 (s_l8Flag p0.auth 4) (fun x5 => grd (i64 (x3 + x5)) (bnd1 (s_l8Flag p0.cut 2) (fun x8 => grd (i64 ((x3 + x5) + x8)) (bnd1 (s_l8Flag p0.want 1) (fun x11 => grd (i64 (((x3 + x5) + x8) + x11)) (bnd1 (s_l8Flag p0.can 128) (fun x14 => grd (i64 (x14 + (iand .i64 p0.code 15))) (grd ((x1 ++ [IntKind.u8.wrap (((x3 + x5) + x8) + x11), IntKind.u8.wrap (x14 + (iand .i64 p0.code 15))]).length ≤ 1099511627776) (bnd1 (s_Put2 (x1 ++ [IntKind.u8.wrap (((x3 + x5) + x8) + x11), IntKind.u8.wrap (x14 + (iand .i64 p0.code 15))]) 1) (fun x18 => bnd1 (s_Put2 x18 (p0.an.length : Int)) (fun x20 => bnd1 (s_Put2 x20 (p0.au.length : Int)) (fun x22 => bnd1 (s_Put2 x22 (p0.ad.length : Int)) (fun x24 => some x24)))))))))))))))
/- spec.JoinLabels -/
def s_JoinLabels_j1 (v0_1 : Nat) (e0 : ByteArray) (k0 : ByteArray → Nat → Option ByteArray) (j1_0 : ByteArray) : Option ByteArray :=
  grd (j1_0.size + e0.size ≤ 9223372036854775807) (k0 (j1_0 ++ e0) (v0_1 + 1))
def s_JoinLabels_l0  : List ByteArray → ByteArray → Nat → Option ByteArray
  | [], v0_0, v0_1 => some v0_0
  | e0 :: rs0, v0_0, v0_1 => bif decide (0 < (v0_1 : Int)) then (grd (v0_0.size + (⟨#[46]⟩ : ByteArray).size ≤ 9223372036854775807) (s_JoinLabels_j1 v0_1 e0 (s_JoinLabels_l0 rs0) (v0_0 ++ (⟨#[46]⟩ : ByteArray)))) else (s_JoinLabels_j1 v0_1 e0 (s_JoinLabels_l0 rs0) v0_0)
def s_JoinLabels (p0 : List ByteArray) : Option ByteArray :=
  s_JoinLabels_l0 p0 (⟨#[]⟩ : ByteArray) 0
/- spec.Above -/
def s_Above_l0 (x1 : List ByteArray) : Nat → (List ByteArray) → Int → Option (List ByteArray)
  | 0, _, _ => none
  | f0 + 1, v0_0, v0_1 => bif decide (v0_1 ≤ (x1.length : Int)) then (grd ((0 : Int) ≤ v0_1 ∧ v0_1 ≤ (x1.length : Int) ∧ (x1.length : Int) ≤ (x1.length : Int)) (bnd1 (s_JoinLabels ((x1.drop (0 + v0_1.toNat)).take ((x1.length : Int).toNat - v0_1.toNat))) (fun x5 => grd ((v0_0 ++ [x5]).length ≤ 1099511627776) (grd (i64 (v0_1 + 1)) (s_Above_l0 x1 f0 (v0_0 ++ [x5]) (v0_1 + 1)))))) else (some v0_0)
def s_Above (p0 : ByteArray) : Option (List ByteArray) :=
  bnd1 (s_Labels p0) (fun x1 => s_Above_l0 x1 fuel0 [p0] 1)
/- spec.Fold -/
def s_Fold_j0  (j0_0 : List Int) : Option ByteArray :=
  some (strOfNums j0_0)
def s_Fold_l1  : Nat → (List Int) → Int → Option ByteArray
  | 0, _, _ => none
  | f1 + 1, v1_0, v1_1 => bif decide (v1_1 < (v1_0.length : Int)) then (bnd1 (idx v1_0 v1_1) (fun x3 => bnd1 (s_l1In (IntKind.i64.wrap x3) 65 90) (fun x5 => bif x5 then (grd (i64 (v1_1 + 1)) (s_Fold_l1 f1 (v1_0.set v1_1.toNat (IntKind.u8.wrap (x3 + 32))) (v1_1 + 1))) else (grd (i64 (v1_1 + 1)) (s_Fold_l1 f1 v1_0 (v1_1 + 1)))))) else (s_Fold_j0 v1_0)
def s_Fold (p0 : ByteArray) : Option ByteArray :=
  grd (p0.size ≤ 1099511627776) (s_Fold_l1 fuel0 (bytesOf p0) 0)
/- spec.GetLabel -/
def s_GetLabel_j1 (p0 : List Int) (p1 : Int) (x2 : Int) (j1_0 : Bool) : Option (ByteArray × Int × Bool) :=
  bif j1_0 then (some ((⟨#[]⟩ : ByteArray), 0, false)) else (grd (i64 (p1 + 1)) (grd (i64 (p1 + 1)) (grd (i64 ((p1 + 1) + (IntKind.i64.wrap x2))) (grd ((0 : Int) ≤ p1 + 1 ∧ p1 + 1 ≤ (p1 + 1) + (IntKind.i64.wrap x2) ∧ (p1 + 1) + (IntKind.i64.wrap x2) ≤ (p0.length : Int)) (bnd1 (s_Fold (strOfNums ((p0.drop (p1 + 1).toNat).take (((p1 + 1) + (IntKind.i64.wrap x2)).toNat - (p1 + 1).toNat)))) (fun x9 => bnd1 (s_LabelOk x9) (fun x11 => bif !x11 then (some ((⟨#[]⟩ : ByteArray), 0, false)) else (grd (i64 (p1 + 1)) (grd (i64 ((p1 + 1) + (IntKind.i64.wrap x2))) (some (x9, ((p1 + 1) + (IntKind.i64.wrap x2)), true)))))))))))
def s_GetLabel_j0 (p0 : List Int) (p1 : Int) (j0_0 : Bool) : Option (ByteArray × Int × Bool) :=
  bif j0_0 then (some ((⟨#[]⟩ : ByteArray), 0, false)) else (bnd1 (idx p0 p1) (fun x2 => bnd1 (s_l1In (IntKind.i64.wrap x2) 1 12) (fun x4 => bif !x4 then (s_GetLabel_j1 p0 p1 x2 true) else (grd (i64 ((p0.length : Int) - p1)) (grd (i64 (((p0.length : Int) - p1) - 1)) (s_GetLabel_j1 p0 p1 x2 (decide (((p0.length : Int) - p1) - 1 < IntKind.i64.wrap x2))))))))
def s_GetLabel (p0 : List Int) (p1 : Int) : Option (ByteArray × Int × Bool) :=
  bif decide (p1 < 0) then (s_GetLabel_j0 p0 p1 true) else (s_GetLabel_j0 p0 p1 (decide ((p0.length : Int) ≤ p1)))
/- spec.l4Walk -/
def s_l4Walk_j2 (v0_1 : ByteArray) (v0_4 : Int) (j2_0 : Int) : Option (ByteArray × Int × Int × Int) :=
  some (v0_1, j2_0, 0, v0_4)
def s_l4Walk_j3 (v0_1 : ByteArray) (v0_4 : Int) (x2 : Int) (x13 : Int) (k0 : Int → ByteArray → Int → Int → Int → Option (ByteArray × Int × Int × Int)) (j3_0 : Int) : Option (ByteArray × Int × Int × Int) :=
  grd (i64 (v0_4 + 1)) (k0 ((256 * ((IntKind.i64.wrap x2) - 192)) + (IntKind.i64.wrap x13)) v0_1 j3_0 ((256 * ((IntKind.i64.wrap x2) - 192)) + (IntKind.i64.wrap x13)) (v0_4 + 1))
def s_l4Walk_j5 (v0_2 : Int) (v0_3 : Int) (v0_4 : Int) (x20 : ByteArray) (x21 : Int) (k0 : Int → ByteArray → Int → Int → Int → Option (ByteArray × Int × Int × Int)) (j5_0 : ByteArray) : Option (ByteArray × Int × Int × Int) :=
  grd (j5_0.size + x20.size ≤ 9223372036854775807) (bnd1 (s_NameOk (j5_0 ++ x20)) (fun x26 => bif !x26 then (some ((⟨#[]⟩ : ByteArray), 0, 4, v0_4)) else (k0 x21 (j5_0 ++ x20) v0_2 v0_3 v0_4)))
def s_l4Walk_j4 (p0 : List Int) (v0_0 : Int) (v0_1 : ByteArray) (v0_2 : Int) (v0_3 : Int) (v0_4 : Int) (k0 : Int → ByteArray → Int → Int → Int → Option (ByteArray × Int × Int × Int)) (j4_0 : Bool) : Option (ByteArray × Int × Int × Int) :=
  bif j4_0 then (some ((⟨#[]⟩ : ByteArray), 0, 1, v0_4)) else (bnd3 (s_GetLabel p0 v0_0) (fun x20 x21 x22 => bif !x22 then (some ((⟨#[]⟩ : ByteArray), 0, 2, v0_4)) else (bif !decide (v0_1 = (⟨#[]⟩ : ByteArray)) then (grd (v0_1.size + (⟨#[46]⟩ : ByteArray).size ≤ 9223372036854775807) (s_l4Walk_j5 v0_2 v0_3 v0_4 x20 x21 (k0) (v0_1 ++ (⟨#[46]⟩ : ByteArray)))) else (s_l4Walk_j5 v0_2 v0_3 v0_4 x20 x21 (k0) v0_1))))
def s_l4Walk_j1 (p0 : List Int) (v0_0 : Int) (v0_1 : ByteArray) (v0_2 : Int) (v0_3 : Int) (v0_4 : Int) (k0 : Int → ByteArray → Int → Int → Int → Option (ByteArray × Int × Int × Int)) (j1_0 : Bool) : Option (ByteArray × Int × Int × Int) :=
  bif j1_0 then (some ((⟨#[]⟩ : ByteArray), 0, 1, v0_4)) else (bnd1 (idx p0 v0_0) (fun x2 => bif decide (IntKind.i64.wrap x2 = 0) then (bif decide (v0_2 < 0) then (grd (i64 (v0_0 + 1)) (s_l4Walk_j2 v0_1 v0_4 (v0_0 + 1))) else (s_l4Walk_j2 v0_1 v0_4 v0_2)) else (bif decide (192 ≤ IntKind.i64.wrap x2) then (grd (i64 (v0_0 + 1)) (bif decide ((p0.length : Int) ≤ v0_0 + 1) then (some ((⟨#[]⟩ : ByteArray), 0, 1, v0_4)) else (grd (i64 ((IntKind.i64.wrap x2) - 192)) (grd (i64 (256 * ((IntKind.i64.wrap x2) - 192))) (grd (i64 (v0_0 + 1)) (bnd1 (idx p0 (v0_0 + 1)) (fun x13 => grd (i64 ((256 * ((IntKind.i64.wrap x2) - 192)) + (IntKind.i64.wrap x13))) (bif decide (v0_3 ≤ (256 * ((IntKind.i64.wrap x2) - 192)) + (IntKind.i64.wrap x13)) then (some ((⟨#[]⟩ : ByteArray), 0, 3, v0_4)) else (bif decide (v0_2 < 0) then (grd (i64 (v0_0 + 2)) (s_l4Walk_j3 v0_1 v0_4 x2 x13 (k0) (v0_0 + 2))) else (s_l4Walk_j3 v0_1 v0_4 x2 x13 (k0) v0_2)))))))))) else (bif decide (IntKind.i64.wrap x2 ≤ 12) then (grd (i64 ((p0.length : Int) - v0_0)) (grd (i64 (((p0.length : Int) - v0_0) - 1)) (s_l4Walk_j4 p0 v0_0 v0_1 v0_2 v0_3 v0_4 (k0) (decide (((p0.length : Int) - v0_0) - 1 < IntKind.i64.wrap x2))))) else (s_l4Walk_j4 p0 v0_0 v0_1 v0_2 v0_3 v0_4 (k0) false)))))
def s_l4Walk_l0 (p0 : List Int) : Nat → Int → ByteArray → Int → Int → Int → Option (ByteArray × Int × Int × Int)
  | 0, _, _, _, _, _ => none
  | f0 + 1, v0_0, v0_1, v0_2, v0_3, v0_4 => bif decide (v0_0 < 0) then (s_l4Walk_j1 p0 v0_0 v0_1 v0_2 v0_3 v0_4 (s_l4Walk_l0 p0 f0) true) else (s_l4Walk_j1 p0 v0_0 v0_1 v0_2 v0_3 v0_4 (s_l4Walk_l0 p0 f0) (decide ((p0.length : Int) ≤ v0_0)))
def s_l4Walk (p0 : List Int) (p1 : Int) : Option (ByteArray × Int × Int × Int) :=
  s_l4Walk_l0 p0 fuel0 p1 (⟨#[]⟩ : ByteArray) (-1) p1 0
/- spec.GetName -/
def s_GetName (p0 : List Int) (p1 : Int) : Option (ByteArray × Int × Int) :=
  bnd4 (s_l4Walk p0 p1) (fun x1 x2 x3 x4 => some (x1, x2, x3))
/- spec.PlaceOf -/
def s_PlaceOf_j2 (v0_0 : Int) (k0 : Int → Option Int) (j2_0 : Bool) : Option Int :=
  bif j2_0 then (some v0_0) else (grd (i64 (v0_0 + 1)) (k0 (v0_0 + 1)))
def s_PlaceOf_j1 (p0 : List Int) (p1 : ByteArray) (v0_0 : Int) (k0 : Int → Option Int) (j1_0 : Bool) : Option Int :=
  bif j1_0 then (bnd3 (s_GetName p0 v0_0) (fun x2 x3 x4 => bif decide (x4 = 0) then (s_PlaceOf_j2 v0_0 (k0) (decide (x2 = p1))) else (s_PlaceOf_j2 v0_0 (k0) false))) else (some (-1))
def s_PlaceOf_l0 (p0 : List Int) (p1 : ByteArray) : Nat → Int → Option Int
  | 0, _ => none
  | f0 + 1, v0_0 => bif decide (v0_0 < (p0.length : Int)) then (s_PlaceOf_j1 p0 p1 v0_0 (s_PlaceOf_l0 p0 p1 f0) (decide (v0_0 ≤ 16383))) else (s_PlaceOf_j1 p0 p1 v0_0 (s_PlaceOf_l0 p0 p1 f0) false)
def s_PlaceOf (p0 : List Int) (p1 : ByteArray) : Option Int :=
  s_PlaceOf_l0 p0 p1 fuel0 0
/- spec.PutLabel -/
def s_PutLabel (p0 : List Int) (p1 : ByteArray) : Option (List Int) :=
  grd ((([] : List Int) ++ p0).length ≤ 1099511627776) (bnd1 (s_LabelOk p1) (fun x2 => bif !x2 then (some (([] : List Int) ++ p0)) else (grd (((([] : List Int) ++ p0) ++ [IntKind.u8.wrap (p1.size : Int)]).length ≤ 1099511627776) (grd ((((([] : List Int) ++ p0) ++ [IntKind.u8.wrap (p1.size : Int)]) ++ (bytesOf p1)).length ≤ 1099511627776) (some (((([] : List Int) ++ p0) ++ [IntKind.u8.wrap (p1.size : Int)]) ++ (bytesOf p1)))))))
/- spec.PutName -/
def s_PutName_j0  (j0_0 : List Int) : Option (List Int) :=
  grd ((j0_0 ++ [0]).length ≤ 1099511627776) (some (j0_0 ++ [0]))
def s_PutName_l1 (p0 : List Int) (x5 : List ByteArray) : List ByteArray → (List Int) → Nat → Option (List Int)
  | [], v1_0, v1_1 => s_PutName_j0 v1_0
  | e1 :: rs1, v1_0, v1_1 => bnd1 (idx x5 (v1_1 : Int)) (fun x10 => bnd1 (s_PlaceOf p0 x10) (fun x12 => bif decide (0 ≤ x12) then (grd (i64 (192 + (IntKind.i64.wrap (Int.tdiv x12 256)))) (grd ((v1_0 ++ [IntKind.u8.wrap (192 + (IntKind.i64.wrap (Int.tdiv x12 256))), IntKind.u8.wrap (Int.tmod x12 256)]).length ≤ 1099511627776) (some (v1_0 ++ [IntKind.u8.wrap (192 + (IntKind.i64.wrap (Int.tdiv x12 256))), IntKind.u8.wrap (Int.tmod x12 256)])))) else (bnd1 (s_PutLabel v1_0 e1) (fun x17 => s_PutName_l1 p0 x5 rs1 x17 (v1_1 + 1)))))
def s_PutName (p0 : List Int) (p1 : ByteArray) : Option (List Int) :=
  grd ((([] : List Int) ++ p0).length ≤ 1099511627776) (bnd1 (s_NameOk p1) (fun x2 => bif !x2 then (some (([] : List Int) ++ p0)) else (bnd1 (s_Above p1) (fun x5 => bnd1 (s_Labels p1) (fun x7 => s_PutName_l1 p0 x5 x7 (([] : List Int) ++ p0) 0)))))
/- spec.Put4 -/
def s_Put4 (p0 : List Int) (p1 : Int) : Option (List Int) :=
  grd ((([] : List Int) ++ p0).length ≤ 1099511627776) (bnd1 (s_l1In p1 0 2147483647) (fun x2 => bif !x2 then (some (([] : List Int) ++ p0)) else (grd (((([] : List Int) ++ p0) ++ [IntKind.u8.wrap (ishr .i64 p1 24), IntKind.u8.wrap (iand .i64 (ishr .i64 p1 16) 255), IntKind.u8.wrap (iand .i64 (ishr .i64 p1 8) 255), IntKind.u8.wrap (iand .i64 p1 255)]).length ≤ 1099511627776) (some ((([] : List Int) ++ p0) ++ [IntKind.u8.wrap (ishr .i64 p1 24), IntKind.u8.wrap (iand .i64 (ishr .i64 p1 16) 255), IntKind.u8.wrap (iand .i64 (ishr .i64 p1 8) 255), IntKind.u8.wrap (iand .i64 p1 255)])))))
/- spec.PutPlain -/
def s_PutPlain_j0  (j0_0 : List Int) : Option (List Int) :=
  grd ((j0_0 ++ [0]).length ≤ 1099511627776) (some (j0_0 ++ [0]))
def s_PutPlain_l1  : List ByteArray → (List Int) → Nat → Option (List Int)
  | [], v1_0, v1_1 => s_PutPlain_j0 v1_0
  | e1 :: rs1, v1_0, v1_1 => bnd1 (s_PutLabel v1_0 e1) (fun x8 => s_PutPlain_l1 rs1 x8 (v1_1 + 1))
def s_PutPlain (p0 : List Int) (p1 : ByteArray) : Option (List Int) :=
  grd ((([] : List Int) ++ p0).length ≤ 1099511627776) (bnd1 (s_NameOk p1) (fun x2 => bif !x2 then (some (([] : List Int) ++ p0)) else (bnd1 (s_Labels p1) (fun x5 => s_PutPlain_l1 x5 (([] : List Int) ++ p0) 0))))
/- spec.PutData -/
def s_PutData (p0 : Rec) : Option (List Int) :=
  bnd1 (s_RecordOk p0) (fun x1 => bif !x1 then (some ([] : List Int)) else (bif decide (p0.ty = 1) then (bnd1 (s_Put4 ([] : List Int) p0.n) (fun x5 => some x5)) else (bif decide (p0.ty = 6) then (bnd1 (s_PutPlain ([] : List Int) p0.host) (fun x8 => bnd1 (s_Put4 x8 p0.n) (fun x10 => some x10))) else (bif decide (p0.ty = 16) then (grd (([IntKind.u8.wrap (p0.text.size : Int)] ++ (bytesOf p0.text)).length ≤ 1099511627776) (some ([IntKind.u8.wrap (p0.text.size : Int)] ++ (bytesOf p0.text)))) else (bnd1 (s_PutPlain ([] : List Int) p0.host) (fun x14 => some x14))))))
/- spec.PutRecord -/
def s_PutRecord (p0 : List Int) (p1 : Rec) : Option (List Int) :=
  bnd1 (s_RecordOk p1) (fun x1 => bif !x1 then (grd ((([] : List Int) ++ p0).length ≤ 1099511627776) (some (([] : List Int) ++ p0))) else (bnd1 (s_PutName p0 p1.name) (fun x5 => bnd1 (s_Put2 x5 p1.ty) (fun x7 => bnd1 (s_Put2 x7 1) (fun x9 => bnd1 (s_Put4 x9 p1.ttl) (fun x11 => bnd1 (s_PutData p1) (fun x13 => bnd1 (s_Put2 x11 (x13.length : Int)) (fun x15 => grd ((x15 ++ x13).length ≤ 1099511627776) (some (x15 ++ x13))))))))))
/- spec.PutRecords -/
def s_PutRecords_l0  : List Rec → (List Int) → Nat → Option (List Int)
  | [], v0_0, v0_1 => some v0_0
  | e0 :: rs0, v0_0, v0_1 => bnd1 (s_PutRecord v0_0 e0) (fun x3 => s_PutRecords_l0 rs0 x3 (v0_1 + 1))
def s_PutRecords (p0 : List Int) (p1 : List Rec) : Option (List Int) :=
  grd ((([] : List Int) ++ p0).length ≤ 1099511627776) (s_PutRecords_l0 p1 (([] : List Int) ++ p0) 0)
/- spec.PutMsg -/
def s_PutMsg (p0 : MMsg) : Option (List Int) :=
  bnd1 (s_MsgOk p0) (fun x1 => bif !x1 then (some ([] : List Int)) else (bnd1 (s_PutHead p0) (fun x4 => bnd1 (s_PutName x4 p0.q.name) (fun x6 => bnd1 (s_Put2 x6 p0.q.ty) (fun x8 => bnd1 (s_Put2 x8 1) (fun x10 => bnd1 (s_PutRecords x10 p0.an) (fun x12 => bnd1 (s_PutRecords x12 p0.au) (fun x14 => bnd1 (s_PutRecords x14 p0.ad) (fun x16 => bif decide (512 < (x16.length : Int)) then (some ([] : List Int)) else (some x16))))))))))
/- spec.SizeOf -/
def s_SizeOf (p0 : MMsg) : Option Int :=
  bnd1 (s_PutMsg p0) (fun x1 => some (x1.length : Int))
/- spec.Fits -/
def s_Fits (p0 : MMsg) : Option Bool :=
  bnd1 (s_SizeOf p0) (fun x1 => some (decide (0 < x1)))
/- stringslite.IndexByte -/
def internal_stringslite_IndexByte (p0 : ByteArray) (p1 : Int) : Option Int :=
  some (Lib.indexByte p0.data.toList p1.toNat.toUInt8)
/- stringslite.Index -/
def internal_stringslite_Index_j0 (p0 : ByteArray) (p1 : ByteArray) (j0_0 : Bool) : Option Int :=
  bif j0_0 then (some 0) else (bif decide ((p1.size : Int) = 1) then (bnd1 (sidx p1 0) (fun x3 => bnd1 (internal_stringslite_IndexByte p0 x3) (fun x5 => some x5))) else (bif decide ((p0.size : Int) ≤ (p1.size : Int)) then (some (-1)) else (none)))
def internal_stringslite_Index (p0 : ByteArray) (p1 : ByteArray) : Option Int :=
  bif decide ((p1.size : Int) = 0) then (internal_stringslite_Index_j0 p0 p1 true) else (internal_stringslite_Index_j0 p0 p1 (decide (p1 = p0)))
/- strings.Index -/
def strings_Index (p0 : ByteArray) (p1 : ByteArray) : Option Int :=
  bnd1 (internal_stringslite_Index p0 p1) (fun x1 => some x1)
/- strings.Count -/
def strings_Count_l0 (p1 : ByteArray) : Nat → ByteArray → Int → Option Int
  | 0, _, _ => none
  | f0 + 1, v0_0, v0_1 => bnd1 (strings_Index v0_0 p1) (fun x5 => bif decide (x5 = (-1)) then (some v0_1) else (grd (i64 (v0_1 + 1)) (grd (i64 (x5 + (p1.size : Int))) (grd (0 ≤ x5 + (p1.size : Int) ∧ x5 + (p1.size : Int) ≤ (v0_0.size : Int) ∧ (v0_0.size : Int) ≤ (v0_0.size : Int)) (strings_Count_l0 p1 f0 (v0_0.extract (x5 + (p1.size : Int)).toNat (v0_0.size : Int).toNat) (v0_1 + 1))))))
def strings_Count (p0 : ByteArray) (p1 : ByteArray) : Option Int :=
  bif decide ((p1.size : Int) = 0) then (none) else (bif decide ((p1.size : Int) = 1) then (bnd1 (sidx p1 0) (fun x3 => some (Lib.countByte p0.data.toList x3.toNat.toUInt8 : Int))) else (strings_Count_l0 p1 fuel0 p0 0))
/- strings.genSplit -/
def strings_genSplit_j1  (j1_0 : ByteArray) (j1_1 : List ByteArray) (j1_2 : Int) : Option (List ByteArray) :=
  bnd1 (idx j1_1 j1_2) (fun x6 => grd (i64 (j1_2 + 1)) (grd ((0 : Int) ≤ ((0 : Nat) : Int) ∧ ((0 : Nat) : Int) ≤ j1_2 + 1 ∧ j1_2 + 1 ≤ (j1_1.length : Int)) (some (((j1_1.set j1_2.toNat j1_0).drop (0 + ((0 : Nat) : Int).toNat)).take ((j1_2 + 1).toNat - ((0 : Nat) : Int).toNat)))))
def strings_genSplit_l2 (p0 : ByteArray) (p1 : ByteArray) (p2 : Int) (j0_0 : Int) : Nat → ByteArray → (List ByteArray) → Int → Option (List ByteArray)
  | 0, _, _, _ => none
  | f2 + 1, v2_0, v2_1, v2_2 => bif decide (v2_2 < (if (p0.size : Int) + 1 < j0_0 then (p0.size : Int) + 1 else j0_0) - 1) then (bnd1 (strings_Index v2_0 p1) (fun x7 => bif decide (x7 < 0) then (strings_genSplit_j1 v2_0 v2_1 v2_2) else (grd (i64 (x7 + p2)) (grd (0 ≤ ((0 : Nat) : Int) ∧ ((0 : Nat) : Int) ≤ x7 + p2 ∧ x7 + p2 ≤ (v2_0.size : Int)) (bnd1 (idx v2_1 v2_2) (fun x12 => grd (i64 (x7 + (p1.size : Int))) (grd (0 ≤ x7 + (p1.size : Int) ∧ x7 + (p1.size : Int) ≤ (v2_0.size : Int) ∧ (v2_0.size : Int) ≤ (v2_0.size : Int)) (grd (i64 (v2_2 + 1)) (strings_genSplit_l2 p0 p1 p2 j0_0 f2 (v2_0.extract (x7 + (p1.size : Int)).toNat (v2_0.size : Int).toNat) (v2_1.set v2_2.toNat (v2_0.extract ((0 : Nat) : Int).toNat (x7 + p2).toNat)) (v2_2 + 1)))))))))) else (strings_genSplit_j1 v2_0 v2_1 v2_2)
def strings_genSplit_j0 (p0 : ByteArray) (p1 : ByteArray) (p2 : Int) (j0_0 : Int) : Option (List ByteArray) :=
  grd (i64 ((p0.size : Int) + 1)) (grd (0 ≤ (if (p0.size : Int) + 1 < j0_0 then (p0.size : Int) + 1 else j0_0) ∧ (if (p0.size : Int) + 1 < j0_0 then (p0.size : Int) + 1 else j0_0).toNat ≤ 1099511627776) (grd (i64 ((if (p0.size : Int) + 1 < j0_0 then (p0.size : Int) + 1 else j0_0) - 1)) (strings_genSplit_l2 p0 p1 p2 j0_0 fuel0 p0 (List.replicate (if (p0.size : Int) + 1 < j0_0 then (p0.size : Int) + 1 else j0_0).toNat (⟨#[]⟩ : ByteArray)) 0)))
def strings_genSplit (p0 : ByteArray) (p1 : ByteArray) (p2 : Int) (p3 : Int) : Option (List ByteArray) :=
  bif decide (p3 = 0) then (some ([] : List ByteArray)) else (bif decide (p1 = (⟨#[]⟩ : ByteArray)) then (none) else (bif decide (p3 < 0) then (bnd1 (strings_Count p0 p1) (fun x4 => grd (i64 (x4 + 1)) (strings_genSplit_j0 p0 p1 p2 (x4 + 1)))) else (strings_genSplit_j0 p0 p1 p2 p3)))
/- strings.Split -/
def strings_Split (p0 : ByteArray) (p1 : ByteArray) : Option (List ByteArray) :=
  bnd1 (strings_genSplit p0 p1 0 (-1)) (fun x1 => some x1)
/- impl.Labels -/
def i_Labels (p0 : ByteArray) : Option (List ByteArray) :=
  bif decide (p0 = (⟨#[]⟩ : ByteArray)) then (some ([] : List ByteArray)) else (bnd1 (strings_Split p0 (⟨#[46]⟩ : ByteArray)) (fun x2 => some x2))
/- slices.IndexFunc[[]string,string] -/
def slices_IndexFunc_string_l0 (p1 : ByteArray → Option Bool) : List ByteArray → Nat → Option Int
  | [], v0_0 => some (-1)
  | e0 :: rs0, v0_0 => bnd1 (p1 e0) (fun x2 => bif x2 then (some (v0_0 : Int)) else (slices_IndexFunc_string_l0 p1 rs0 (v0_0 + 1)))
def slices_IndexFunc_string (p0 : List ByteArray) (p1 : ByteArray → Option Bool) : Option Int :=
  slices_IndexFunc_string_l0 p1 p0 0
/- slices.ContainsFunc[[]string,string] -/
def slices_ContainsFunc_string (p0 : List ByteArray) (p1 : ByteArray → Option Bool) : Option Bool :=
  bnd1 (slices_IndexFunc_string p0 p1) (fun x1 => some (decide (0 ≤ x1)))
/- impl.LabelOk -/
def i_LabelOk_j0 (p0 : ByteArray) : Option Bool :=
  bif decide (1 ≤ (p0.size : Int)) then (some (decide ((p0.size : Int) ≤ 12))) else (some false)
def i_LabelOk_j2 (v1_0 : Int) (k1 : Int → Option Bool) (j2_0 : Bool) : Option Bool :=
  bif j2_0 then (some false) else (grd (i64 (v1_0 + 1)) (k1 (v1_0 + 1)))
def i_LabelOk_l1 (p0 : ByteArray) : Nat → Int → Option Bool
  | 0, _ => none
  | f1 + 1, v1_0 => bif decide (v1_0 < (p0.size : Int)) then (bnd1 (sidx p0 v1_0) (fun x2 => bif decide (x2 < 97) then (bif decide (x2 < 48) then (bif !decide (x2 = 45) then (i_LabelOk_j2 v1_0 (i_LabelOk_l1 p0 f1) (!decide (x2 = 95))) else (i_LabelOk_j2 v1_0 (i_LabelOk_l1 p0 f1) false)) else (bif decide (57 < x2) then (bif !decide (x2 = 45) then (i_LabelOk_j2 v1_0 (i_LabelOk_l1 p0 f1) (!decide (x2 = 95))) else (i_LabelOk_j2 v1_0 (i_LabelOk_l1 p0 f1) false)) else (i_LabelOk_j2 v1_0 (i_LabelOk_l1 p0 f1) false))) else (bif decide (122 < x2) then (bif decide (x2 < 48) then (bif !decide (x2 = 45) then (i_LabelOk_j2 v1_0 (i_LabelOk_l1 p0 f1) (!decide (x2 = 95))) else (i_LabelOk_j2 v1_0 (i_LabelOk_l1 p0 f1) false)) else (bif decide (57 < x2) then (bif !decide (x2 = 45) then (i_LabelOk_j2 v1_0 (i_LabelOk_l1 p0 f1) (!decide (x2 = 95))) else (i_LabelOk_j2 v1_0 (i_LabelOk_l1 p0 f1) false)) else (i_LabelOk_j2 v1_0 (i_LabelOk_l1 p0 f1) false))) else (i_LabelOk_j2 v1_0 (i_LabelOk_l1 p0 f1) false)))) else (i_LabelOk_j0 p0)
def i_LabelOk (p0 : ByteArray) : Option Bool :=
  i_LabelOk_l1 p0 fuel0 0
/- impl.NameOk$1 -/
def i_NameOk_1 (p0 : ByteArray) : Option Bool :=
  bnd1 (i_LabelOk p0) (fun x1 => some (!x1))
/- impl.NameOk -/
def i_NameOk (p0 : ByteArray) : Option Bool :=
  bnd1 (i_Labels p0) (fun x1 => bif decide ((p0.size : Int) ≤ 50) then (bif decide ((x1.length : Int) ≤ 6) then (bnd1 (slices_ContainsFunc_string x1 (fun a0 => i_NameOk_1 a0)) (fun x5 => some (!x5))) else (some false)) else (some false))
/- impl.TypeText -/
def i_TypeText (p0 : Int) : Option ByteArray :=
  bif decide (p0 = 1) then (some (⟨#[97, 100, 100, 114]⟩ : ByteArray)) else (bif decide (p0 = 2) then (some (⟨#[115, 101, 114, 118, 101, 114]⟩ : ByteArray)) else (bif decide (p0 = 5) then (some (⟨#[97, 108, 105, 97, 115]⟩ : ByteArray)) else (bif decide (p0 = 6) then (some (⟨#[115, 116, 97, 114, 116]⟩ : ByteArray)) else (bif decide (p0 = 16) then (some (⟨#[116, 101, 120, 116]⟩ : ByteArray)) else (some (⟨#[]⟩ : ByteArray))))))
/- impl.TypeOk -/
def i_TypeOk (p0 : Int) : Option Bool :=
  bnd1 (i_TypeText p0) (fun x1 => some (!decide (x1 = (⟨#[]⟩ : ByteArray))))
/- impl.QuestOk -/
def i_QuestOk (p0 : Quest) : Option Bool :=
  bnd1 (i_NameOk p0.name) (fun x1 => bif x1 then (bnd1 (i_TypeOk p0.ty) (fun x4 => some x4)) else (some false))
/- impl.Record] -/
def slices_IndexFunc_Record_l0 (p1 : Rec → Option Bool) : List Rec → Nat → Option Int
  | [], v0_0 => some (-1)
  | e0 :: rs0, v0_0 => bnd1 (p1 e0) (fun x2 => bif x2 then (some (v0_0 : Int)) else (slices_IndexFunc_Record_l0 p1 rs0 (v0_0 + 1)))
def slices_IndexFunc_Record (p0 : List Rec) (p1 : Rec → Option Bool) : Option Int :=
  slices_IndexFunc_Record_l0 p1 p0 0
/- impl.Record] -/
def slices_ContainsFunc_Record (p0 : List Rec) (p1 : Rec → Option Bool) : Option Bool :=
  bnd1 (slices_IndexFunc_Record p0 p1) (fun x1 => some (decide (0 ≤ x1)))
/- impl.isTtl -/
def i_isTtl (p0 : Int) : Option Bool :=
  bif decide (0 ≤ p0) then (some (decide (p0 ≤ 100000))) else (some false)
/- impl.isFour -/
def i_isFour (p0 : Int) : Option Bool :=
  bif decide (0 ≤ p0) then (some (decide (p0 ≤ 2147483647))) else (some false)
/- impl.isText -/
def i_isText_j0 (p0 : ByteArray) : Option Bool :=
  some (decide ((p0.size : Int) ≤ 12))
def i_isText_j2 (v1_0 : Int) (k1 : Int → Option Bool) (j2_0 : Bool) : Option Bool :=
  bif j2_0 then (some false) else (grd (i64 (v1_0 + 1)) (k1 (v1_0 + 1)))
def i_isText_l1 (p0 : ByteArray) : Nat → Int → Option Bool
  | 0, _ => none
  | f1 + 1, v1_0 => bif decide (v1_0 < (p0.size : Int)) then (bnd1 (sidx p0 v1_0) (fun x2 => bif decide (x2 < 33) then (i_isText_j2 v1_0 (i_isText_l1 p0 f1) true) else (bnd1 (sidx p0 v1_0) (fun x5 => i_isText_j2 v1_0 (i_isText_l1 p0 f1) (decide (126 < x5)))))) else (i_isText_j0 p0)
def i_isText (p0 : ByteArray) : Option Bool :=
  i_isText_l1 p0 fuel0 0
/- impl.RecordOk -/
def i_RecordOk_j1 (p0 : Rec) (j1_0 : Bool) : Option Bool :=
  bif j1_0 then (bif decide (p0.n = 0) then (bnd1 (i_NameOk p0.host) (fun x9 => bif x9 then (some (decide (p0.text = (⟨#[]⟩ : ByteArray)))) else (some false))) else (some false)) else (bif decide (p0.ty = 6) then (bnd1 (i_isTtl p0.n) (fun x13 => bif x13 then (bnd1 (i_NameOk p0.host) (fun x16 => bif x16 then (some (decide (p0.text = (⟨#[]⟩ : ByteArray)))) else (some false))) else (some false))) else (bif decide (p0.ty = 16) then (bif decide (p0.n = 0) then (bif decide (p0.host = (⟨#[]⟩ : ByteArray)) then (bnd1 (i_isText p0.text) (fun x22 => some x22)) else (some false)) else (some false)) else (some false)))
def i_RecordOk_j0 (p0 : Rec) (j0_0 : Bool) : Option Bool :=
  bif j0_0 then (some false) else (bif decide (p0.ty = 1) then (bnd1 (i_isFour p0.n) (fun x3 => bif x3 then (bif decide (p0.host = (⟨#[]⟩ : ByteArray)) then (some (decide (p0.text = (⟨#[]⟩ : ByteArray)))) else (some false)) else (some false))) else (bif decide (p0.ty = 2) then (i_RecordOk_j1 p0 (decide (p0.ty = 2))) else (i_RecordOk_j1 p0 (decide (p0.ty = 5)))))
def i_RecordOk (p0 : Rec) : Option Bool :=
  bnd1 (i_NameOk p0.name) (fun x1 => bif !x1 then (i_RecordOk_j0 p0 true) else (bnd1 (i_isTtl p0.ttl) (fun x4 => i_RecordOk_j0 p0 (!x4))))
/- impl.allOk$1 -/
def i_allOk_1 (p0 : Rec) : Option Bool :=
  bnd1 (i_RecordOk p0) (fun x1 => some (!x1))
/- impl.allOk -/
def i_allOk (p0 : List Rec) (p1 : Int) : Option Bool :=
  bif decide ((p0.length : Int) ≤ p1) then (bnd1 (slices_ContainsFunc_Record p0 (fun a0 => i_allOk_1 a0)) (fun x2 => some (!x2))) else (some false)
/- impl.MsgOk -/
def i_MsgOk (p0 : MMsg) : Option Bool :=
  bif decide (0 ≤ p0.id) then (bif decide (p0.id ≤ 65535) then (bif decide (0 ≤ p0.code) then (bif decide (p0.code ≤ 15) then (bnd1 (i_QuestOk p0.q) (fun x5 => bif x5 then (bnd1 (i_allOk p0.an 8) (fun x8 => bif x8 then (bnd1 (i_allOk p0.au 8) (fun x11 => bif x11 then (bnd1 (i_allOk p0.ad 8) (fun x14 => some x14)) else (some false))) else (some false))) else (some false))) else (some false)) else (some false)) else (some false)) else (some false)
/- slices.Clone[[]byte,byte] -/
def slices_Clone_byte (p0 : List Int) : Option (List Int) :=
  grd ((([] : List Int) ++ p0).length ≤ 1099511627776) (some (([] : List Int) ++ p0))
/- impl.putBytes -/
def i_putBytes_l1 (p1 : Int) : Nat → (List Int) → Int → Option (List Int)
  | 0, _, _ => none
  | f1 + 1, v1_0, v1_1 => bif decide (0 ≤ v1_1) then (grd (i64 (8 * v1_1)) (grd (0 ≤ (8 * v1_1)) (grd ((v1_0 ++ [IntKind.u8.wrap (ishr .i64 p1 (8 * v1_1).toNat)]).length ≤ 1099511627776) (grd (i64 (v1_1 - 1)) (i_putBytes_l1 p1 f1 (v1_0 ++ [IntKind.u8.wrap (ishr .i64 p1 (8 * v1_1).toNat)]) (v1_1 - 1)))))) else (some v1_0)
def i_putBytes_j0 (p1 : Int) (p2 : Int) (x1 : List Int) (j0_0 : Bool) : Option (List Int) :=
  bif j0_0 then (some x1) else (grd (i64 (p2 - 1)) (i_putBytes_l1 p1 fuel0 x1 (p2 - 1)))
def i_putBytes (p0 : List Int) (p1 : Int) (p2 : Int) (p3 : Int) : Option (List Int) :=
  bnd1 (slices_Clone_byte p0) (fun x1 => bif decide (p1 < 0) then (i_putBytes_j0 p1 p2 x1 true) else (i_putBytes_j0 p1 p2 x1 (decide (p3 < p1))))
/- impl.Put2 -/
def i_Put2 (p0 : List Int) (p1 : Int) : Option (List Int) :=
  bnd1 (i_putBytes p0 p1 2 65535) (fun x1 => some x1)
/- impl.bit -/
def i_bit (p0 : Bool) (p1 : Int) : Option Int :=
  bif p0 then (some p1) else (some 0)
/- impl.PutHead -/
def i_PutHead_l0 (p0 : MMsg) : Nat → (List Int) → Int → Option (List Int)
  | 0, _, _ => none
  | f0 + 1, v0_0, v0_1 => bif decide (v0_1 < (3 : Int)) then (bnd1 (idx [p0.an, p0.au, p0.ad] v0_1) (fun x21 => bnd1 (i_Put2 v0_0 (x21.length : Int)) (fun x23 => grd (i64 (v0_1 + 1)) (i_PutHead_l0 p0 f0 x23 (v0_1 + 1))))) else (some v0_0)
def i_PutHead (p0 : MMsg) : Option (List Int) :=
  bnd1 (i_Put2 ([] : List Int) p0.id) (fun x1 => bnd1 (i_bit p0.reply 128) (fun x3 => bnd1 (i_bit p0.auth 4) (fun x5 => grd (i64 (x3 + x5)) (bnd1 (i_bit p0.cut 2) (fun x8 => grd (i64 ((x3 + x5) + x8)) (bnd1 (i_bit p0.want 1) (fun x11 => grd (i64 (((x3 + x5) + x8) + x11)) (bnd1 (i_bit p0.can 128) (fun x14 => grd (i64 (x14 + (iand .i64 p0.code 15))) (grd ((x1 ++ [IntKind.u8.wrap (((x3 + x5) + x8) + x11), IntKind.u8.wrap (x14 + (iand .i64 p0.code 15))]).length ≤ 1099511627776) (bnd1 (i_Put2 (x1 ++ [IntKind.u8.wrap (((x3 + x5) + x8) + x11), IntKind.u8.wrap (x14 + (iand .i64 p0.code 15))]) 1) (fun x18 => i_PutHead_l0 p0 fuel0 x18 0))))))))))))
/- strings.Join -/
def strings_Join (p0 : List ByteArray) (p1 : ByteArray) : Option ByteArray :=
  grd (p0.length ≤ 140737488355328 ∧ (Lib.join (p0.map (fun x => x.data.toList)) p1.data.toList).length ≤ 140737488355328) (some (joinB p0 p1))
/- impl.JoinLabels -/
def i_JoinLabels (p0 : List ByteArray) : Option ByteArray :=
  bnd1 (strings_Join p0 (⟨#[46]⟩ : ByteArray)) (fun x1 => some x1)
/- impl.Above -/
def i_Above_j0  (j0_0 : List ByteArray) : Option (List ByteArray) :=
  grd ((j0_0 ++ ([(⟨#[]⟩ : ByteArray)])).length ≤ 1099511627776) (some (j0_0 ++ ([(⟨#[]⟩ : ByteArray)])))
def i_Above_l1 (x1 : List ByteArray) : List ByteArray → (List ByteArray) → Nat → Option (List ByteArray)
  | [], v1_0, v1_1 => i_Above_j0 v1_0
  | e1 :: rs1, v1_0, v1_1 => grd ((0 : Int) ≤ (v1_1 : Int) ∧ (v1_1 : Int) ≤ (x1.length : Int) ∧ (x1.length : Int) ≤ (x1.length : Int)) (bnd1 (i_JoinLabels ((x1.drop (0 + (v1_1 : Int).toNat)).take ((x1.length : Int).toNat - (v1_1 : Int).toNat))) (fun x5 => grd ((v1_0 ++ [x5]).length ≤ 1099511627776) (i_Above_l1 x1 rs1 (v1_0 ++ [x5]) (v1_1 + 1))))
def i_Above (p0 : ByteArray) : Option (List ByteArray) :=
  bnd1 (i_Labels p0) (fun x1 => i_Above_l1 x1 x1 ([] : List ByteArray) 0)
/- impl.Fold -/
def i_Fold_j0  (j0_0 : List Int) : Option ByteArray :=
  some (strOfNums j0_0)
def i_Fold_j2 (v1_0 : List Int) (v1_1 : Nat) (x3 : Int) (k1 : (List Int) → Nat → Option ByteArray) (j2_0 : Bool) : Option ByteArray :=
  bif j2_0 then (k1 (v1_0.set ((v1_1 : Int).toNat) (IntKind.u8.wrap ((IntKind.u8.wrap (x3 + 97)) - 65))) (v1_1 + 1)) else (k1 v1_0 (v1_1 + 1))
def i_Fold_l1  : List Int → (List Int) → Nat → Option ByteArray
  | [], v1_0, v1_1 => i_Fold_j0 v1_0
  | e1 :: rs1, v1_0, v1_1 => bnd1 (idx v1_0 (v1_1 : Int)) (fun x3 => bif decide (65 ≤ x3) then (i_Fold_j2 v1_0 v1_1 x3 (i_Fold_l1 rs1) (decide (x3 ≤ 90))) else (i_Fold_j2 v1_0 v1_1 x3 (i_Fold_l1 rs1) false))
def i_Fold (p0 : ByteArray) : Option ByteArray :=
  grd (p0.size ≤ 1099511627776) (i_Fold_l1 (bytesOf p0) (bytesOf p0) 0)
/- impl.GetLabel -/
def i_GetLabel_j0 (p0 : List Int) (p1 : Int) (j0_0 : Bool) : Option (ByteArray × Int × Bool) :=
  bif j0_0 then (some ((⟨#[]⟩ : ByteArray), 0, false)) else (grd (i64 (p1 + 1)) (bnd1 (idx p0 p1) (fun x3 => grd (i64 ((p1 + 1) + (IntKind.i64.wrap x3))) (grd (i64 (p1 + 1)) (grd ((0 : Int) ≤ p1 + 1 ∧ p1 + 1 ≤ (p1 + 1) + (IntKind.i64.wrap x3) ∧ (p1 + 1) + (IntKind.i64.wrap x3) ≤ (p0.length : Int)) (bnd1 (i_Fold (strOfNums ((p0.drop (p1 + 1).toNat).take (((p1 + 1) + (IntKind.i64.wrap x3)).toNat - (p1 + 1).toNat)))) (fun x8 => bnd1 (i_LabelOk x8) (fun x10 => bif !x10 then (some ((⟨#[]⟩ : ByteArray), 0, false)) else (some (x8, ((p1 + 1) + (IntKind.i64.wrap x3)), true))))))))))
def i_GetLabel (p0 : List Int) (p1 : Int) : Option (ByteArray × Int × Bool) :=
  bif decide (p1 < 0) then (i_GetLabel_j0 p0 p1 true) else (bif decide ((p0.length : Int) ≤ p1) then (i_GetLabel_j0 p0 p1 true) else (bnd1 (idx p0 p1) (fun x3 => bif decide (12 < x3) then (i_GetLabel_j0 p0 p1 true) else (grd (i64 ((p0.length : Int) - p1)) (i_GetLabel_j0 p0 p1 (decide ((p0.length : Int) - p1 ≤ IntKind.i64.wrap x3)))))))
/- impl.read -/
def i_read_j2 (v0_0 : List ByteArray) (v0_3 : Int) (j2_0 : Int) : Option (ByteArray × Int × Int × Int) :=
  bnd1 (i_JoinLabels v0_0) (fun x5 => some (x5, j2_0, 0, v0_3))
def i_read_j3 (v0_0 : List ByteArray) (v0_3 : Int) (x2 : Int) (x13 : Int) (k0 : (List ByteArray) → Int → Int → Int → Int → Option (ByteArray × Int × Int × Int)) (j3_0 : Int) : Option (ByteArray × Int × Int × Int) :=
  grd (i64 (v0_3 + 1)) (k0 v0_0 j3_0 ((256 * ((IntKind.i64.wrap x2) - 192)) + (IntKind.i64.wrap x13)) (v0_3 + 1) ((256 * ((IntKind.i64.wrap x2) - 192)) + (IntKind.i64.wrap x13)))
def i_read_j1 (p0 : List Int) (v0_0 : List ByteArray) (v0_1 : Int) (v0_2 : Int) (v0_3 : Int) (v0_4 : Int) (k0 : (List ByteArray) → Int → Int → Int → Int → Option (ByteArray × Int × Int × Int)) (j1_0 : Bool) : Option (ByteArray × Int × Int × Int) :=
  bif j1_0 then (some ((⟨#[]⟩ : ByteArray), 0, 1, v0_3)) else (bnd1 (idx p0 v0_4) (fun x2 => bif decide (IntKind.i64.wrap x2 = 0) then (bif decide (v0_1 < 0) then (grd (i64 (v0_4 + 1)) (i_read_j2 v0_0 v0_3 (v0_4 + 1))) else (i_read_j2 v0_0 v0_3 v0_1)) else (bif decide (192 ≤ IntKind.i64.wrap x2) then (grd (i64 (v0_4 + 1)) (bif decide ((p0.length : Int) ≤ v0_4 + 1) then (some ((⟨#[]⟩ : ByteArray), 0, 1, v0_3)) else (grd (i64 ((IntKind.i64.wrap x2) - 192)) (grd (i64 (256 * ((IntKind.i64.wrap x2) - 192))) (grd (i64 (v0_4 + 1)) (bnd1 (idx p0 (v0_4 + 1)) (fun x13 => grd (i64 ((256 * ((IntKind.i64.wrap x2) - 192)) + (IntKind.i64.wrap x13))) (bif decide (v0_2 ≤ (256 * ((IntKind.i64.wrap x2) - 192)) + (IntKind.i64.wrap x13)) then (some ((⟨#[]⟩ : ByteArray), 0, 3, v0_3)) else (bif decide (v0_1 < 0) then (grd (i64 (v0_4 + 2)) (i_read_j3 v0_0 v0_3 x2 x13 (k0) (v0_4 + 2))) else (i_read_j3 v0_0 v0_3 x2 x13 (k0) v0_1)))))))))) else (bif decide (12 < IntKind.i64.wrap x2) then (some ((⟨#[]⟩ : ByteArray), 0, 2, v0_3)) else (grd (i64 ((p0.length : Int) - v0_4)) (bif decide ((p0.length : Int) - v0_4 ≤ IntKind.i64.wrap x2) then (some ((⟨#[]⟩ : ByteArray), 0, 1, v0_3)) else (bnd3 (i_GetLabel p0 v0_4) (fun x22 x23 x24 => bif !x24 then (some ((⟨#[]⟩ : ByteArray), 0, 2, v0_3)) else (grd ((v0_0 ++ [x22]).length ≤ 1099511627776) (bnd1 (i_JoinLabels (v0_0 ++ [x22])) (fun x28 => bnd1 (i_NameOk x28) (fun x30 => bif !x30 then (some ((⟨#[]⟩ : ByteArray), 0, 4, v0_3)) else (k0 (v0_0 ++ [x22]) v0_1 v0_2 v0_3 x23)))))))))))))
def i_read_l0 (p0 : List Int) : Nat → (List ByteArray) → Int → Int → Int → Int → Option (ByteArray × Int × Int × Int)
  | 0, _, _, _, _, _ => none
  | f0 + 1, v0_0, v0_1, v0_2, v0_3, v0_4 => bif decide (v0_4 < 0) then (i_read_j1 p0 v0_0 v0_1 v0_2 v0_3 v0_4 (i_read_l0 p0 f0) true) else (i_read_j1 p0 v0_0 v0_1 v0_2 v0_3 v0_4 (i_read_l0 p0 f0) (decide ((p0.length : Int) ≤ v0_4)))
def i_read (p0 : List Int) (p1 : Int) : Option (ByteArray × Int × Int × Int) :=
  i_read_l0 p0 fuel0 ([] : List ByteArray) (-1) p1 0 p1
/- impl.GetName -/
def i_GetName (p0 : List Int) (p1 : Int) : Option (ByteArray × Int × Int) :=
  bnd4 (i_read p0 p1) (fun x1 x2 x3 x4 => some (x1, x2, x3))
/- impl.PlaceOf -/
def i_PlaceOf_j2 (v0_0 : Int) (k0 : Int → Option Int) (j2_0 : Bool) : Option Int :=
  bif j2_0 then (some v0_0) else (grd (i64 (v0_0 + 1)) (k0 (v0_0 + 1)))
def i_PlaceOf_j1 (p0 : List Int) (p1 : ByteArray) (v0_0 : Int) (k0 : Int → Option Int) (j1_0 : Bool) : Option Int :=
  bif j1_0 then (bnd3 (i_GetName p0 v0_0) (fun x2 x3 x4 => bif decide (x4 = 0) then (i_PlaceOf_j2 v0_0 (k0) (decide (x2 = p1))) else (i_PlaceOf_j2 v0_0 (k0) false))) else (some (-1))
def i_PlaceOf_l0 (p0 : List Int) (p1 : ByteArray) : Nat → Int → Option Int
  | 0, _ => none
  | f0 + 1, v0_0 => bif decide (v0_0 < (p0.length : Int)) then (i_PlaceOf_j1 p0 p1 v0_0 (i_PlaceOf_l0 p0 p1 f0) (decide (v0_0 ≤ 16383))) else (i_PlaceOf_j1 p0 p1 v0_0 (i_PlaceOf_l0 p0 p1 f0) false)
def i_PlaceOf (p0 : List Int) (p1 : ByteArray) : Option Int :=
  i_PlaceOf_l0 p0 p1 fuel0 0
/- impl.PutLabel -/
def i_PutLabel (p0 : List Int) (p1 : ByteArray) : Option (List Int) :=
  bnd1 (slices_Clone_byte p0) (fun x1 => bnd1 (i_LabelOk p1) (fun x3 => bif !x3 then (some x1) else (grd ((x1 ++ [IntKind.u8.wrap (p1.size : Int)]).length ≤ 1099511627776) (grd (((x1 ++ [IntKind.u8.wrap (p1.size : Int)]) ++ (bytesOf p1)).length ≤ 1099511627776) (some ((x1 ++ [IntKind.u8.wrap (p1.size : Int)]) ++ (bytesOf p1)))))))
/- impl.PutPlain -/
def i_PutPlain_j0  (j0_0 : List Int) : Option (List Int) :=
  grd ((j0_0 ++ [0]).length ≤ 1099511627776) (some (j0_0 ++ [0]))
def i_PutPlain_l1  : List ByteArray → (List Int) → Nat → Option (List Int)
  | [], v1_0, v1_1 => i_PutPlain_j0 v1_0
  | e1 :: rs1, v1_0, v1_1 => bnd1 (i_PutLabel v1_0 e1) (fun x9 => i_PutPlain_l1 rs1 x9 (v1_1 + 1))
def i_PutPlain (p0 : List Int) (p1 : ByteArray) : Option (List Int) :=
  bnd1 (slices_Clone_byte p0) (fun x1 => bnd1 (i_NameOk p1) (fun x3 => bif !x3 then (some x1) else (bnd1 (i_Labels p1) (fun x6 => i_PutPlain_l1 x6 x1 0))))
/- impl.PutName -/
def i_PutName_j0 (p0 : List Int) (p1 : ByteArray) : Option (List Int) :=
  bnd1 (i_PutPlain p0 p1) (fun x8 => some x8)
def i_PutName_j3 (x11 : Int) (j3_0 : List Int) : Option (List Int) :=
  grd (i64 (192 + (IntKind.i64.wrap (Int.tdiv x11 256)))) (grd ((j3_0 ++ [IntKind.u8.wrap (192 + (IntKind.i64.wrap (Int.tdiv x11 256))), IntKind.u8.wrap (Int.tmod x11 256)]).length ≤ 1099511627776) (some (j3_0 ++ [IntKind.u8.wrap (192 + (IntKind.i64.wrap (Int.tdiv x11 256))), IntKind.u8.wrap (Int.tmod x11 256)])))
def i_PutName_l4 (x6 : List ByteArray) (v1_0 : Nat) (x11 : Int) : Nat → (List Int) → Int → Option (List Int)
  | 0, _, _ => none
  | f4 + 1, v4_0, v4_1 => bif decide (v4_1 < (((v1_0 : Int).toNat - ((0 : Nat) : Int).toNat) : Int)) then (bnd1 (idx ((x6.drop (0 + ((0 : Nat) : Int).toNat)).take ((v1_0 : Int).toNat - ((0 : Nat) : Int).toNat)) v4_1) (fun x16 => bnd1 (i_PutLabel v4_0 x16) (fun x18 => grd (i64 (v4_1 + 1)) (i_PutName_l4 x6 v1_0 x11 f4 x18 (v4_1 + 1))))) else (i_PutName_j3 x11 v4_0)
def i_PutName_j2 (x1 : List Int) (x6 : List ByteArray) (v1_0 : Nat) (x11 : Int) (k1 : Nat → Option (List Int)) (j2_0 : Bool) : Option (List Int) :=
  bif j2_0 then (k1 (v1_0 + 1)) else (grd ((0 : Int) ≤ ((0 : Nat) : Int) ∧ ((0 : Nat) : Int) ≤ (v1_0 : Int) ∧ (v1_0 : Int) ≤ (x6.length : Int)) (i_PutName_l4 x6 v1_0 x11 fuel0 x1 0))
def i_PutName_l1 (p0 : List Int) (p1 : ByteArray) (x1 : List Int) (x6 : List ByteArray) : List ByteArray → Nat → Option (List Int)
  | [], v1_0 => i_PutName_j0 p0 p1
  | e1 :: rs1, v1_0 => bnd1 (i_PlaceOf p0 e1) (fun x11 => bif decide (e1 = (⟨#[]⟩ : ByteArray)) then (i_PutName_j2 x1 x6 v1_0 x11 (i_PutName_l1 p0 p1 x1 x6 rs1) true) else (i_PutName_j2 x1 x6 v1_0 x11 (i_PutName_l1 p0 p1 x1 x6 rs1) (decide (x11 < 0))))
def i_PutName (p0 : List Int) (p1 : ByteArray) : Option (List Int) :=
  bnd1 (slices_Clone_byte p0) (fun x1 => bnd1 (i_NameOk p1) (fun x3 => bif !x3 then (some x1) else (bnd1 (i_Labels p1) (fun x6 => bnd1 (i_Above p1) (fun x8 => i_PutName_l1 p0 p1 x1 x6 x8 0)))))
/- impl.Put4 -/
def i_Put4 (p0 : List Int) (p1 : Int) : Option (List Int) :=
  bnd1 (i_putBytes p0 p1 4 2147483647) (fun x1 => some x1)
/- impl.PutData -/
def i_PutData_j0 (p0 : Rec) (j0_0 : Bool) : Option (List Int) :=
  bif j0_0 then (bnd1 (i_PutPlain ([] : List Int) p0.host) (fun x8 => some x8)) else (bif decide (p0.ty = 6) then (bnd1 (i_PutPlain ([] : List Int) p0.host) (fun x11 => bnd1 (i_Put4 x11 p0.n) (fun x13 => some x13))) else (grd (([IntKind.u8.wrap (p0.text.size : Int)] ++ (bytesOf p0.text)).length ≤ 1099511627776) (some ([IntKind.u8.wrap (p0.text.size : Int)] ++ (bytesOf p0.text)))))
def i_PutData (p0 : Rec) : Option (List Int) :=
  bnd1 (i_RecordOk p0) (fun x1 => bif !x1 then (some ([] : List Int)) else (bif decide (p0.ty = 1) then (bnd1 (i_Put4 ([] : List Int) p0.n) (fun x5 => some x5)) else (bif decide (p0.ty = 2) then (i_PutData_j0 p0 (decide (p0.ty = 2))) else (i_PutData_j0 p0 (decide (p0.ty = 5))))))
/- impl.PutRecord -/
def i_PutRecord (p0 : List Int) (p1 : Rec) : Option (List Int) :=
  grd ((([] : List Int) ++ p0).length ≤ 1099511627776) (bnd1 (i_RecordOk p1) (fun x2 => bif !x2 then (some (([] : List Int) ++ p0)) else (bnd1 (i_PutData p1) (fun x5 => bnd1 (i_PutName (([] : List Int) ++ p0) p1.name) (fun x7 => bnd1 (i_Put2 x7 p1.ty) (fun x9 => bnd1 (i_Put2 x9 1) (fun x11 => bnd1 (i_Put4 x11 p1.ttl) (fun x13 => bnd1 (i_Put2 x13 (x5.length : Int)) (fun x15 => grd ((x15 ++ x5).length ≤ 1099511627776) (some (x15 ++ x5)))))))))))
/- impl.PutRecords -/
def i_PutRecords_l0  : List Rec → (List Int) → Nat → Option (List Int)
  | [], v0_0, v0_1 => some v0_0
  | e0 :: rs0, v0_0, v0_1 => bnd1 (i_PutRecord v0_0 e0) (fun x3 => i_PutRecords_l0 rs0 x3 (v0_1 + 1))
def i_PutRecords (p0 : List Int) (p1 : List Rec) : Option (List Int) :=
  grd ((([] : List Int) ++ p0).length ≤ 1099511627776) (i_PutRecords_l0 p1 (([] : List Int) ++ p0) 0)
/- impl.PutMsg -/
def i_PutMsg_j0  (j0_0 : List Int) : Option (List Int) :=
  bif decide (512 < (j0_0.length : Int)) then (some ([] : List Int)) else (some j0_0)
def i_PutMsg_l1 (p0 : MMsg) : Nat → (List Int) → Int → Option (List Int)
  | 0, _, _ => none
  | f1 + 1, v1_0, v1_1 => bif decide (v1_1 < (3 : Int)) then (bnd1 (idx [p0.an, p0.au, p0.ad] v1_1) (fun x13 => bnd1 (i_PutRecords v1_0 x13) (fun x15 => grd (i64 (v1_1 + 1)) (i_PutMsg_l1 p0 f1 x15 (v1_1 + 1))))) else (i_PutMsg_j0 v1_0)
def i_PutMsg (p0 : MMsg) : Option (List Int) :=
  bnd1 (i_MsgOk p0) (fun x1 => bif !x1 then (some ([] : List Int)) else (bnd1 (i_PutHead p0) (fun x4 => bnd1 (i_PutName x4 p0.q.name) (fun x6 => bnd1 (i_Put2 x6 p0.q.ty) (fun x8 => bnd1 (i_Put2 x8 1) (fun x10 => i_PutMsg_l1 p0 fuel0 x10 0))))))
/- impl.SizeOf -/
def i_SizeOf (p0 : MMsg) : Option Int :=
  bnd1 (i_PutMsg p0) (fun x1 => some (x1.length : Int))
/- impl.Fits -/
def i_Fits (p0 : MMsg) : Option Bool :=
  bnd1 (i_SizeOf p0) (fun x1 => some (decide (0 < x1)))
/- laws.eqQuest -/
def w_eqQuest (p0 : Quest) (p1 : Quest) : Option Bool :=
  bif !decide (p0.name = p1.name) then (some false) else (bif !decide (p0.ty = p1.ty) then (some false) else (some true))
/- laws.eqRecord -/
def w_eqRecord (p0 : Rec) (p1 : Rec) : Option Bool :=
  bif !decide (p0.name = p1.name) then (some false) else (bif !decide (p0.ty = p1.ty) then (some false) else (bif !decide (p0.ttl = p1.ttl) then (some false) else (bif !decide (p0.n = p1.n) then (some false) else (bif !decide (p0.host = p1.host) then (some false) else (bif !decide (p0.text = p1.text) then (some false) else (some true))))))
/- laws.eqRecordS -/
def w_eqRecordS_l0 (p1 : List Rec) : List Rec → Nat → Option Bool
  | [], v0_0 => some true
  | e0 :: rs0, v0_0 => bnd1 (idx p1 (v0_0 : Int)) (fun x3 => bnd1 (w_eqRecord e0 x3) (fun x5 => bif !x5 then (some false) else (w_eqRecordS_l0 p1 rs0 (v0_0 + 1))))
def w_eqRecordS (p0 : List Rec) (p1 : List Rec) : Option Bool :=
  bif !decide ((p0.length : Int) = (p1.length : Int)) then (some false) else (w_eqRecordS_l0 p1 p0 0)
/- laws.eqMsg -/
def w_eqMsg (p0 : MMsg) (p1 : MMsg) : Option Bool :=
  bif !decide (p0.id = p1.id) then (some false) else (bif !(p0.reply == p1.reply) then (some false) else (bif !(p0.auth == p1.auth) then (some false) else (bif !(p0.cut == p1.cut) then (some false) else (bif !(p0.want == p1.want) then (some false) else (bif !(p0.can == p1.can) then (some false) else (bif !decide (p0.code = p1.code) then (some false) else (bnd1 (w_eqQuest p0.q p1.q) (fun x8 => bif !x8 then (some false) else (bnd1 (w_eqRecordS p0.an p1.an) (fun x11 => bif !x11 then (some false) else (bnd1 (w_eqRecordS p0.au p1.au) (fun x14 => bif !x14 then (some false) else (bnd1 (w_eqRecordS p0.ad p1.ad) (fun x17 => bif !x17 then (some false) else (some true)))))))))))))))
/- laws.FnExactFits -/
def w_FnExactFits (p0 : MMsg) : Option Bool :=
  bnd1 (w_szMsg p0 1048576) (fun x1 => bif decide (x1 < 0) then (some true) else (bnd1 (w_toMsg p0) (fun x4 => bnd1 (s_Fits x4) (fun x6 => bnd1 (w_toMsg p0) (fun x8 => bnd1 (i_Fits x8) (fun x10 => bif !(x10 == x6) then (some false) else (bnd1 (w_toMsg p0) (fun x13 => bnd1 (w_eqMsg x8 x13) (fun x15 => bif !x15 then (some false) else (some true))))))))))
end Go.Abs.M
