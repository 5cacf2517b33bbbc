/- The functions that the law of FnPacketsBent reaches, as pure functions that may fail. -/
import Derived.Test.YtainnoaellcpdaaGreatDoorAbsC1
namespace Go.Abs.M
open Go Go.Abs
structure Cur where
  b : List Int
  i : Int
  h : Int
  deriving DecidableEq
def curV (r : Cur) : List V := [.lst 1 (List.map byteV r.b), .sc (.int .i64 r.i), .sc (.int .i64 r.h)]
theorem curV_free (r : Cur) : (curV r).all (·.free) = true := rfl
theorem curV_len (r : Cur) : (curV r).length = 3 := rfl
def Cur.ok (r : Cur) : Prop := (r.b.length ≤ 9223372036854775807 ∧ ∀ q, q ∈ r.b → True) ∧ i64 r.i ∧ i64 r.h
structure Quest where
  name : ByteArray
  ty : Int
  deriving DecidableEq
def questV (r : Quest) : List V := [.sc (.string r.name), .sc (.int .i64 r.ty)]
theorem questV_free (r : Quest) : (questV r).all (·.free) = true := rfl
theorem questV_len (r : Quest) : (questV r).length = 2 := rfl
def Quest.ok (r : Quest) : Prop := r.name.size ≤ 9223372036854775807 ∧ i64 r.ty
theorem questV_sc (r : Quest) : (questV r).all isScN = true := rfl
structure Rec where
  name : ByteArray
  ty : Int
  ttl : Int
  n : Int
  host : ByteArray
  text : ByteArray
  deriving DecidableEq
def recV (r : Rec) : List V := [.sc (.string r.name), .sc (.int .i64 r.ty), .sc (.int .i64 r.ttl), .sc (.int .i64 r.n), .sc (.string r.host), .sc (.string r.text)]
theorem recV_free (r : Rec) : (recV r).all (·.free) = true := rfl
theorem recV_len (r : Rec) : (recV r).length = 6 := rfl
def Rec.ok (r : Rec) : Prop := r.name.size ≤ 9223372036854775807 ∧ i64 r.ty ∧ i64 r.ttl ∧ i64 r.n ∧ r.host.size ≤ 9223372036854775807 ∧ r.text.size ≤ 9223372036854775807
theorem recV_sc (r : Rec) : (recV r).all isScN = true := rfl
structure MMsg where
  id : Int
  reply : Bool
  auth : Bool
  cut : Bool
  want : Bool
  can : Bool
  code : Int
  q : Quest
  an : List Rec
  au : List Rec
  ad : List Rec
  deriving DecidableEq
def mMsgV (r : MMsg) : List V := [.sc (.int .i64 r.id), .sc (.bool r.reply), .sc (.bool r.auth), .sc (.bool r.cut), .sc (.bool r.want), .sc (.bool r.can), .sc (.int .i64 r.code), .sc (.string r.q.name), .sc (.int .i64 r.q.ty), .lst 6 (List.map recV r.an), .lst 6 (List.map recV r.au), .lst 6 (List.map recV r.ad)]
theorem mMsgV_free (r : MMsg) : (mMsgV r).all (·.free) = true := rfl
theorem mMsgV_len (r : MMsg) : (mMsgV r).length = 12 := rfl
def MMsg.ok (r : MMsg) : Prop := i64 r.id ∧ i64 r.code ∧ r.q.ok ∧ (r.an.length ≤ 9223372036854775807 ∧ ∀ q, q ∈ r.an → q.ok) ∧ (r.au.length ≤ 9223372036854775807 ∧ ∀ q, q ∈ r.au → q.ok) ∧ (r.ad.length ≤ 9223372036854775807 ∧ ∀ q, q ∈ r.ad → q.ok)
def recLV (r : List Rec) : List V := [.lst 6 (List.map recV r)]
theorem recLV_free (r : List Rec) : (recLV r).all (·.free) = true := rfl
theorem recLV_len (r : List Rec) : (recLV r).length = 1 := rfl
/- laws.big -/
def w_big (p0 : List Int) : Option Bool :=
  some (decide (1048576 < (p0.length : Int)))
/- spec.l1New -/
def s_l1New_j0 (p0 : List Int) (j0_0 : Int) : Option Cur :=
  some (Cur.mk p0 0 j0_0)
def s_l1New_j2 (p0 : List Int) (v1_0 : Int) (v1_1 : Int) (k1 : Int → Int → Option Cur) (j2_0 : Bool) : Option Cur :=
  bif j2_0 then (bnd1 (idx p0 v1_1) (fun x2 => k1 (iand .i64 (IntKind.i64.wrap ((IntKind.i64.wrap ((IntKind.i64.wrap (v1_0 * 137)) + (IntKind.i64.wrap x2))) + 11)) 1073741823) (IntKind.i64.wrap (v1_1 + 1)))) else (s_l1New_j0 p0 v1_0)
def s_l1New_l1 (p0 : List Int) : Nat → Int → Int → Option Cur
  | 0, _, _ => none
  | f1 + 1, v1_0, v1_1 => bif decide (v1_1 < (p0.length : Int)) then (s_l1New_j2 p0 v1_0 v1_1 (s_l1New_l1 p0 f1) (decide (v1_1 < 4000))) else (s_l1New_j2 p0 v1_0 v1_1 (s_l1New_l1 p0 f1) false)
def s_l1New (p0 : List Int) : Option Cur :=
  s_l1New_l1 p0 fuel0 (IntKind.i64.wrap (160909 + (p0.length : Int))) 0
/- spec.l1Byte -/
def s_l1Byte (p0 : Cur) : Option (Int × Cur) :=
  bif decide (p0.i < (p0.b.length : Int)) then (bnd1 (idx p0.b p0.i) (fun x2 => some ((iand .i64 (IntKind.i64.wrap ((iand .i64 (ixor .i64 (ishr .i64 (IntKind.i64.wrap ((IntKind.i64.wrap (p0.h * 6364136223846793005)) + 1442695040888963407)) 33) (ishr .i64 (IntKind.i64.wrap ((IntKind.i64.wrap (p0.h * 6364136223846793005)) + 1442695040888963407)) 47)) 255) + (IntKind.i64.wrap x2))) 255), Cur.mk p0.b (IntKind.i64.wrap (p0.i + 1)) (IntKind.i64.wrap ((IntKind.i64.wrap (p0.h * 6364136223846793005)) + 1442695040888963407))))) else (some ((iand .i64 (ixor .i64 (ishr .i64 (IntKind.i64.wrap ((IntKind.i64.wrap (p0.h * 6364136223846793005)) + 1442695040888963407)) 33) (ishr .i64 (IntKind.i64.wrap ((IntKind.i64.wrap (p0.h * 6364136223846793005)) + 1442695040888963407)) 47)) 255), Cur.mk p0.b p0.i (IntKind.i64.wrap ((IntKind.i64.wrap (p0.h * 6364136223846793005)) + 1442695040888963407))))
/- spec.l1Below -/
def s_l1Below (p0 : Cur) (p1 : Int) : Option (Int × Cur) :=
  bif decide (p1 ≤ 0) then (some (0, p0)) else (bif decide (p1 ≤ 256) then (bnd2 (s_l1Byte p0) (fun x3 x4 => grd (p1 ≠ 0) (some ((Int.tmod x3 p1), x4)))) else (bnd2 (s_l1Byte p0) (fun x7 x8 => bnd2 (s_l1Byte x8) (fun x10 x11 => bnd2 (s_l1Byte x11) (fun x13 x14 => grd (i64 (x7 * 65536)) (grd (i64 (x10 * 256)) (grd (i64 ((x7 * 65536) + (x10 * 256))) (grd (i64 (((x7 * 65536) + (x10 * 256)) + x13)) (grd (p1 ≠ 0) (some ((Int.tmod (((x7 * 65536) + (x10 * 256)) + x13) p1), x14)))))))))))
/- spec.l1Str -/
def s_l1Str (p0 : Cur) (p1 : List ByteArray) : Option (ByteArray × Cur) :=
  bnd2 (s_l1Below p0 (p1.length : Int)) (fun x1 x2 => bnd1 (idx p1 x1) (fun x4 => some (x4, x2)))
/- spec.l3Name -/
def s_l3Name (p0 : Cur) : Option (ByteArray × Cur) :=
  bnd2 (s_l1Str p0 ([(⟨#[]⟩ : ByteArray), (⟨#[99, 111, 109]⟩ : ByteArray), (⟨#[101, 120, 46, 99, 111, 109]⟩ : ByteArray), (⟨#[119, 119, 119, 46, 101, 120, 46, 99, 111, 109]⟩ : ByteArray), (⟨#[110, 115, 46, 101, 120, 46, 99, 111, 109]⟩ : ByteArray), (⟨#[111, 114, 103]⟩ : ByteArray), (⟨#[97, 46, 111, 114, 103]⟩ : ByteArray), (⟨#[98, 46, 97, 46, 111, 114, 103]⟩ : ByteArray), (⟨#[110, 115, 49, 46, 111, 114, 103]⟩ : ByteArray), (⟨#[120, 46, 121, 46, 122, 46, 101, 120, 46, 99, 111, 109]⟩ : ByteArray)])) (fun x1 x2 => some (x1, x2))
/- spec.l1Int -/
def s_l1Int (p0 : Cur) (p1 : List Int) : Option (Int × Cur) :=
  bnd2 (s_l1Below p0 (p1.length : Int)) (fun x1 x2 => bnd1 (idx p1 x1) (fun x4 => some (x4, x2)))
/- spec.l5Type -/
def s_l5Type (p0 : Cur) : Option (Int × Cur) :=
  bnd2 (s_l1Int p0 [1, 1, 1, 2, 2, 5, 6, 16]) (fun x1 x2 => some (x1, x2))
/- spec.l7Quest -/
def s_l7Quest (p0 : Cur) : Option (Quest × Cur) :=
  bnd2 (s_l3Name p0) (fun x1 x2 => bnd2 (s_l5Type x2) (fun x4 x5 => some ((Quest.mk x1 x4), x5)))
/- spec.AskMsg -/
def s_AskMsg (p0 : Int) (p1 : Quest) : Option MMsg :=
  some (MMsg.mk p0 false false false false false 0 p1 ([] : List Rec) ([] : List Rec) ([] : List Rec))
/- spec.l1Once -/
def s_l1Once (p0 : Cur) (p1 : Int) : Option (Bool × Cur) :=
  bnd2 (s_l1Below p0 p1) (fun x1 x2 => some ((decide (x1 = 0)), x2))
/- spec.l5Draw -/
def s_l5Draw_j0 (x1 : ByteArray) (x4 : Int) (x7 : Int) (x8 : Cur) (j0_0 : Bool) : Option (Rec × Cur) :=
  bif j0_0 then (bnd2 (s_l3Name x8) (fun x16 x17 => some ((Rec.mk x1 x4 x7 0 x16 (⟨#[]⟩ : ByteArray)), x17))) else (bif decide (x4 = 6) then (bnd2 (s_l3Name x8) (fun x20 x21 => bnd2 (s_l1Int x21 [0, 5, 60]) (fun x23 x24 => some ((Rec.mk x1 x4 x7 x23 x20 (⟨#[]⟩ : ByteArray)), x24)))) else (bif decide (x4 = 16) then (bnd2 (s_l1Str x8 ([(⟨#[]⟩ : ByteArray), (⟨#[104, 105]⟩ : ByteArray), (⟨#[116, 119, 101, 108, 118, 101, 98, 121, 116, 101, 115, 33]⟩ : ByteArray)])) (fun x27 x28 => some ((Rec.mk x1 x4 x7 0 (⟨#[]⟩ : ByteArray) x27), x28))) else (some ((Rec.mk x1 x4 x7 0 (⟨#[]⟩ : ByteArray) (⟨#[]⟩ : ByteArray)), x8))))
def s_l5Draw (p0 : Cur) : Option (Rec × Cur) :=
  bnd2 (s_l3Name p0) (fun x1 x2 => bnd2 (s_l5Type x2) (fun x4 x5 => bnd2 (s_l1Int x5 [0, 1, 5, 60, 300, 100000]) (fun x7 x8 => bif decide (x4 = 1) then (bnd2 (s_l1Below x8 9) (fun x11 x12 => grd (i64 (1 + x11)) (some ((Rec.mk x1 x4 x7 (1 + x11) (⟨#[]⟩ : ByteArray) (⟨#[]⟩ : ByteArray)), x12)))) else (bif decide (x4 = 2) then (s_l5Draw_j0 x1 x4 x7 x8 (decide (x4 = 2))) else (s_l5Draw_j0 x1 x4 x7 x8 (decide (x4 = 5)))))))
/- spec.l5List -/
def s_l5List_l0  : Nat → (List Int) → Int → Int → (List Rec) → Int → Option ((List Rec) × Cur)
  | 0, _, _, _, _, _ => none
  | f0 + 1, v0_0, v0_1, v0_2, v0_3, v0_4 => bif decide (0 < v0_4) then (bnd2 (s_l5Draw (Cur.mk v0_0 v0_1 v0_2)) (fun x6 x7 => grd ((v0_3 ++ [x6]).length ≤ 1099511627776) (grd (i64 (v0_4 - 1)) (s_l5List_l0 f0 x7.b x7.i x7.h (v0_3 ++ [x6]) (v0_4 - 1))))) else (some (v0_3, Cur.mk v0_0 v0_1 v0_2))
def s_l5List (p0 : Cur) (p1 : Int) : Option ((List Rec) × Cur) :=
  grd (i64 (p1 + 1)) (bnd2 (s_l1Below p0 (p1 + 1)) (fun x2 x3 => s_l5List_l0 fuel0 x3.b x3.i x3.h ([] : List Rec) x2))
/- spec.l7Draw -/
def s_l7Draw (p0 : Cur) : Option (MMsg × Cur) :=
  bnd2 (s_l1Below p0 70000) (fun x1 x2 => bnd2 (s_l7Quest x2) (fun x4 x5 => bnd1 (s_AskMsg (Int.tmod x1 65536) x4) (fun x7 => bnd2 (s_l1Once x5 3) (fun x9 x10 => bif x9 then (some ((MMsg.mk x7.id x7.reply x7.auth x7.cut true x7.can x7.code x7.q x7.an x7.au x7.ad), x10)) else (bnd2 (s_l1Once x10 2) (fun x13 x14 => bnd2 (s_l1Once x14 9) (fun x16 x17 => bnd2 (s_l1Once x17 5) (fun x19 x20 => bnd2 (s_l1Int x20 [0, 0, 0, 3, 2, 5, 15]) (fun x22 x23 => bnd2 (s_l5List x23 3) (fun x25 x26 => bnd2 (s_l5List x26 2) (fun x28 x29 => bnd2 (s_l5List x29 2) (fun x31 x32 => some ((MMsg.mk x7.id true x13 x16 x7.want x19 x22 x7.q x25 x28 x31), x32)))))))))))))
/- spec.l1In -/
def s_l1In (p0 : Int) (p1 : Int) (p2 : Int) : Option Bool :=
  bif decide (p1 ≤ p0) then (some (decide (p0 ≤ p2))) else (some false)
/- spec.Labels -/
def s_Labels_j2 (p0 : ByteArray) (v0_0 : List ByteArray) (v0_1 : Int) (v0_2 : Int) (k0 : (List ByteArray) → Int → Int → Option (List ByteArray)) (j2_0 : Bool) : Option (List ByteArray) :=
  bif j2_0 then (grd (0 ≤ v0_1 ∧ v0_1 ≤ v0_2 ∧ v0_2 ≤ (p0.size : Int)) (grd ((v0_0 ++ [p0.extract v0_1.toNat v0_2.toNat]).length ≤ 1099511627776) (grd (i64 (v0_2 + 1)) (grd (i64 (v0_2 + 1)) (k0 (v0_0 ++ [p0.extract v0_1.toNat v0_2.toNat]) (v0_2 + 1) (v0_2 + 1)))))) else (grd (i64 (v0_2 + 1)) (k0 v0_0 v0_1 (v0_2 + 1)))
def s_Labels_j1 (p0 : ByteArray) (v0_0 : List ByteArray) (v0_1 : Int) (v0_2 : Int) (k0 : (List ByteArray) → Int → Int → Option (List ByteArray)) (j1_0 : Bool) : Option (List ByteArray) :=
  bif j1_0 then (bif decide (v0_2 = (p0.size : Int)) then (s_Labels_j2 p0 v0_0 v0_1 v0_2 (k0) true) else (bnd1 (sidx p0 v0_2) (fun x3 => s_Labels_j2 p0 v0_0 v0_1 v0_2 (k0) (decide (x3 = 46))))) else (some v0_0)
def s_Labels_l0 (p0 : ByteArray) : Nat → (List ByteArray) → Int → Int → Option (List ByteArray)
  | 0, _, _, _ => none
  | f0 + 1, v0_0, v0_1, v0_2 => bif decide (v0_2 ≤ (p0.size : Int)) then (s_Labels_j1 p0 v0_0 v0_1 v0_2 (s_Labels_l0 p0 f0) (!decide (p0 = (⟨#[]⟩ : ByteArray)))) else (s_Labels_j1 p0 v0_0 v0_1 v0_2 (s_Labels_l0 p0 f0) false)
def s_Labels (p0 : ByteArray) : Option (List ByteArray) :=
  s_Labels_l0 p0 fuel0 ([] : List ByteArray) 0 0
/- spec.l2Byte -/
def s_l2Byte (p0 : Int) : Option Bool :=
  bnd1 (s_l1In (IntKind.i64.wrap p0) 97 122) (fun x1 => bif x1 then (some true) else (bnd1 (s_l1In (IntKind.i64.wrap p0) 48 57) (fun x4 => bif x4 then (some true) else (bif decide (p0 = 45) then (some true) else (some (decide (p0 = 95)))))))
/- spec.LabelOk -/
def s_LabelOk_j0 (p0 : ByteArray) : Option Bool :=
  bnd1 (s_l1In (p0.size : Int) 1 12) (fun x1 => some x1)
def s_LabelOk_l1 (p0 : ByteArray) : Nat → Int → Option Bool
  | 0, _ => none
  | f1 + 1, v1_0 => bif decide (v1_0 < (p0.size : Int)) then (bnd1 (sidx p0 v1_0) (fun x2 => bnd1 (s_l2Byte x2) (fun x4 => bif !x4 then (some false) else (grd (i64 (v1_0 + 1)) (s_LabelOk_l1 p0 f1 (v1_0 + 1)))))) else (s_LabelOk_j0 p0)
def s_LabelOk (p0 : ByteArray) : Option Bool :=
  s_LabelOk_l1 p0 fuel0 0
/- spec.NameOk -/
def s_NameOk_j0 (p0 : ByteArray) (x1 : List ByteArray) : Option Bool :=
  bif decide ((p0.size : Int) ≤ 50) then (some (decide ((x1.length : Int) ≤ 6))) else (some false)
def s_NameOk_l1 (p0 : ByteArray) (x1 : List ByteArray) : List ByteArray → Nat → Option Bool
  | [], v1_0 => s_NameOk_j0 p0 x1
  | e1 :: rs1, v1_0 => bnd1 (s_LabelOk e1) (fun x4 => bif !x4 then (some false) else (s_NameOk_l1 p0 x1 rs1 (v1_0 + 1)))
def s_NameOk (p0 : ByteArray) : Option Bool :=
  bnd1 (s_Labels p0) (fun x1 => s_NameOk_l1 p0 x1 x1 0)
/- spec.TypeOk -/
def s_TypeOk (p0 : Int) : Option Bool :=
  bif decide (p0 = 1) then (some true) else (bif decide (p0 = 2) then (some true) else (bif decide (p0 = 5) then (some true) else (bif decide (p0 = 6) then (some true) else (some (decide (p0 = 16))))))
/- spec.QuestOk -/
def s_QuestOk (p0 : Quest) : Option Bool :=
  bnd1 (s_NameOk p0.name) (fun x1 => bif x1 then (bnd1 (s_TypeOk p0.ty) (fun x4 => some x4)) else (some false))
/- spec.l5Text -/
def s_l5Text_j0 (p0 : ByteArray) : Option Bool :=
  some (decide ((p0.size : Int) ≤ 12))
def s_l5Text_l1 (p0 : ByteArray) : Nat → Int → Option Bool
  | 0, _ => none
  | f1 + 1, v1_0 => bif decide (v1_0 < (p0.size : Int)) then (bnd1 (sidx p0 v1_0) (fun x2 => bnd1 (s_l1In (IntKind.i64.wrap x2) 33 126) (fun x4 => bif !x4 then (some false) else (grd (i64 (v1_0 + 1)) (s_l5Text_l1 p0 f1 (v1_0 + 1)))))) else (s_l5Text_j0 p0)
def s_l5Text (p0 : ByteArray) : Option Bool :=
  s_l5Text_l1 p0 fuel0 0
/- spec.RecordOk -/
def s_RecordOk_j1 (p0 : Rec) (j1_0 : Bool) : Option Bool :=
  bif j1_0 then (bif decide (p0.n = 0) then (bnd1 (s_NameOk p0.host) (fun x9 => bif x9 then (some (decide (p0.text = (⟨#[]⟩ : ByteArray)))) else (some false))) else (some false)) else (bif decide (p0.ty = 6) then (bnd1 (s_l1In p0.n 0 100000) (fun x13 => bif x13 then (bnd1 (s_NameOk p0.host) (fun x16 => bif x16 then (some (decide (p0.text = (⟨#[]⟩ : ByteArray)))) else (some false))) else (some false))) else (bif decide (p0.ty = 16) then (bif decide (p0.n = 0) then (bif decide (p0.host = (⟨#[]⟩ : ByteArray)) then (bnd1 (s_l5Text p0.text) (fun x22 => some x22)) else (some false)) else (some false)) else (some false)))
def s_RecordOk_j0 (p0 : Rec) (j0_0 : Bool) : Option Bool :=
  bif j0_0 then (some false) else (bif decide (p0.ty = 1) then (bnd1 (s_l1In p0.n 0 2147483647) (fun x3 => bif x3 then (bif decide (p0.host = (⟨#[]⟩ : ByteArray)) then (some (decide (p0.text = (⟨#[]⟩ : ByteArray)))) else (some false)) else (some false))) else (bif decide (p0.ty = 2) then (s_RecordOk_j1 p0 (decide (p0.ty = 2))) else (s_RecordOk_j1 p0 (decide (p0.ty = 5)))))
def s_RecordOk (p0 : Rec) : Option Bool :=
  bnd1 (s_NameOk p0.name) (fun x1 => bif !x1 then (s_RecordOk_j0 p0 true) else (bnd1 (s_l1In p0.ttl 0 100000) (fun x4 => s_RecordOk_j0 p0 (!x4))))
/- spec.l7List -/
def s_l7List_j0 (p0 : List Rec) : Option Bool :=
  some (decide ((p0.length : Int) ≤ 8))
def s_l7List_l1 (p0 : List Rec) : List Rec → Nat → Option Bool
  | [], v1_0 => s_l7List_j0 p0
  | e1 :: rs1, v1_0 => bnd1 (s_RecordOk e1) (fun x2 => bif !x2 then (some false) else (s_l7List_l1 p0 rs1 (v1_0 + 1)))
def s_l7List (p0 : List Rec) : Option Bool :=
  s_l7List_l1 p0 p0 0
/- spec.MsgOk -/
def s_MsgOk (p0 : MMsg) : Option Bool :=
  bnd1 (s_l1In p0.id 0 65535) (fun x1 => bif x1 then (bnd1 (s_l1In p0.code 0 15) (fun x4 => bif x4 then (bnd1 (s_QuestOk p0.q) (fun x7 => bif x7 then (bnd1 (s_l7List p0.an) (fun x10 => bif x10 then (bnd1 (s_l7List p0.au) (fun x13 => bif x13 then (bnd1 (s_l7List p0.ad) (fun x16 => some x16)) else (some false))) else (some false))) else (some false))) else (some false))) else (some false))
/- spec.Put2 -/
def s_Put2 (p0 : List Int) (p1 : Int) : Option (List Int) :=
  grd ((([] : List Int) ++ p0).length ≤ 1099511627776) (bnd1 (s_l1In p1 0 65535) (fun x2 => bif !x2 then (some (([] : List Int) ++ p0)) else (grd (((([] : List Int) ++ p0) ++ [IntKind.u8.wrap (ishr .i64 p1 8), IntKind.u8.wrap (iand .i64 p1 255)]).length ≤ 1099511627776) (some ((([] : List Int) ++ p0) ++ [IntKind.u8.wrap (ishr .i64 p1 8), IntKind.u8.wrap (iand .i64 p1 255)])))))
/- spec.l8Flag -/
def s_l8Flag (p0 : Bool) (p1 : Int) : Option Int :=
  bif p0 then (some p1) else (some 0)
/- spec.PutHead -/
def s_PutHead (p0 : MMsg) : Option (List Int) :=
  bnd1 (s_Put2 ([] : List Int) p0.id) (fun x1 => bnd1 (s_l8Flag p0.reply 128) (fun x3 => bnd1 (s_l8Flag p0.auth 4) (fun x5 => grd (i64 (x3 + x5)) (bnd1 (s_l8Flag p0.cut 2) (fun x8 => grd (i64 ((x3 + x5) + x8)) (bnd1 (s_l8Flag p0.want 1) (fun x11 => grd (i64 (((x3 + x5) + x8) + x11)) (bnd1 (s_l8Flag p0.can 128) (fun x14 => grd (i64 (x14 + (iand .i64 p0.code 15))) (grd ((x1 ++ [IntKind.u8.wrap (((x3 + x5) + x8) + x11), IntKind.u8.wrap (x14 + (iand .i64 p0.code 15))]).length ≤ 1099511627776) (bnd1 (s_Put2 (x1 ++ [IntKind.u8.wrap (((x3 + x5) + x8) + x11), IntKind.u8.wrap (x14 + (iand .i64 p0.code 15))]) 1) (fun x18 => bnd1 (s_Put2 x18 (p0.an.length : Int)) (fun x20 => bnd1 (s_Put2 x20 (p0.au.length : Int)) (fun x22 => bnd1 (s_Put2 x22 (p0.ad.length : Int)) (fun x24 => some x24)))))))))))))))
/- spec.JoinLabels -/
def s_JoinLabels_j1 (v0_1 : Nat) (e0 : ByteArray) (k0 : ByteArray → Nat → Option ByteArray) (j1_0 : ByteArray) : Option ByteArray :=
  grd (j1_0.size + e0.size ≤ 9223372036854775807) (k0 (j1_0 ++ e0) (v0_1 + 1))
def s_JoinLabels_l0  : List ByteArray → ByteArray → Nat → Option ByteArray
  | [], v0_0, v0_1 => some v0_0
  | e0 :: rs0, v0_0, v0_1 => bif decide (0 < (v0_1 : Int)) then (grd (v0_0.size + (⟨#[46]⟩ : ByteArray).size ≤ 9223372036854775807) (s_JoinLabels_j1 v0_1 e0 (s_JoinLabels_l0 rs0) (v0_0 ++ (⟨#[46]⟩ : ByteArray)))) else (s_JoinLabels_j1 v0_1 e0 (s_JoinLabels_l0 rs0) v0_0)
def s_JoinLabels (p0 : List ByteArray) : Option ByteArray :=
  s_JoinLabels_l0 p0 (⟨#[]⟩ : ByteArray) 0
/- spec.Above -/
def s_Above_l0 (x1 : List ByteArray) : Nat → (List ByteArray) → Int → Option (List ByteArray)
  | 0, _, _ => none
  | f0 + 1, v0_0, v0_1 => bif decide (v0_1 ≤ (x1.length : Int)) then (grd ((0 : Int) ≤ v0_1 ∧ v0_1 ≤ (x1.length : Int) ∧ (x1.length : Int) ≤ (x1.length : Int)) (bnd1 (s_JoinLabels ((x1.drop (0 + v0_1.toNat)).take ((x1.length : Int).toNat - v0_1.toNat))) (fun x5 => grd ((v0_0 ++ [x5]).length ≤ 1099511627776) (grd (i64 (v0_1 + 1)) (s_Above_l0 x1 f0 (v0_0 ++ [x5]) (v0_1 + 1)))))) else (some v0_0)
def s_Above (p0 : ByteArray) : Option (List ByteArray) :=
  bnd1 (s_Labels p0) (fun x1 => s_Above_l0 x1 fuel0 [p0] 1)
/- spec.Fold -/
def s_Fold_j0  (j0_0 : List Int) : Option ByteArray :=
  some (strOfNums j0_0)
def s_Fold_l1  : Nat → (List Int) → Int → Option ByteArray
  | 0, _, _ => none
  | f1 + 1, v1_0, v1_1 => bif decide (v1_1 < (v1_0.length : Int)) then (bnd1 (idx v1_0 v1_1) (fun x3 => bnd1 (s_l1In (IntKind.i64.wrap x3) 65 90) (fun x5 => bif x5 then (grd (i64 (v1_1 + 1)) (s_Fold_l1 f1 (v1_0.set v1_1.toNat (IntKind.u8.wrap (x3 + 32))) (v1_1 + 1))) else (grd (i64 (v1_1 + 1)) (s_Fold_l1 f1 v1_0 (v1_1 + 1)))))) else (s_Fold_j0 v1_0)
def s_Fold (p0 : ByteArray) : Option ByteArray :=
  grd (p0.size ≤ 1099511627776) (s_Fold_l1 fuel0 (bytesOf p0) 0)
/- spec.GetLabel -/
def s_GetLabel_j1 (p0 : List Int) (p1 : Int) (x2 : Int) (j1_0 : Bool) : Option (ByteArray × Int × Bool) :=
  bif j1_0 then (some ((⟨#[]⟩ : ByteArray), 0, false)) else (grd (i64 (p1 + 1)) (grd (i64 (p1 + 1)) (grd (i64 ((p1 + 1) + (IntKind.i64.wrap x2))) (grd ((0 : Int) ≤ p1 + 1 ∧ p1 + 1 ≤ (p1 + 1) + (IntKind.i64.wrap x2) ∧ (p1 + 1) + (IntKind.i64.wrap x2) ≤ (p0.length : Int)) (bnd1 (s_Fold (strOfNums ((p0.drop (p1 + 1).toNat).take (((p1 + 1) + (IntKind.i64.wrap x2)).toNat - (p1 + 1).toNat)))) (fun x9 => bnd1 (s_LabelOk x9) (fun x11 => bif !x11 then (some ((⟨#[]⟩ : ByteArray), 0, false)) else (grd (i64 (p1 + 1)) (grd (i64 ((p1 + 1) + (IntKind.i64.wrap x2))) (some (x9, ((p1 + 1) + (IntKind.i64.wrap x2)), true)))))))))))
def s_GetLabel_j0 (p0 : List Int) (p1 : Int) (j0_0 : Bool) : Option (ByteArray × Int × Bool) :=
  bif j0_0 then (some ((⟨#[]⟩ : ByteArray), 0, false)) else (bnd1 (idx p0 p1) (fun x2 => bnd1 (s_l1In (IntKind.i64.wrap x2) 1 12) (fun x4 => bif !x4 then (s_GetLabel_j1 p0 p1 x2 true) else (grd (i64 ((p0.length : Int) - p1)) (grd (i64 (((p0.length : Int) - p1) - 1)) (s_GetLabel_j1 p0 p1 x2 (decide (((p0.length : Int) - p1) - 1 < IntKind.i64.wrap x2))))))))
def s_GetLabel (p0 : List Int) (p1 : Int) : Option (ByteArray × Int × Bool) :=
  bif decide (p1 < 0) then (s_GetLabel_j0 p0 p1 true) else (s_GetLabel_j0 p0 p1 (decide ((p0.length : Int) ≤ p1)))
/- spec.l4Walk -/
def s_l4Walk_j2 (v0_1 : ByteArray) (v0_4 : Int) (j2_0 : Int) : Option (ByteArray × Int × Int × Int) :=
  some (v0_1, j2_0, 0, v0_4)
def s_l4Walk_j3 (v0_1 : ByteArray) (v0_4 : Int) (x2 : Int) (x13 : Int) (k0 : Int → ByteArray → Int → Int → Int → Option (ByteArray × Int × Int × Int)) (j3_0 : Int) : Option (ByteArray × Int × Int × Int) :=
  grd (i64 (v0_4 + 1)) (k0 ((256 * ((IntKind.i64.wrap x2) - 192)) + (IntKind.i64.wrap x13)) v0_1 j3_0 ((256 * ((IntKind.i64.wrap x2) - 192)) + (IntKind.i64.wrap x13)) (v0_4 + 1))
def s_l4Walk_j5 (v0_2 : Int) (v0_3 : Int) (v0_4 : Int) (x20 : ByteArray) (x21 : Int) (k0 : Int → ByteArray → Int → Int → Int → Option (ByteArray × Int × Int × Int)) (j5_0 : ByteArray) : Option (ByteArray × Int × Int × Int) :=
  grd (j5_0.size + x20.size ≤ 9223372036854775807) (bnd1 (s_NameOk (j5_0 ++ x20)) (fun x26 => bif !x26 then (some ((⟨#[]⟩ : ByteArray), 0, 4, v0_4)) else (k0 x21 (j5_0 ++ x20) v0_2 v0_3 v0_4)))
def s_l4Walk_j4 (p0 : List Int) (v0_0 : Int) (v0_1 : ByteArray) (v0_2 : Int) (v0_3 : Int) (v0_4 : Int) (k0 : Int → ByteArray → Int → Int → Int → Option (ByteArray × Int × Int × Int)) (j4_0 : Bool) : Option (ByteArray × Int × Int × Int) :=
  bif j4_0 then (some ((⟨#[]⟩ : ByteArray), 0, 1, v0_4)) else (bnd3 (s_GetLabel p0 v0_0) (fun x20 x21 x22 => bif !x22 then (some ((⟨#[]⟩ : ByteArray), 0, 2, v0_4)) else (bif !decide (v0_1 = (⟨#[]⟩ : ByteArray)) then (grd (v0_1.size + (⟨#[46]⟩ : ByteArray).size ≤ 9223372036854775807) (s_l4Walk_j5 v0_2 v0_3 v0_4 x20 x21 (k0) (v0_1 ++ (⟨#[46]⟩ : ByteArray)))) else (s_l4Walk_j5 v0_2 v0_3 v0_4 x20 x21 (k0) v0_1))))
def s_l4Walk_j1 (p0 : List Int) (v0_0 : Int) (v0_1 : ByteArray) (v0_2 : Int) (v0_3 : Int) (v0_4 : Int) (k0 : Int → ByteArray → Int → Int → Int → Option (ByteArray × Int × Int × Int)) (j1_0 : Bool) : Option (ByteArray × Int × Int × Int) :=
  bif j1_0 then (some ((⟨#[]⟩ : ByteArray), 0, 1, v0_4)) else (bnd1 (idx p0 v0_0) (fun x2 => bif decide (IntKind.i64.wrap x2 = 0) then (bif decide (v0_2 < 0) then (grd (i64 (v0_0 + 1)) (s_l4Walk_j2 v0_1 v0_4 (v0_0 + 1))) else (s_l4Walk_j2 v0_1 v0_4 v0_2)) else (bif decide (192 ≤ IntKind.i64.wrap x2) then (grd (i64 (v0_0 + 1)) (bif decide ((p0.length : Int) ≤ v0_0 + 1) then (some ((⟨#[]⟩ : ByteArray), 0, 1, v0_4)) else (grd (i64 ((IntKind.i64.wrap x2) - 192)) (grd (i64 (256 * ((IntKind.i64.wrap x2) - 192))) (grd (i64 (v0_0 + 1)) (bnd1 (idx p0 (v0_0 + 1)) (fun x13 => grd (i64 ((256 * ((IntKind.i64.wrap x2) - 192)) + (IntKind.i64.wrap x13))) (bif decide (v0_3 ≤ (256 * ((IntKind.i64.wrap x2) - 192)) + (IntKind.i64.wrap x13)) then (some ((⟨#[]⟩ : ByteArray), 0, 3, v0_4)) else (bif decide (v0_2 < 0) then (grd (i64 (v0_0 + 2)) (s_l4Walk_j3 v0_1 v0_4 x2 x13 (k0) (v0_0 + 2))) else (s_l4Walk_j3 v0_1 v0_4 x2 x13 (k0) v0_2)))))))))) else (bif decide (IntKind.i64.wrap x2 ≤ 12) then (grd (i64 ((p0.length : Int) - v0_0)) (grd (i64 (((p0.length : Int) - v0_0) - 1)) (s_l4Walk_j4 p0 v0_0 v0_1 v0_2 v0_3 v0_4 (k0) (decide (((p0.length : Int) - v0_0) - 1 < IntKind.i64.wrap x2))))) else (s_l4Walk_j4 p0 v0_0 v0_1 v0_2 v0_3 v0_4 (k0) false)))))
def s_l4Walk_l0 (p0 : List Int) : Nat → Int → ByteArray → Int → Int → Int → Option (ByteArray × Int × Int × Int)
  | 0, _, _, _, _, _ => none
  | f0 + 1, v0_0, v0_1, v0_2, v0_3, v0_4 => bif decide (v0_0 < 0) then (s_l4Walk_j1 p0 v0_0 v0_1 v0_2 v0_3 v0_4 (s_l4Walk_l0 p0 f0) true) else (s_l4Walk_j1 p0 v0_0 v0_1 v0_2 v0_3 v0_4 (s_l4Walk_l0 p0 f0) (decide ((p0.length : Int) ≤ v0_0)))
def s_l4Walk (p0 : List Int) (p1 : Int) : Option (ByteArray × Int × Int × Int) :=
  s_l4Walk_l0 p0 fuel0 p1 (⟨#[]⟩ : ByteArray) (-1) p1 0
/- spec.GetName -/
def s_GetName (p0 : List Int) (p1 : Int) : Option (ByteArray × Int × Int) :=
  bnd4 (s_l4Walk p0 p1) (fun x1 x2 x3 x4 => some (x1, x2, x3))
/- spec.PlaceOf -/
def s_PlaceOf_j2 (v0_0 : Int) (k0 : Int → Option Int) (j2_0 : Bool) : Option Int :=
  bif j2_0 then (some v0_0) else (grd (i64 (v0_0 + 1)) (k0 (v0_0 + 1)))
def s_PlaceOf_j1 (p0 : List Int) (p1 : ByteArray) (v0_0 : Int) (k0 : Int → Option Int) (j1_0 : Bool) : Option Int :=
  bif j1_0 then (bnd3 (s_GetName p0 v0_0) (fun x2 x3 x4 => bif decide (x4 = 0) then (s_PlaceOf_j2 v0_0 (k0) (decide (x2 = p1))) else (s_PlaceOf_j2 v0_0 (k0) false))) else (some (-1))
def s_PlaceOf_l0 (p0 : List Int) (p1 : ByteArray) : Nat → Int → Option Int
  | 0, _ => none
  | f0 + 1, v0_0 => bif decide (v0_0 < (p0.length : Int)) then (s_PlaceOf_j1 p0 p1 v0_0 (s_PlaceOf_l0 p0 p1 f0) (decide (v0_0 ≤ 16383))) else (s_PlaceOf_j1 p0 p1 v0_0 (s_PlaceOf_l0 p0 p1 f0) false)
def s_PlaceOf (p0 : List Int) (p1 : ByteArray) : Option Int :=
  s_PlaceOf_l0 p0 p1 fuel0 0
/- spec.PutLabel -/
def s_PutLabel (p0 : List Int) (p1 : ByteArray) : Option (List Int) :=
  grd ((([] : List Int) ++ p0).length ≤ 1099511627776) (bnd1 (s_LabelOk p1) (fun x2 => bif !x2 then (some (([] : List Int) ++ p0)) else (grd (((([] : List Int) ++ p0) ++ [IntKind.u8.wrap (p1.size : Int)]).length ≤ 1099511627776) (grd ((((([] : List Int) ++ p0) ++ [IntKind.u8.wrap (p1.size : Int)]) ++ (bytesOf p1)).length ≤ 1099511627776) (some (((([] : List Int) ++ p0) ++ [IntKind.u8.wrap (p1.size : Int)]) ++ (bytesOf p1)))))))
/- spec.PutName -/
def s_PutName_j0  (j0_0 : List Int) : Option (List Int) :=
  grd ((j0_0 ++ [0]).length ≤ 1099511627776) (some (j0_0 ++ [0]))
def s_PutName_l1 (p0 : List Int) (x5 : List ByteArray) : List ByteArray → (List Int) → Nat → Option (List Int)
  | [], v1_0, v1_1 => s_PutName_j0 v1_0
  | e1 :: rs1, v1_0, v1_1 => bnd1 (idx x5 (v1_1 : Int)) (fun x10 => bnd1 (s_PlaceOf p0 x10) (fun x12 => bif decide (0 ≤ x12) then (grd (i64 (192 + (IntKind.i64.wrap (Int.tdiv x12 256)))) (grd ((v1_0 ++ [IntKind.u8.wrap (192 + (IntKind.i64.wrap (Int.tdiv x12 256))), IntKind.u8.wrap (Int.tmod x12 256)]).length ≤ 1099511627776) (some (v1_0 ++ [IntKind.u8.wrap (192 + (IntKind.i64.wrap (Int.tdiv x12 256))), IntKind.u8.wrap (Int.tmod x12 256)])))) else (bnd1 (s_PutLabel v1_0 e1) (fun x17 => s_PutName_l1 p0 x5 rs1 x17 (v1_1 + 1)))))
def s_PutName (p0 : List Int) (p1 : ByteArray) : Option (List Int) :=
  grd ((([] : List Int) ++ p0).length ≤ 1099511627776) (bnd1 (s_NameOk p1) (fun x2 => bif !x2 then (some (([] : List Int) ++ p0)) else (bnd1 (s_Above p1) (fun x5 => bnd1 (s_Labels p1) (fun x7 => s_PutName_l1 p0 x5 x7 (([] : List Int) ++ p0) 0)))))
/- spec.Put4 -/
def s_Put4 (p0 : List Int) (p1 : Int) : Option (List Int) :=
  grd ((([] : List Int) ++ p0).length ≤ 1099511627776) (bnd1 (s_l1In p1 0 2147483647) (fun x2 => bif !x2 then (some (([] : List Int) ++ p0)) else (grd (((([] : List Int) ++ p0) ++ [IntKind.u8.wrap (ishr .i64 p1 24), IntKind.u8.wrap (iand .i64 (ishr .i64 p1 16) 255), IntKind.u8.wrap (iand .i64 (ishr .i64 p1 8) 255), IntKind.u8.wrap (iand .i64 p1 255)]).length ≤ 1099511627776) (some ((([] : List Int) ++ p0) ++ [IntKind.u8.wrap (ishr .i64 p1 24), IntKind.u8.wrap (iand .i64 (ishr .i64 p1 16) 255), IntKind.u8.wrap (iand .i64 (ishr .i64 p1 8) 255), IntKind.u8.wrap (iand .i64 p1 255)])))))
/- spec.PutPlain -/
def s_PutPlain_j0  (j0_0 : List Int) : Option (List Int) :=
  grd ((j0_0 ++ [0]).length ≤ 1099511627776) (some (j0_0 ++ [0]))
def s_PutPlain_l1  : List ByteArray → (List Int) → Nat → Option (List Int)
  | [], v1_0, v1_1 => s_PutPlain_j0 v1_0
  | e1 :: rs1, v1_0, v1_1 => bnd1 (s_PutLabel v1_0 e1) (fun x8 => s_PutPlain_l1 rs1 x8 (v1_1 + 1))
def s_PutPlain (p0 : List Int) (p1 : ByteArray) : Option (List Int) :=
  grd ((([] : List Int) ++ p0).length ≤ 1099511627776) (bnd1 (s_NameOk p1) (fun x2 => bif !x2 then (some (([] : List Int) ++ p0)) else (bnd1 (s_Labels p1) (fun x5 => s_PutPlain_l1 x5 (([] : List Int) ++ p0) 0))))
/- spec.PutData -/
def s_PutData (p0 : Rec) : Option (List Int) :=
  bnd1 (s_RecordOk p0) (fun x1 => bif !x1 then (some ([] : List Int)) else (bif decide (p0.ty = 1) then (bnd1 (s_Put4 ([] : List Int) p0.n) (fun x5 => some x5)) else (bif decide (p0.ty = 6) then (bnd1 (s_PutPlain ([] : List Int) p0.host) (fun x8 => bnd1 (s_Put4 x8 p0.n) (fun x10 => some x10))) else (bif decide (p0.ty = 16) then (grd (([IntKind.u8.wrap (p0.text.size : Int)] ++ (bytesOf p0.text)).length ≤ 1099511627776) (some ([IntKind.u8.wrap (p0.text.size : Int)] ++ (bytesOf p0.text)))) else (bnd1 (s_PutPlain ([] : List Int) p0.host) (fun x14 => some x14))))))
/- spec.PutRecord -/
def s_PutRecord (p0 : List Int) (p1 : Rec) : Option (List Int) :=
  bnd1 (s_RecordOk p1) (fun x1 => bif !x1 then (grd ((([] : List Int) ++ p0).length ≤ 1099511627776) (some (([] : List Int) ++ p0))) else (bnd1 (s_PutName p0 p1.name) (fun x5 => bnd1 (s_Put2 x5 p1.ty) (fun x7 => bnd1 (s_Put2 x7 1) (fun x9 => bnd1 (s_Put4 x9 p1.ttl) (fun x11 => bnd1 (s_PutData p1) (fun x13 => bnd1 (s_Put2 x11 (x13.length : Int)) (fun x15 => grd ((x15 ++ x13).length ≤ 1099511627776) (some (x15 ++ x13))))))))))
/- spec.PutRecords -/
def s_PutRecords_l0  : List Rec → (List Int) → Nat → Option (List Int)
  | [], v0_0, v0_1 => some v0_0
  | e0 :: rs0, v0_0, v0_1 => bnd1 (s_PutRecord v0_0 e0) (fun x3 => s_PutRecords_l0 rs0 x3 (v0_1 + 1))
def s_PutRecords (p0 : List Int) (p1 : List Rec) : Option (List Int) :=
  grd ((([] : List Int) ++ p0).length ≤ 1099511627776) (s_PutRecords_l0 p1 (([] : List Int) ++ p0) 0)
/- spec.PutMsg -/
def s_PutMsg (p0 : MMsg) : Option (List Int) :=
  bnd1 (s_MsgOk p0) (fun x1 => bif !x1 then (some ([] : List Int)) else (bnd1 (s_PutHead p0) (fun x4 => bnd1 (s_PutName x4 p0.q.name) (fun x6 => bnd1 (s_Put2 x6 p0.q.ty) (fun x8 => bnd1 (s_Put2 x8 1) (fun x10 => bnd1 (s_PutRecords x10 p0.an) (fun x12 => bnd1 (s_PutRecords x12 p0.au) (fun x14 => bnd1 (s_PutRecords x14 p0.ad) (fun x16 => bif decide (512 < (x16.length : Int)) then (some ([] : List Int)) else (some x16))))))))))
/- spec.l1Bent -/
def s_l1Bent (p0 : Cur) (p1 : List Int) : Option ((List Int) × Cur) :=
  grd ((([] : List Int) ++ p1).length ≤ 1099511627776) (bnd2 (s_l1Below p0 7) (fun x2 x3 => bif decide (x2 = 0) then (bif decide (0 < ((([] : List Int) ++ p1).length : Int)) then (bnd2 (s_l1Below x3 ((([] : List Int) ++ p1).length : Int)) (fun x7 x8 => bnd2 (s_l1Below x8 256) (fun x10 x11 => bnd1 (idx (([] : List Int) ++ p1) x7) (fun x13 => some (((([] : List Int) ++ p1).set x7.toNat (IntKind.u8.wrap x10)), x11))))) else (some ((([] : List Int) ++ p1), x3))) else (bif decide (x2 = 1) then (grd (i64 (((([] : List Int) ++ p1).length : Int) + 1)) (bnd2 (s_l1Below x3 (((([] : List Int) ++ p1).length : Int) + 1)) (fun x17 x18 => grd ((0 : Int) ≤ ((0 : Nat) : Int) ∧ ((0 : Nat) : Int) ≤ x17 ∧ x17 ≤ ((([] : List Int) ++ p1).length : Int)) (some ((((([] : List Int) ++ p1).drop (0 + ((0 : Nat) : Int).toNat)).take (x17.toNat - ((0 : Nat) : Int).toNat)), x18))))) else (bif decide (x2 = 2) then (bnd2 (s_l1Int x3 [0, 1, 192, 255]) (fun x22 x23 => grd (((([] : List Int) ++ p1) ++ [IntKind.u8.wrap x22]).length ≤ 1099511627776) (some (((([] : List Int) ++ p1) ++ [IntKind.u8.wrap x22]), x23)))) else (bif decide (x2 = 3) then (bif decide (0 < ((([] : List Int) ++ p1).length : Int)) then (bnd2 (s_l1Below x3 ((([] : List Int) ++ p1).length : Int)) (fun x28 x29 => bnd1 (idx (([] : List Int) ++ p1) x28) (fun x31 => bnd2 (s_l1Below x29 8) (fun x33 x34 => grd (0 ≤ x33) (some (((([] : List Int) ++ p1).set x28.toNat (ixor .u8 x31 (ishl .u8 1 x33.toNat))), x34)))))) else (some ((([] : List Int) ++ p1), x3))) else (some ((([] : List Int) ++ p1), x3)))))))
/- spec.l8Packet -/
def s_l8Packet (p0 : Cur) : Option ((List Int) × Cur) :=
  bnd2 (s_l7Draw p0) (fun x1 x2 => bnd1 (s_PutMsg x1) (fun x4 => bnd2 (s_l1Once x2 2) (fun x6 x7 => bif x6 then (bnd2 (s_l1Bent x7 x4) (fun x10 x11 => some (x10, x11))) else (some (x4, x7)))))
/- spec.DrawGetMsg -/
def s_DrawGetMsg (p0 : List Int) : Option (List Int) :=
  bnd1 (s_l1New p0) (fun x1 => bnd2 (s_l8Packet x1) (fun x3 x4 => some x3))
/- impl.getBytes -/
def i_getBytes_j1 (p3 : Int) (j1_0 : Int) : Option (Int × Bool) :=
  bif decide (p3 < j1_0) then (some (0, false)) else (some (j1_0, true))
def i_getBytes_l2 (p3 : Int) : List Int → Int → Nat → Option (Int × Bool)
  | [], v2_0, v2_1 => i_getBytes_j1 p3 v2_0
  | e2 :: rs2, v2_0, v2_1 => grd (i64 (256 * v2_0)) (grd (i64 ((256 * v2_0) + (IntKind.i64.wrap e2))) (i_getBytes_l2 p3 rs2 ((256 * v2_0) + (IntKind.i64.wrap e2)) (v2_1 + 1)))
def i_getBytes_j0 (p0 : List Int) (p1 : Int) (p2 : Int) (p3 : Int) (j0_0 : Bool) : Option (Int × Bool) :=
  bif j0_0 then (some (0, false)) else (grd (i64 (p1 + p2)) (grd ((0 : Int) ≤ p1 ∧ p1 ≤ p1 + p2 ∧ p1 + p2 ≤ (p0.length : Int)) (i_getBytes_l2 p3 ((p0.drop p1.toNat).take ((p1 + p2).toNat - p1.toNat)) 0 0)))
def i_getBytes (p0 : List Int) (p1 : Int) (p2 : Int) (p3 : Int) : Option (Int × Bool) :=
  bif decide (p1 < 0) then (i_getBytes_j0 p0 p1 p2 p3 true) else (grd (i64 ((p0.length : Int) - p2)) (i_getBytes_j0 p0 p1 p2 p3 (decide ((p0.length : Int) - p2 < p1))))
/- impl.Get2 -/
def i_Get2 (p0 : List Int) (p1 : Int) : Option (Int × Bool) :=
  bnd2 (i_getBytes p0 p1 2 65535) (fun x1 x2 => some (x1, x2))
/- impl.GetHead -/
def i_GetHead_j0 (p0 : List Int) (x2 : Int) (x4 : Int) (j0_0 : Bool) : Option (MMsg × Int × Int × Int × Bool) :=
  bif j0_0 then (some ((MMsg.mk 0 false false false false false 0 (Quest.mk (⟨#[]⟩ : ByteArray) 0) ([] : List Rec) ([] : List Rec) ([] : List Rec)), 0, 0, 0, false)) else (bnd2 (i_Get2 p0 0) (fun x10 x11 => bnd2 (i_Get2 p0 6) (fun x13 x14 => bnd2 (i_Get2 p0 8) (fun x16 x17 => bnd2 (i_Get2 p0 10) (fun x19 x20 => some ((MMsg.mk x10 (!decide (iand .i64 (IntKind.i64.wrap x2) 128 = 0)) (!decide (iand .i64 (IntKind.i64.wrap x2) 4 = 0)) (!decide (iand .i64 (IntKind.i64.wrap x2) 2 = 0)) (!decide (iand .i64 (IntKind.i64.wrap x2) 1 = 0)) (!decide (iand .i64 (IntKind.i64.wrap x4) 128 = 0)) (iand .i64 (IntKind.i64.wrap x4) 15) (Quest.mk (⟨#[]⟩ : ByteArray) 0) ([] : List Rec) ([] : List Rec) ([] : List Rec)), x13, x16, x19, true))))))
def i_GetHead (p0 : List Int) : Option (MMsg × Int × Int × Int × Bool) :=
  bif decide ((p0.length : Int) < 12) then (some ((MMsg.mk 0 false false false false false 0 (Quest.mk (⟨#[]⟩ : ByteArray) 0) ([] : List Rec) ([] : List Rec) ([] : List Rec)), 0, 0, 0, false)) else (bnd1 (idx p0 2) (fun x2 => bnd1 (idx p0 3) (fun x4 => bnd2 (i_Get2 p0 4) (fun x6 x7 => bif !decide (iandNot .i64 (IntKind.i64.wrap x2) 135 = 0) then (i_GetHead_j0 p0 x2 x4 true) else (bif !decide (iandNot .i64 (IntKind.i64.wrap x4) 143 = 0) then (i_GetHead_j0 p0 x2 x4 true) else (i_GetHead_j0 p0 x2 x4 (!decide (x6 = 1))))))))
/- strings.Join -/
def strings_Join (p0 : List ByteArray) (p1 : ByteArray) : Option ByteArray :=
  grd (p0.length ≤ 140737488355328 ∧ (Lib.join (p0.map (fun x => x.data.toList)) p1.data.toList).length ≤ 140737488355328) (some (joinB p0 p1))
/- impl.JoinLabels -/
def i_JoinLabels (p0 : List ByteArray) : Option ByteArray :=
  bnd1 (strings_Join p0 (⟨#[46]⟩ : ByteArray)) (fun x1 => some x1)
/- impl.Fold -/
def i_Fold_j0  (j0_0 : List Int) : Option ByteArray :=
  some (strOfNums j0_0)
def i_Fold_j2 (v1_0 : List Int) (v1_1 : Nat) (x3 : Int) (k1 : (List Int) → Nat → Option ByteArray) (j2_0 : Bool) : Option ByteArray :=
  bif j2_0 then (k1 (v1_0.set ((v1_1 : Int).toNat) (IntKind.u8.wrap ((IntKind.u8.wrap (x3 + 97)) - 65))) (v1_1 + 1)) else (k1 v1_0 (v1_1 + 1))
def i_Fold_l1  : List Int → (List Int) → Nat → Option ByteArray
  | [], v1_0, v1_1 => i_Fold_j0 v1_0
  | e1 :: rs1, v1_0, v1_1 => bnd1 (idx v1_0 (v1_1 : Int)) (fun x3 => bif decide (65 ≤ x3) then (i_Fold_j2 v1_0 v1_1 x3 (i_Fold_l1 rs1) (decide (x3 ≤ 90))) else (i_Fold_j2 v1_0 v1_1 x3 (i_Fold_l1 rs1) false))
def i_Fold (p0 : ByteArray) : Option ByteArray :=
  grd (p0.size ≤ 1099511627776) (i_Fold_l1 (bytesOf p0) (bytesOf p0) 0)
/- impl.LabelOk -/
def i_LabelOk_j0 (p0 : ByteArray) : Option Bool :=
  bif decide (1 ≤ (p0.size : Int)) then (some (decide ((p0.size : Int) ≤ 12))) else (some false)
def i_LabelOk_j2 (v1_0 : Int) (k1 : Int → Option Bool) (j2_0 : Bool) : Option Bool :=
  bif j2_0 then (some false) else (grd (i64 (v1_0 + 1)) (k1 (v1_0 + 1)))
def i_LabelOk_l1 (p0 : ByteArray) : Nat → Int → Option Bool
  | 0, _ => none
  | f1 + 1, v1_0 => bif decide (v1_0 < (p0.size : Int)) then (bnd1 (sidx p0 v1_0) (fun x2 => bif decide (x2 < 97) then (bif decide (x2 < 48) then (bif !decide (x2 = 45) then (i_LabelOk_j2 v1_0 (i_LabelOk_l1 p0 f1) (!decide (x2 = 95))) else (i_LabelOk_j2 v1_0 (i_LabelOk_l1 p0 f1) false)) else (bif decide (57 < x2) then (bif !decide (x2 = 45) then (i_LabelOk_j2 v1_0 (i_LabelOk_l1 p0 f1) (!decide (x2 = 95))) else (i_LabelOk_j2 v1_0 (i_LabelOk_l1 p0 f1) false)) else (i_LabelOk_j2 v1_0 (i_LabelOk_l1 p0 f1) false))) else (bif decide (122 < x2) then (bif decide (x2 < 48) then (bif !decide (x2 = 45) then (i_LabelOk_j2 v1_0 (i_LabelOk_l1 p0 f1) (!decide (x2 = 95))) else (i_LabelOk_j2 v1_0 (i_LabelOk_l1 p0 f1) false)) else (bif decide (57 < x2) then (bif !decide (x2 = 45) then (i_LabelOk_j2 v1_0 (i_LabelOk_l1 p0 f1) (!decide (x2 = 95))) else (i_LabelOk_j2 v1_0 (i_LabelOk_l1 p0 f1) false)) else (i_LabelOk_j2 v1_0 (i_LabelOk_l1 p0 f1) false))) else (i_LabelOk_j2 v1_0 (i_LabelOk_l1 p0 f1) false)))) else (i_LabelOk_j0 p0)
def i_LabelOk (p0 : ByteArray) : Option Bool :=
  i_LabelOk_l1 p0 fuel0 0
/- impl.GetLabel -/
def i_GetLabel_j0 (p0 : List Int) (p1 : Int) (j0_0 : Bool) : Option (ByteArray × Int × Bool) :=
  bif j0_0 then (some ((⟨#[]⟩ : ByteArray), 0, false)) else (grd (i64 (p1 + 1)) (bnd1 (idx p0 p1) (fun x3 => grd (i64 ((p1 + 1) + (IntKind.i64.wrap x3))) (grd (i64 (p1 + 1)) (grd ((0 : Int) ≤ p1 + 1 ∧ p1 + 1 ≤ (p1 + 1) + (IntKind.i64.wrap x3) ∧ (p1 + 1) + (IntKind.i64.wrap x3) ≤ (p0.length : Int)) (bnd1 (i_Fold (strOfNums ((p0.drop (p1 + 1).toNat).take (((p1 + 1) + (IntKind.i64.wrap x3)).toNat - (p1 + 1).toNat)))) (fun x8 => bnd1 (i_LabelOk x8) (fun x10 => bif !x10 then (some ((⟨#[]⟩ : ByteArray), 0, false)) else (some (x8, ((p1 + 1) + (IntKind.i64.wrap x3)), true))))))))))
def i_GetLabel (p0 : List Int) (p1 : Int) : Option (ByteArray × Int × Bool) :=
  bif decide (p1 < 0) then (i_GetLabel_j0 p0 p1 true) else (bif decide ((p0.length : Int) ≤ p1) then (i_GetLabel_j0 p0 p1 true) else (bnd1 (idx p0 p1) (fun x3 => bif decide (12 < x3) then (i_GetLabel_j0 p0 p1 true) else (grd (i64 ((p0.length : Int) - p1)) (i_GetLabel_j0 p0 p1 (decide ((p0.length : Int) - p1 ≤ IntKind.i64.wrap x3)))))))
/- stringslite.IndexByte -/
def internal_stringslite_IndexByte (p0 : ByteArray) (p1 : Int) : Option Int :=
  some (Lib.indexByte p0.data.toList p1.toNat.toUInt8)
/- stringslite.Index -/
def internal_stringslite_Index_j0 (p0 : ByteArray) (p1 : ByteArray) (j0_0 : Bool) : Option Int :=
  bif j0_0 then (some 0) else (bif decide ((p1.size : Int) = 1) then (bnd1 (sidx p1 0) (fun x3 => bnd1 (internal_stringslite_IndexByte p0 x3) (fun x5 => some x5))) else (bif decide ((p0.size : Int) ≤ (p1.size : Int)) then (some (-1)) else (none)))
def internal_stringslite_Index (p0 : ByteArray) (p1 : ByteArray) : Option Int :=
  bif decide ((p1.size : Int) = 0) then (internal_stringslite_Index_j0 p0 p1 true) else (internal_stringslite_Index_j0 p0 p1 (decide (p1 = p0)))
/- strings.Index -/
def strings_Index (p0 : ByteArray) (p1 : ByteArray) : Option Int :=
  bnd1 (internal_stringslite_Index p0 p1) (fun x1 => some x1)
/- strings.Count -/
def strings_Count_l0 (p1 : ByteArray) : Nat → ByteArray → Int → Option Int
  | 0, _, _ => none
  | f0 + 1, v0_0, v0_1 => bnd1 (strings_Index v0_0 p1) (fun x5 => bif decide (x5 = (-1)) then (some v0_1) else (grd (i64 (v0_1 + 1)) (grd (i64 (x5 + (p1.size : Int))) (grd (0 ≤ x5 + (p1.size : Int) ∧ x5 + (p1.size : Int) ≤ (v0_0.size : Int) ∧ (v0_0.size : Int) ≤ (v0_0.size : Int)) (strings_Count_l0 p1 f0 (v0_0.extract (x5 + (p1.size : Int)).toNat (v0_0.size : Int).toNat) (v0_1 + 1))))))
def strings_Count (p0 : ByteArray) (p1 : ByteArray) : Option Int :=
  bif decide ((p1.size : Int) = 0) then (none) else (bif decide ((p1.size : Int) = 1) then (bnd1 (sidx p1 0) (fun x3 => some (Lib.countByte p0.data.toList x3.toNat.toUInt8 : Int))) else (strings_Count_l0 p1 fuel0 p0 0))
/- strings.genSplit -/
def strings_genSplit_j1  (j1_0 : ByteArray) (j1_1 : List ByteArray) (j1_2 : Int) : Option (List ByteArray) :=
  bnd1 (idx j1_1 j1_2) (fun x6 => grd (i64 (j1_2 + 1)) (grd ((0 : Int) ≤ ((0 : Nat) : Int) ∧ ((0 : Nat) : Int) ≤ j1_2 + 1 ∧ j1_2 + 1 ≤ (j1_1.length : Int)) (some (((j1_1.set j1_2.toNat j1_0).drop (0 + ((0 : Nat) : Int).toNat)).take ((j1_2 + 1).toNat - ((0 : Nat) : Int).toNat)))))
def strings_genSplit_l2 (p0 : ByteArray) (p1 : ByteArray) (p2 : Int) (j0_0 : Int) : Nat → ByteArray → (List ByteArray) → Int → Option (List ByteArray)
  | 0, _, _, _ => none
  | f2 + 1, v2_0, v2_1, v2_2 => bif decide (v2_2 < (if (p0.size : Int) + 1 < j0_0 then (p0.size : Int) + 1 else j0_0) - 1) then (bnd1 (strings_Index v2_0 p1) (fun x7 => bif decide (x7 < 0) then (strings_genSplit_j1 v2_0 v2_1 v2_2) else (grd (i64 (x7 + p2)) (grd (0 ≤ ((0 : Nat) : Int) ∧ ((0 : Nat) : Int) ≤ x7 + p2 ∧ x7 + p2 ≤ (v2_0.size : Int)) (bnd1 (idx v2_1 v2_2) (fun x12 => grd (i64 (x7 + (p1.size : Int))) (grd (0 ≤ x7 + (p1.size : Int) ∧ x7 + (p1.size : Int) ≤ (v2_0.size : Int) ∧ (v2_0.size : Int) ≤ (v2_0.size : Int)) (grd (i64 (v2_2 + 1)) (strings_genSplit_l2 p0 p1 p2 j0_0 f2 (v2_0.extract (x7 + (p1.size : Int)).toNat (v2_0.size : Int).toNat) (v2_1.set v2_2.toNat (v2_0.extract ((0 : Nat) : Int).toNat (x7 + p2).toNat)) (v2_2 + 1)))))))))) else (strings_genSplit_j1 v2_0 v2_1 v2_2)
def strings_genSplit_j0 (p0 : ByteArray) (p1 : ByteArray) (p2 : Int) (j0_0 : Int) : Option (List ByteArray) :=
  grd (i64 ((p0.size : Int) + 1)) (grd (0 ≤ (if (p0.size : Int) + 1 < j0_0 then (p0.size : Int) + 1 else j0_0) ∧ (if (p0.size : Int) + 1 < j0_0 then (p0.size : Int) + 1 else j0_0).toNat ≤ 1099511627776) (grd (i64 ((if (p0.size : Int) + 1 < j0_0 then (p0.size : Int) + 1 else j0_0) - 1)) (strings_genSplit_l2 p0 p1 p2 j0_0 fuel0 p0 (List.replicate (if (p0.size : Int) + 1 < j0_0 then (p0.size : Int) + 1 else j0_0).toNat (⟨#[]⟩ : ByteArray)) 0)))
def strings_genSplit (p0 : ByteArray) (p1 : ByteArray) (p2 : Int) (p3 : Int) : Option (List ByteArray) :=
  bif decide (p3 = 0) then (some ([] : List ByteArray)) else (bif decide (p1 = (⟨#[]⟩ : ByteArray)) then (none) else (bif decide (p3 < 0) then (bnd1 (strings_Count p0 p1) (fun x4 => grd (i64 (x4 + 1)) (strings_genSplit_j0 p0 p1 p2 (x4 + 1)))) else (strings_genSplit_j0 p0 p1 p2 p3)))
/- strings.Split -/
def strings_Split (p0 : ByteArray) (p1 : ByteArray) : Option (List ByteArray) :=
  bnd1 (strings_genSplit p0 p1 0 (-1)) (fun x1 => some x1)
/- impl.Labels -/
def i_Labels (p0 : ByteArray) : Option (List ByteArray) :=
  bif decide (p0 = (⟨#[]⟩ : ByteArray)) then (some ([] : List ByteArray)) else (bnd1 (strings_Split p0 (⟨#[46]⟩ : ByteArray)) (fun x2 => some x2))
/- slices.IndexFunc[[]string,string] -/
def slices_IndexFunc_string_l0 (p1 : ByteArray → Option Bool) : List ByteArray → Nat → Option Int
  | [], v0_0 => some (-1)
  | e0 :: rs0, v0_0 => bnd1 (p1 e0) (fun x2 => bif x2 then (some (v0_0 : Int)) else (slices_IndexFunc_string_l0 p1 rs0 (v0_0 + 1)))
def slices_IndexFunc_string (p0 : List ByteArray) (p1 : ByteArray → Option Bool) : Option Int :=
  slices_IndexFunc_string_l0 p1 p0 0
/- slices.ContainsFunc[[]string,string] -/
def slices_ContainsFunc_string (p0 : List ByteArray) (p1 : ByteArray → Option Bool) : Option Bool :=
  bnd1 (slices_IndexFunc_string p0 p1) (fun x1 => some (decide (0 ≤ x1)))
/- impl.NameOk$1 -/
def i_NameOk_1 (p0 : ByteArray) : Option Bool :=
  bnd1 (i_LabelOk p0) (fun x1 => some (!x1))
/- impl.NameOk -/
def i_NameOk (p0 : ByteArray) : Option Bool :=
  bnd1 (i_Labels p0) (fun x1 => bif decide ((p0.size : Int) ≤ 50) then (bif decide ((x1.length : Int) ≤ 6) then (bnd1 (slices_ContainsFunc_string x1 (fun a0 => i_NameOk_1 a0)) (fun x5 => some (!x5))) else (some false)) else (some false))
/- impl.read -/
def i_read_j2 (v0_0 : List ByteArray) (v0_3 : Int) (j2_0 : Int) : Option (ByteArray × Int × Int × Int) :=
  bnd1 (i_JoinLabels v0_0) (fun x5 => some (x5, j2_0, 0, v0_3))
def i_read_j3 (v0_0 : List ByteArray) (v0_3 : Int) (x2 : Int) (x13 : Int) (k0 : (List ByteArray) → Int → Int → Int → Int → Option (ByteArray × Int × Int × Int)) (j3_0 : Int) : Option (ByteArray × Int × Int × Int) :=
  grd (i64 (v0_3 + 1)) (k0 v0_0 j3_0 ((256 * ((IntKind.i64.wrap x2) - 192)) + (IntKind.i64.wrap x13)) (v0_3 + 1) ((256 * ((IntKind.i64.wrap x2) - 192)) + (IntKind.i64.wrap x13)))
def i_read_j1 (p0 : List Int) (v0_0 : List ByteArray) (v0_1 : Int) (v0_2 : Int) (v0_3 : Int) (v0_4 : Int) (k0 : (List ByteArray) → Int → Int → Int → Int → Option (ByteArray × Int × Int × Int)) (j1_0 : Bool) : Option (ByteArray × Int × Int × Int) :=
  bif j1_0 then (some ((⟨#[]⟩ : ByteArray), 0, 1, v0_3)) else (bnd1 (idx p0 v0_4) (fun x2 => bif decide (IntKind.i64.wrap x2 = 0) then (bif decide (v0_1 < 0) then (grd (i64 (v0_4 + 1)) (i_read_j2 v0_0 v0_3 (v0_4 + 1))) else (i_read_j2 v0_0 v0_3 v0_1)) else (bif decide (192 ≤ IntKind.i64.wrap x2) then (grd (i64 (v0_4 + 1)) (bif decide ((p0.length : Int) ≤ v0_4 + 1) then (some ((⟨#[]⟩ : ByteArray), 0, 1, v0_3)) else (grd (i64 ((IntKind.i64.wrap x2) - 192)) (grd (i64 (256 * ((IntKind.i64.wrap x2) - 192))) (grd (i64 (v0_4 + 1)) (bnd1 (idx p0 (v0_4 + 1)) (fun x13 => grd (i64 ((256 * ((IntKind.i64.wrap x2) - 192)) + (IntKind.i64.wrap x13))) (bif decide (v0_2 ≤ (256 * ((IntKind.i64.wrap x2) - 192)) + (IntKind.i64.wrap x13)) then (some ((⟨#[]⟩ : ByteArray), 0, 3, v0_3)) else (bif decide (v0_1 < 0) then (grd (i64 (v0_4 + 2)) (i_read_j3 v0_0 v0_3 x2 x13 (k0) (v0_4 + 2))) else (i_read_j3 v0_0 v0_3 x2 x13 (k0) v0_1)))))))))) else (bif decide (12 < IntKind.i64.wrap x2) then (some ((⟨#[]⟩ : ByteArray), 0, 2, v0_3)) else (grd (i64 ((p0.length : Int) - v0_4)) (bif decide ((p0.length : Int) - v0_4 ≤ IntKind.i64.wrap x2) then (some ((⟨#[]⟩ : ByteArray), 0, 1, v0_3)) else (bnd3 (i_GetLabel p0 v0_4) (fun x22 x23 x24 => bif !x24 then (some ((⟨#[]⟩ : ByteArray), 0, 2, v0_3)) else (grd ((v0_0 ++ [x22]).length ≤ 1099511627776) (bnd1 (i_JoinLabels (v0_0 ++ [x22])) (fun x28 => bnd1 (i_NameOk x28) (fun x30 => bif !x30 then (some ((⟨#[]⟩ : ByteArray), 0, 4, v0_3)) else (k0 (v0_0 ++ [x22]) v0_1 v0_2 v0_3 x23)))))))))))))
def i_read_l0 (p0 : List Int) : Nat → (List ByteArray) → Int → Int → Int → Int → Option (ByteArray × Int × Int × Int)
  | 0, _, _, _, _, _ => none
  | f0 + 1, v0_0, v0_1, v0_2, v0_3, v0_4 => bif decide (v0_4 < 0) then (i_read_j1 p0 v0_0 v0_1 v0_2 v0_3 v0_4 (i_read_l0 p0 f0) true) else (i_read_j1 p0 v0_0 v0_1 v0_2 v0_3 v0_4 (i_read_l0 p0 f0) (decide ((p0.length : Int) ≤ v0_4)))
def i_read (p0 : List Int) (p1 : Int) : Option (ByteArray × Int × Int × Int) :=
  i_read_l0 p0 fuel0 ([] : List ByteArray) (-1) p1 0 p1
/- impl.GetName -/
def i_GetName (p0 : List Int) (p1 : Int) : Option (ByteArray × Int × Int) :=
  bnd4 (i_read p0 p1) (fun x1 x2 x3 x4 => some (x1, x2, x3))
/- impl.TypeText -/
def i_TypeText (p0 : Int) : Option ByteArray :=
  bif decide (p0 = 1) then (some (⟨#[97, 100, 100, 114]⟩ : ByteArray)) else (bif decide (p0 = 2) then (some (⟨#[115, 101, 114, 118, 101, 114]⟩ : ByteArray)) else (bif decide (p0 = 5) then (some (⟨#[97, 108, 105, 97, 115]⟩ : ByteArray)) else (bif decide (p0 = 6) then (some (⟨#[115, 116, 97, 114, 116]⟩ : ByteArray)) else (bif decide (p0 = 16) then (some (⟨#[116, 101, 120, 116]⟩ : ByteArray)) else (some (⟨#[]⟩ : ByteArray))))))
/- impl.TypeOk -/
def i_TypeOk (p0 : Int) : Option Bool :=
  bnd1 (i_TypeText p0) (fun x1 => some (!decide (x1 = (⟨#[]⟩ : ByteArray))))
/- impl.QuestOk -/
def i_QuestOk (p0 : Quest) : Option Bool :=
  bnd1 (i_NameOk p0.name) (fun x1 => bif x1 then (bnd1 (i_TypeOk p0.ty) (fun x4 => some x4)) else (some false))
/- impl.GetQuest -/
def i_GetQuest_j0 (x1 : ByteArray) (x2 : Int) (x8 : Int) (j0_0 : Bool) : Option (Quest × Int × Int) :=
  bif j0_0 then (some ((Quest.mk (⟨#[]⟩ : ByteArray) 0), 0, 2)) else (grd (i64 (x2 + 4)) (some ((Quest.mk x1 x8), (x2 + 4), 0)))
def i_GetQuest (p0 : List Int) (p1 : Int) : Option (Quest × Int × Int) :=
  bnd3 (i_GetName p0 p1) (fun x1 x2 x3 => bif !decide (x3 = 0) then (some ((Quest.mk (⟨#[]⟩ : ByteArray) 0), 0, x3)) else (grd (i64 ((p0.length : Int) - x2)) (bif decide ((p0.length : Int) - x2 < 4) then (some ((Quest.mk (⟨#[]⟩ : ByteArray) 0), 0, 1)) else (bnd2 (i_Get2 p0 x2) (fun x8 x9 => grd (i64 (x2 + 2)) (bnd2 (i_Get2 p0 (x2 + 2)) (fun x12 x13 => bnd1 (i_QuestOk (Quest.mk x1 x8)) (fun x15 => bif !x15 then (i_GetQuest_j0 x1 x2 x8 true) else (i_GetQuest_j0 x1 x2 x8 (!decide (x12 = 1)))))))))))
/- impl.Get4 -/
def i_Get4 (p0 : List Int) (p1 : Int) : Option (Int × Bool) :=
  bnd2 (i_getBytes p0 p1 4 2147483647) (fun x1 x2 => some (x1, x2))
/- impl.isText -/
def i_isText_j0 (p0 : ByteArray) : Option Bool :=
  some (decide ((p0.size : Int) ≤ 12))
def i_isText_j2 (v1_0 : Int) (k1 : Int → Option Bool) (j2_0 : Bool) : Option Bool :=
  bif j2_0 then (some false) else (grd (i64 (v1_0 + 1)) (k1 (v1_0 + 1)))
def i_isText_l1 (p0 : ByteArray) : Nat → Int → Option Bool
  | 0, _ => none
  | f1 + 1, v1_0 => bif decide (v1_0 < (p0.size : Int)) then (bnd1 (sidx p0 v1_0) (fun x2 => bif decide (x2 < 33) then (i_isText_j2 v1_0 (i_isText_l1 p0 f1) true) else (bnd1 (sidx p0 v1_0) (fun x5 => i_isText_j2 v1_0 (i_isText_l1 p0 f1) (decide (126 < x5)))))) else (i_isText_j0 p0)
def i_isText (p0 : ByteArray) : Option Bool :=
  i_isText_l1 p0 fuel0 0
/- impl.GetData -/
def i_GetData_j3 (p3 : Int) (j2_0 : Int) (j2_1 : ByteArray) (j2_2 : ByteArray) (j3_0 : Bool) : Option (Rec × Int) :=
  bif j3_0 then (some ((Rec.mk (⟨#[]⟩ : ByteArray) 0 0 0 (⟨#[]⟩ : ByteArray) (⟨#[]⟩ : ByteArray)), 2)) else (some ((Rec.mk (⟨#[]⟩ : ByteArray) p3 0 j2_0 j2_1 j2_2), 0))
def i_GetData_j2 (p1 : Int) (p2 : Int) (p3 : Int) (j2_0 : Int) (j2_1 : ByteArray) (j2_2 : ByteArray) (j2_3 : Int) (j2_4 : Bool) : Option (Rec × Int) :=
  bif !j2_4 then (i_GetData_j3 p3 j2_0 j2_1 j2_2 true) else (grd (i64 (p1 + p2)) (i_GetData_j3 p3 j2_0 j2_1 j2_2 (!decide (j2_3 = p1 + p2))))
def i_GetData_j1 (p0 : List Int) (p1 : Int) (p2 : Int) (p3 : Int) (j1_0 : Bool) : Option (Rec × Int) :=
  bif j1_0 then (some ((Rec.mk (⟨#[]⟩ : ByteArray) 0 0 0 (⟨#[]⟩ : ByteArray) (⟨#[]⟩ : ByteArray)), 1)) else (bnd1 (i_TypeOk p3) (fun x3 => bif !x3 then (some ((Rec.mk (⟨#[]⟩ : ByteArray) 0 0 0 (⟨#[]⟩ : ByteArray) (⟨#[]⟩ : ByteArray)), 2)) else (bif decide (p3 = 1) then (bnd2 (i_Get4 p0 p1) (fun x7 x8 => grd (i64 (p1 + 4)) (i_GetData_j2 p1 p2 p3 x7 (⟨#[]⟩ : ByteArray) (⟨#[]⟩ : ByteArray) (p1 + 4) x8))) else (bif decide (p3 = 16) then (bif decide (p2 = 0) then (some ((Rec.mk (⟨#[]⟩ : ByteArray) 0 0 0 (⟨#[]⟩ : ByteArray) (⟨#[]⟩ : ByteArray)), 2)) else (bnd1 (idx p0 p1) (fun x13 => grd (i64 (1 + (IntKind.i64.wrap x13))) (grd (i64 (p1 + (1 + (IntKind.i64.wrap x13)))) (grd (i64 (p1 + p2)) (bif decide (p1 + (1 + (IntKind.i64.wrap x13)) = p1 + p2) then (grd (i64 (p1 + 1)) (grd ((0 : Int) ≤ p1 + 1 ∧ p1 + 1 ≤ p1 + (1 + (IntKind.i64.wrap x13)) ∧ p1 + (1 + (IntKind.i64.wrap x13)) ≤ (p0.length : Int)) (bnd1 (i_isText (strOfNums ((p0.drop (p1 + 1).toNat).take ((p1 + (1 + (IntKind.i64.wrap x13))).toNat - (p1 + 1).toNat)))) (fun x21 => i_GetData_j2 p1 p2 p3 0 (⟨#[]⟩ : ByteArray) (strOfNums ((p0.drop (p1 + 1).toNat).take ((p1 + (1 + (IntKind.i64.wrap x13))).toNat - (p1 + 1).toNat))) (p1 + (1 + (IntKind.i64.wrap x13))) x21)))) else (i_GetData_j2 p1 p2 p3 0 (⟨#[]⟩ : ByteArray) (⟨#[]⟩ : ByteArray) (p1 + (1 + (IntKind.i64.wrap x13))) true))))))) else (bnd3 (i_GetName p0 p1) (fun x23 x24 x25 => bif !decide (x25 = 0) then (some ((Rec.mk (⟨#[]⟩ : ByteArray) 0 0 0 (⟨#[]⟩ : ByteArray) (⟨#[]⟩ : ByteArray)), x25)) else (bif decide (p3 = 6) then (bnd2 (i_Get4 p0 x24) (fun x29 x30 => grd (i64 (x24 + 4)) (i_GetData_j2 p1 p2 p3 x29 x23 (⟨#[]⟩ : ByteArray) (x24 + 4) x30))) else (i_GetData_j2 p1 p2 p3 0 x23 (⟨#[]⟩ : ByteArray) x24 true))))))))
def i_GetData_j0 (p0 : List Int) (p1 : Int) (p2 : Int) (p3 : Int) (j0_0 : Bool) : Option (Rec × Int) :=
  bif j0_0 then (some ((Rec.mk (⟨#[]⟩ : ByteArray) 0 0 0 (⟨#[]⟩ : ByteArray) (⟨#[]⟩ : ByteArray)), 2)) else (bif decide (p1 < 0) then (i_GetData_j1 p0 p1 p2 p3 true) else (grd (i64 ((p0.length : Int) - p2)) (i_GetData_j1 p0 p1 p2 p3 (decide ((p0.length : Int) - p2 < p1)))))
def i_GetData (p0 : List Int) (p1 : Int) (p2 : Int) (p3 : Int) : Option (Rec × Int) :=
  bif decide (p2 < 0) then (i_GetData_j0 p0 p1 p2 p3 true) else (i_GetData_j0 p0 p1 p2 p3 (decide (255 < p2)))
/- impl.isTtl -/
def i_isTtl (p0 : Int) : Option Bool :=
  bif decide (0 ≤ p0) then (some (decide (p0 ≤ 100000))) else (some false)
/- impl.isFour -/
def i_isFour (p0 : Int) : Option Bool :=
  bif decide (0 ≤ p0) then (some (decide (p0 ≤ 2147483647))) else (some false)
/- impl.RecordOk -/
def i_RecordOk_j1 (p0 : Rec) (j1_0 : Bool) : Option Bool :=
  bif j1_0 then (bif decide (p0.n = 0) then (bnd1 (i_NameOk p0.host) (fun x9 => bif x9 then (some (decide (p0.text = (⟨#[]⟩ : ByteArray)))) else (some false))) else (some false)) else (bif decide (p0.ty = 6) then (bnd1 (i_isTtl p0.n) (fun x13 => bif x13 then (bnd1 (i_NameOk p0.host) (fun x16 => bif x16 then (some (decide (p0.text = (⟨#[]⟩ : ByteArray)))) else (some false))) else (some false))) else (bif decide (p0.ty = 16) then (bif decide (p0.n = 0) then (bif decide (p0.host = (⟨#[]⟩ : ByteArray)) then (bnd1 (i_isText p0.text) (fun x22 => some x22)) else (some false)) else (some false)) else (some false)))
def i_RecordOk_j0 (p0 : Rec) (j0_0 : Bool) : Option Bool :=
  bif j0_0 then (some false) else (bif decide (p0.ty = 1) then (bnd1 (i_isFour p0.n) (fun x3 => bif x3 then (bif decide (p0.host = (⟨#[]⟩ : ByteArray)) then (some (decide (p0.text = (⟨#[]⟩ : ByteArray)))) else (some false)) else (some false))) else (bif decide (p0.ty = 2) then (i_RecordOk_j1 p0 (decide (p0.ty = 2))) else (i_RecordOk_j1 p0 (decide (p0.ty = 5)))))
def i_RecordOk (p0 : Rec) : Option Bool :=
  bnd1 (i_NameOk p0.name) (fun x1 => bif !x1 then (i_RecordOk_j0 p0 true) else (bnd1 (i_isTtl p0.ttl) (fun x4 => i_RecordOk_j0 p0 (!x4))))
/- impl.GetRecord -/
def i_GetRecord_j0 (x1 : ByteArray) (x2 : Int) (x16 : Int) (x20 : Int) (x24 : Rec) (j0_0 : Bool) : Option (Rec × Int × Int) :=
  bif j0_0 then (some ((Rec.mk (⟨#[]⟩ : ByteArray) 0 0 0 (⟨#[]⟩ : ByteArray) (⟨#[]⟩ : ByteArray)), 0, 2)) else (grd (i64 (x2 + 10)) (grd (i64 ((x2 + 10) + x20)) (some ((Rec.mk x1 x24.ty x16 x24.n x24.host x24.text), ((x2 + 10) + x20), 0))))
def i_GetRecord (p0 : List Int) (p1 : Int) : Option (Rec × Int × Int) :=
  bnd3 (i_GetName p0 p1) (fun x1 x2 x3 => bif !decide (x3 = 0) then (some ((Rec.mk (⟨#[]⟩ : ByteArray) 0 0 0 (⟨#[]⟩ : ByteArray) (⟨#[]⟩ : ByteArray)), 0, x3)) else (grd (i64 ((p0.length : Int) - x2)) (bif decide ((p0.length : Int) - x2 < 10) then (some ((Rec.mk (⟨#[]⟩ : ByteArray) 0 0 0 (⟨#[]⟩ : ByteArray) (⟨#[]⟩ : ByteArray)), 0, 1)) else (bnd2 (i_Get2 p0 x2) (fun x8 x9 => grd (i64 (x2 + 2)) (bnd2 (i_Get2 p0 (x2 + 2)) (fun x12 x13 => grd (i64 (x2 + 4)) (bnd2 (i_Get4 p0 (x2 + 4)) (fun x16 x17 => grd (i64 (x2 + 8)) (bnd2 (i_Get2 p0 (x2 + 8)) (fun x20 x21 => grd (i64 (x2 + 10)) (bnd2 (i_GetData p0 (x2 + 10) x20 x8) (fun x24 x25 => bif !decide (x25 = 0) then (some ((Rec.mk (⟨#[]⟩ : ByteArray) 0 0 0 (⟨#[]⟩ : ByteArray) (⟨#[]⟩ : ByteArray)), 0, x25)) else (bif !decide (x12 = 1) then (i_GetRecord_j0 x1 x2 x16 x20 x24 true) else (bif !x17 then (i_GetRecord_j0 x1 x2 x16 x20 x24 true) else (bnd1 (i_RecordOk (Rec.mk x1 x24.ty x16 x24.n x24.host x24.text)) (fun x30 => i_GetRecord_j0 x1 x2 x16 x20 x24 (!x30))))))))))))))))))
/- impl.GetRecords -/
def i_GetRecords_l1 (p0 : List Int) (p2 : Int) : Nat → Int → (List Rec) → Int → Option ((List Rec) × Int × Int)
  | 0, _, _, _ => none
  | f1 + 1, v1_0, v1_1, v1_2 => bif decide (v1_2 < p2) then (bnd3 (i_GetRecord p0 v1_0) (fun x3 x4 x5 => bif !decide (x5 = 0) then (some (([] : List Rec), 0, x5)) else (grd ((v1_1 ++ [x3]).length ≤ 1099511627776) (grd (i64 (v1_2 + 1)) (i_GetRecords_l1 p0 p2 f1 x4 (v1_1 ++ [x3]) (v1_2 + 1)))))) else (some (v1_1, v1_0, 0))
def i_GetRecords_j0 (p0 : List Int) (p1 : Int) (p2 : Int) (j0_0 : Bool) : Option ((List Rec) × Int × Int) :=
  bif j0_0 then (some (([] : List Rec), 0, 2)) else (i_GetRecords_l1 p0 p2 fuel0 p1 ([] : List Rec) 0)
def i_GetRecords (p0 : List Int) (p1 : Int) (p2 : Int) : Option ((List Rec) × Int × Int) :=
  bif decide (p2 < 0) then (i_GetRecords_j0 p0 p1 p2 true) else (i_GetRecords_j0 p0 p1 p2 (decide (8 < p2)))
/- impl.GetMsg -/
def i_GetMsg_j2 (x1 : MMsg) (x8 : Quest) (j1_0 : List Rec) (j1_1 : List Rec) (j1_2 : List Rec) (j2_0 : Bool) : Option (MMsg × Bool) :=
  bif j2_0 then (some ((MMsg.mk 0 false false false false false 0 (Quest.mk (⟨#[]⟩ : ByteArray) 0) ([] : List Rec) ([] : List Rec) ([] : List Rec)), false)) else (some ((MMsg.mk x1.id x1.reply x1.auth x1.cut x1.want x1.can x1.code x8 j1_0 j1_1 j1_2), true))
def i_GetMsg_j1 (p0 : List Int) (x1 : MMsg) (x8 : Quest) (j1_0 : List Rec) (j1_1 : List Rec) (j1_2 : List Rec) (j1_3 : Int) (j1_4 : Int) : Option (MMsg × Bool) :=
  bif !decide (j1_4 = 0) then (i_GetMsg_j2 x1 x8 j1_0 j1_1 j1_2 true) else (i_GetMsg_j2 x1 x8 j1_0 j1_1 j1_2 (!decide (j1_3 = (p0.length : Int))))
def i_GetMsg_j0 (p0 : List Int) (x1 : MMsg) (x2 : Int) (x3 : Int) (x4 : Int) (j0_0 : Bool) : Option (MMsg × Bool) :=
  bif j0_0 then (some ((MMsg.mk 0 false false false false false 0 (Quest.mk (⟨#[]⟩ : ByteArray) 0) ([] : List Rec) ([] : List Rec) ([] : List Rec)), false)) else (bnd3 (i_GetQuest p0 12) (fun x8 x9 x10 => bif decide (x10 = 0) then (bnd1 (idx [x2, x3, x4] 0) (fun x13 => bnd3 (i_GetRecords p0 x9 x13) (fun x15 x16 x17 => bif decide (x17 = 0) then (bnd1 (idx [x2, x3, x4] 1) (fun x20 => bnd3 (i_GetRecords p0 x16 x20) (fun x22 x23 x24 => bif decide (x24 = 0) then (bnd1 (idx [x2, x3, x4] 2) (fun x27 => bnd3 (i_GetRecords p0 x23 x27) (fun x29 x30 x31 => i_GetMsg_j1 p0 x1 x8 x15 x22 x29 x30 x31))) else (i_GetMsg_j1 p0 x1 x8 x15 x22 x1.ad x23 x24)))) else (bif decide (x17 = 0) then (bnd1 (idx [x2, x3, x4] 2) (fun x34 => bnd3 (i_GetRecords p0 x16 x34) (fun x36 x37 x38 => i_GetMsg_j1 p0 x1 x8 x15 x1.au x36 x37 x38))) else (i_GetMsg_j1 p0 x1 x8 x15 x1.au x1.ad x16 x17))))) else (bif decide (x10 = 0) then (bnd1 (idx [x2, x3, x4] 1) (fun x41 => bnd3 (i_GetRecords p0 x9 x41) (fun x43 x44 x45 => bif decide (x45 = 0) then (bnd1 (idx [x2, x3, x4] 2) (fun x48 => bnd3 (i_GetRecords p0 x44 x48) (fun x50 x51 x52 => i_GetMsg_j1 p0 x1 x8 x1.an x43 x50 x51 x52))) else (i_GetMsg_j1 p0 x1 x8 x1.an x43 x1.ad x44 x45)))) else (bif decide (x10 = 0) then (bnd1 (idx [x2, x3, x4] 2) (fun x55 => bnd3 (i_GetRecords p0 x9 x55) (fun x57 x58 x59 => i_GetMsg_j1 p0 x1 x8 x1.an x1.au x57 x58 x59))) else (i_GetMsg_j1 p0 x1 x8 x1.an x1.au x1.ad x9 x10)))))
def i_GetMsg (p0 : List Int) : Option (MMsg × Bool) :=
  bnd5 (i_GetHead p0) (fun x1 x2 x3 x4 x5 => bif !x5 then (i_GetMsg_j0 p0 x1 x2 x3 x4 true) else (i_GetMsg_j0 p0 x1 x2 x3 x4 (decide (512 < (p0.length : Int)))))
/- spec.Get2 -/
def s_Get2_j0 (p0 : List Int) (p1 : Int) (j0_0 : Bool) : Option (Int × Bool) :=
  bif j0_0 then (some (0, false)) else (bnd1 (idx p0 p1) (fun x2 => grd (i64 (p1 + 1)) (bnd1 (idx p0 (p1 + 1)) (fun x5 => some ((ior .i64 (ishl .i64 (IntKind.i64.wrap x2) 8) (IntKind.i64.wrap x5)), true)))))
def s_Get2 (p0 : List Int) (p1 : Int) : Option (Int × Bool) :=
  bif decide (p1 < 0) then (s_Get2_j0 p0 p1 true) else (grd (i64 ((p0.length : Int) - 2)) (s_Get2_j0 p0 p1 (decide ((p0.length : Int) - 2 < p1))))
/- spec.GetHead -/
def s_GetHead_j0 (p0 : List Int) (j0_0 : Bool) : Option (MMsg × Int × Int × Int × Bool) :=
  bif j0_0 then (some ((MMsg.mk 0 false false false false false 0 (Quest.mk (⟨#[]⟩ : ByteArray) 0) ([] : List Rec) ([] : List Rec) ([] : List Rec)), 0, 0, 0, false)) else (bnd2 (s_Get2 p0 0) (fun x2 x3 => bnd2 (s_Get2 p0 4) (fun x5 x6 => bnd2 (s_Get2 p0 6) (fun x8 x9 => bnd2 (s_Get2 p0 8) (fun x11 x12 => bnd2 (s_Get2 p0 10) (fun x14 x15 => bif !decide (x5 = 1) then (some ((MMsg.mk 0 false false false false false 0 (Quest.mk (⟨#[]⟩ : ByteArray) 0) ([] : List Rec) ([] : List Rec) ([] : List Rec)), 0, 0, 0, false)) else (bnd1 (idx p0 2) (fun x18 => bnd1 (idx p0 3) (fun x20 => some ((MMsg.mk x2 (!decide (iand .u8 x18 128 = 0)) (!decide (iand .u8 x18 4 = 0)) (!decide (iand .u8 x18 2 = 0)) (!decide (iand .u8 x18 1 = 0)) (!decide (iand .u8 x20 128 = 0)) (IntKind.i64.wrap (iand .u8 x20 15)) (Quest.mk (⟨#[]⟩ : ByteArray) 0) ([] : List Rec) ([] : List Rec) ([] : List Rec)), x8, x11, x14, true))))))))))
def s_GetHead (p0 : List Int) : Option (MMsg × Int × Int × Int × Bool) :=
  bif decide ((p0.length : Int) < 12) then (s_GetHead_j0 p0 true) else (bnd1 (idx p0 2) (fun x2 => bif !decide (iand .u8 x2 120 = 0) then (s_GetHead_j0 p0 true) else (bnd1 (idx p0 3) (fun x5 => s_GetHead_j0 p0 (!decide (iand .u8 x5 112 = 0))))))
/- spec.GetQuest -/
def s_GetQuest_j0 (x1 : ByteArray) (x2 : Int) (x8 : Int) (j0_0 : Bool) : Option (Quest × Int × Int) :=
  bif j0_0 then (some ((Quest.mk (⟨#[]⟩ : ByteArray) 0), 0, 2)) else (grd (i64 (x2 + 4)) (some ((Quest.mk x1 x8), (x2 + 4), 0)))
def s_GetQuest (p0 : List Int) (p1 : Int) : Option (Quest × Int × Int) :=
  bnd3 (s_GetName p0 p1) (fun x1 x2 x3 => bif !decide (x3 = 0) then (some ((Quest.mk (⟨#[]⟩ : ByteArray) 0), 0, x3)) else (grd (i64 ((p0.length : Int) - 4)) (bif decide ((p0.length : Int) - 4 < x2) then (some ((Quest.mk (⟨#[]⟩ : ByteArray) 0), 0, 1)) else (bnd2 (s_Get2 p0 x2) (fun x8 x9 => grd (i64 (x2 + 2)) (bnd2 (s_Get2 p0 (x2 + 2)) (fun x12 x13 => bnd1 (s_QuestOk (Quest.mk x1 x8)) (fun x15 => bif !x15 then (s_GetQuest_j0 x1 x2 x8 true) else (s_GetQuest_j0 x1 x2 x8 (!decide (x12 = 1)))))))))))
/- spec.Get4 -/
def s_Get4_j0 (p0 : List Int) (p1 : Int) (j0_0 : Bool) : Option (Int × Bool) :=
  bif j0_0 then (some (0, false)) else (bnd1 (idx p0 p1) (fun x2 => grd (i64 (p1 + 1)) (bnd1 (idx p0 (p1 + 1)) (fun x5 => grd (i64 (p1 + 2)) (bnd1 (idx p0 (p1 + 2)) (fun x8 => grd (i64 (p1 + 3)) (bnd1 (idx p0 (p1 + 3)) (fun x11 => bif decide (2147483647 < ior .i64 (ior .i64 (ior .i64 (ishl .i64 (IntKind.i64.wrap x2) 24) (ishl .i64 (IntKind.i64.wrap x5) 16)) (ishl .i64 (IntKind.i64.wrap x8) 8)) (IntKind.i64.wrap x11)) then (some (0, false)) else (some ((ior .i64 (ior .i64 (ior .i64 (ishl .i64 (IntKind.i64.wrap x2) 24) (ishl .i64 (IntKind.i64.wrap x5) 16)) (ishl .i64 (IntKind.i64.wrap x8) 8)) (IntKind.i64.wrap x11)), true))))))))))
def s_Get4 (p0 : List Int) (p1 : Int) : Option (Int × Bool) :=
  bif decide (p1 < 0) then (s_Get4_j0 p0 p1 true) else (grd (i64 ((p0.length : Int) - 4)) (s_Get4_j0 p0 p1 (decide ((p0.length : Int) - 4 < p1))))
/- spec.GetData -/
def s_GetData_j1  (j1_0 : Bool) : Option (Rec × Int) :=
  bif j1_0 then (some ((Rec.mk (⟨#[]⟩ : ByteArray) 0 0 0 (⟨#[]⟩ : ByteArray) (⟨#[]⟩ : ByteArray)), 1)) else (some ((Rec.mk (⟨#[]⟩ : ByteArray) 0 0 0 (⟨#[]⟩ : ByteArray) (⟨#[]⟩ : ByteArray)), 2))
def s_GetData_j3 (p3 : Int) (x10 : Int) (j3_0 : Bool) : Option (Rec × Int) :=
  bif j3_0 then (some ((Rec.mk (⟨#[]⟩ : ByteArray) 0 0 0 (⟨#[]⟩ : ByteArray) (⟨#[]⟩ : ByteArray)), 2)) else (some ((Rec.mk (⟨#[]⟩ : ByteArray) p3 0 x10 (⟨#[]⟩ : ByteArray) (⟨#[]⟩ : ByteArray)), 0))
def s_GetData_j4 (p0 : List Int) (p1 : Int) (p2 : Int) (p3 : Int) (j4_0 : Bool) : Option (Rec × Int) :=
  bif j4_0 then (some ((Rec.mk (⟨#[]⟩ : ByteArray) 0 0 0 (⟨#[]⟩ : ByteArray) (⟨#[]⟩ : ByteArray)), 2)) else (grd (i64 (p1 + 1)) (grd ((0 : Int) ≤ p1 + 1 ∧ p1 + 1 ≤ p1 + p2 ∧ p1 + p2 ≤ (p0.length : Int)) (bnd1 (s_l5Text (strOfNums ((p0.drop (p1 + 1).toNat).take ((p1 + p2).toNat - (p1 + 1).toNat)))) (fun x18 => bif !x18 then (some ((Rec.mk (⟨#[]⟩ : ByteArray) 0 0 0 (⟨#[]⟩ : ByteArray) (⟨#[]⟩ : ByteArray)), 2)) else (some ((Rec.mk (⟨#[]⟩ : ByteArray) p3 0 0 (⟨#[]⟩ : ByteArray) (strOfNums ((p0.drop (p1 + 1).toNat).take ((p1 + p2).toNat - (p1 + 1).toNat)))), 0))))))
def s_GetData_j5 (p1 : Int) (p2 : Int) (p3 : Int) (x21 : ByteArray) (j5_0 : Int) (j5_1 : Int) : Option (Rec × Int) :=
  bif !decide (j5_1 = p1 + p2) then (some ((Rec.mk (⟨#[]⟩ : ByteArray) 0 0 0 (⟨#[]⟩ : ByteArray) (⟨#[]⟩ : ByteArray)), 2)) else (some ((Rec.mk (⟨#[]⟩ : ByteArray) p3 0 j5_0 x21 (⟨#[]⟩ : ByteArray)), 0))
def s_GetData_j2 (p0 : List Int) (p1 : Int) (p2 : Int) (p3 : Int) (j2_0 : Bool) : Option (Rec × Int) :=
  bif j2_0 then (some ((Rec.mk (⟨#[]⟩ : ByteArray) 0 0 0 (⟨#[]⟩ : ByteArray) (⟨#[]⟩ : ByteArray)), 1)) else (grd (i64 (p1 + p2)) (bif decide (p3 = 1) then (bnd2 (s_Get4 p0 p1) (fun x10 x11 => bif !x11 then (s_GetData_j3 p3 x10 true) else (s_GetData_j3 p3 x10 (!decide (p2 = 4))))) else (bif decide (p3 = 16) then (bif decide (p2 < 1) then (s_GetData_j4 p0 p1 p2 p3 true) else (bnd1 (idx p0 p1) (fun x16 => grd (i64 (p2 - 1)) (s_GetData_j4 p0 p1 p2 p3 (!decide (IntKind.i64.wrap x16 = p2 - 1)))))) else (bnd3 (s_GetName p0 p1) (fun x21 x22 x23 => bif !decide (x23 = 0) then (some ((Rec.mk (⟨#[]⟩ : ByteArray) 0 0 0 (⟨#[]⟩ : ByteArray) (⟨#[]⟩ : ByteArray)), x23)) else (bif decide (p3 = 6) then (bnd2 (s_Get4 p0 x22) (fun x27 x28 => bif !x28 then (some ((Rec.mk (⟨#[]⟩ : ByteArray) 0 0 0 (⟨#[]⟩ : ByteArray) (⟨#[]⟩ : ByteArray)), 2)) else (grd (i64 (x22 + 4)) (s_GetData_j5 p1 p2 p3 x21 x27 (x22 + 4))))) else (s_GetData_j5 p1 p2 p3 x21 0 x22)))))))
def s_GetData_j0 (p0 : List Int) (p1 : Int) (p2 : Int) (p3 : Int) (j0_0 : Bool) : Option (Rec × Int) :=
  bif j0_0 then (bnd1 (s_l1In p2 0 255) (fun x2 => bif x2 then (bif decide (p1 < 0) then (s_GetData_j1 true) else (grd (i64 ((p0.length : Int) - p2)) (s_GetData_j1 (decide ((p0.length : Int) - p2 < p1))))) else (s_GetData_j1 false))) else (bif decide (p1 < 0) then (s_GetData_j2 p0 p1 p2 p3 true) else (grd (i64 ((p0.length : Int) - p2)) (s_GetData_j2 p0 p1 p2 p3 (decide ((p0.length : Int) - p2 < p1)))))
def s_GetData (p0 : List Int) (p1 : Int) (p2 : Int) (p3 : Int) : Option (Rec × Int) :=
  bnd1 (s_l1In p2 0 255) (fun x1 => bif !x1 then (s_GetData_j0 p0 p1 p2 p3 true) else (bnd1 (s_TypeOk p3) (fun x4 => s_GetData_j0 p0 p1 p2 p3 (!x4))))
/- spec.GetRecord -/
def s_GetRecord_j0 (x1 : ByteArray) (x2 : Int) (x16 : Int) (x20 : Int) (x24 : Rec) (j0_0 : Bool) : Option (Rec × Int × Int) :=
  bif j0_0 then (some ((Rec.mk (⟨#[]⟩ : ByteArray) 0 0 0 (⟨#[]⟩ : ByteArray) (⟨#[]⟩ : ByteArray)), 0, 2)) else (grd (i64 (x2 + 10)) (grd (i64 ((x2 + 10) + x20)) (some ((Rec.mk x1 x24.ty x16 x24.n x24.host x24.text), ((x2 + 10) + x20), 0))))
def s_GetRecord (p0 : List Int) (p1 : Int) : Option (Rec × Int × Int) :=
  bnd3 (s_GetName p0 p1) (fun x1 x2 x3 => bif !decide (x3 = 0) then (some ((Rec.mk (⟨#[]⟩ : ByteArray) 0 0 0 (⟨#[]⟩ : ByteArray) (⟨#[]⟩ : ByteArray)), 0, x3)) else (grd (i64 ((p0.length : Int) - 10)) (bif decide ((p0.length : Int) - 10 < x2) then (some ((Rec.mk (⟨#[]⟩ : ByteArray) 0 0 0 (⟨#[]⟩ : ByteArray) (⟨#[]⟩ : ByteArray)), 0, 1)) else (bnd2 (s_Get2 p0 x2) (fun x8 x9 => grd (i64 (x2 + 2)) (bnd2 (s_Get2 p0 (x2 + 2)) (fun x12 x13 => grd (i64 (x2 + 4)) (bnd2 (s_Get4 p0 (x2 + 4)) (fun x16 x17 => grd (i64 (x2 + 8)) (bnd2 (s_Get2 p0 (x2 + 8)) (fun x20 x21 => grd (i64 (x2 + 10)) (bnd2 (s_GetData p0 (x2 + 10) x20 x8) (fun x24 x25 => bif !decide (x25 = 0) then (some ((Rec.mk (⟨#[]⟩ : ByteArray) 0 0 0 (⟨#[]⟩ : ByteArray) (⟨#[]⟩ : ByteArray)), 0, x25)) else (bif !x17 then (s_GetRecord_j0 x1 x2 x16 x20 x24 true) else (bif !decide (x12 = 1) then (s_GetRecord_j0 x1 x2 x16 x20 x24 true) else (bnd1 (s_RecordOk (Rec.mk x1 x24.ty x16 x24.n x24.host x24.text)) (fun x30 => s_GetRecord_j0 x1 x2 x16 x20 x24 (!x30))))))))))))))))))
/- spec.GetRecords -/
def s_GetRecords_l0 (p0 : List Int) (p2 : Int) : Nat → Int → (List Rec) → Int → Option ((List Rec) × Int × Int)
  | 0, _, _, _ => none
  | f0 + 1, v0_0, v0_1, v0_2 => bif decide (v0_2 < p2) then (bnd3 (s_GetRecord p0 v0_0) (fun x5 x6 x7 => bif !decide (x7 = 0) then (some (([] : List Rec), 0, x7)) else (grd ((v0_1 ++ [x5]).length ≤ 1099511627776) (grd (i64 (v0_2 + 1)) (s_GetRecords_l0 p0 p2 f0 x6 (v0_1 ++ [x5]) (v0_2 + 1)))))) else (some (v0_1, v0_0, 0))
def s_GetRecords (p0 : List Int) (p1 : Int) (p2 : Int) : Option ((List Rec) × Int × Int) :=
  bnd1 (s_l1In p2 0 8) (fun x1 => bif !x1 then (some (([] : List Rec), 0, 2)) else (s_GetRecords_l0 p0 p2 fuel0 p1 ([] : List Rec) 0))
/- spec.GetMsg -/
def s_GetMsg_j1 (x1 : MMsg) (x8 : Quest) (x13 : List Rec) (x18 : List Rec) (x23 : List Rec) (j1_0 : Bool) : Option (MMsg × Bool) :=
  bif j1_0 then (some ((MMsg.mk 0 false false false false false 0 (Quest.mk (⟨#[]⟩ : ByteArray) 0) ([] : List Rec) ([] : List Rec) ([] : List Rec)), false)) else (some ((MMsg.mk x1.id x1.reply x1.auth x1.cut x1.want x1.can x1.code x8 x13 x18 x23), true))
def s_GetMsg_j0 (p0 : List Int) (x1 : MMsg) (x2 : Int) (x3 : Int) (x4 : Int) (j0_0 : Bool) : Option (MMsg × Bool) :=
  bif j0_0 then (some ((MMsg.mk 0 false false false false false 0 (Quest.mk (⟨#[]⟩ : ByteArray) 0) ([] : List Rec) ([] : List Rec) ([] : List Rec)), false)) else (bnd3 (s_GetQuest p0 12) (fun x8 x9 x10 => bif !decide (x10 = 0) then (some ((MMsg.mk 0 false false false false false 0 (Quest.mk (⟨#[]⟩ : ByteArray) 0) ([] : List Rec) ([] : List Rec) ([] : List Rec)), false)) else (bnd3 (s_GetRecords p0 x9 x2) (fun x13 x14 x15 => bif !decide (x15 = 0) then (some ((MMsg.mk 0 false false false false false 0 (Quest.mk (⟨#[]⟩ : ByteArray) 0) ([] : List Rec) ([] : List Rec) ([] : List Rec)), false)) else (bnd3 (s_GetRecords p0 x14 x3) (fun x18 x19 x20 => bif !decide (x20 = 0) then (some ((MMsg.mk 0 false false false false false 0 (Quest.mk (⟨#[]⟩ : ByteArray) 0) ([] : List Rec) ([] : List Rec) ([] : List Rec)), false)) else (bnd3 (s_GetRecords p0 x19 x4) (fun x23 x24 x25 => bif !decide (x25 = 0) then (s_GetMsg_j1 x1 x8 x13 x18 x23 true) else (s_GetMsg_j1 x1 x8 x13 x18 x23 (!decide (x24 = (p0.length : Int))))))))))))
def s_GetMsg (p0 : List Int) : Option (MMsg × Bool) :=
  bnd5 (s_GetHead p0) (fun x1 x2 x3 x4 x5 => bif !x5 then (s_GetMsg_j0 p0 x1 x2 x3 x4 true) else (s_GetMsg_j0 p0 x1 x2 x3 x4 (decide (512 < (p0.length : Int)))))
/- spec.DrawGetQuest -/
def s_DrawGetQuest (p0 : List Int) : Option ((List Int) × Int) :=
  bnd1 (s_l1New p0) (fun x1 => bnd2 (s_l8Packet x1) (fun x3 x4 => bnd2 (s_l1Int x4 [12, 12, 12, 12, 0, (-1), 99]) (fun x6 x7 => some (x3, x6))))
/- spec.DrawGetHead -/
def s_DrawGetHead_j0 (x3 : List Int) (j0_0 : List Int) (j0_1 : Int) (j0_2 : Int) (j0_3 : Bool) : Option (List Int) :=
  bif j0_3 then (bnd2 (s_l1Below (Cur.mk j0_0 j0_1 j0_2) 4) (fun x7 x8 => grd (i64 (2 + x7)) (bnd2 (s_l1Below x8 256) (fun x11 x12 => bnd1 (idx x3 (2 + x7)) (fun x14 => some (x3.set ((2 + x7).toNat) (IntKind.u8.wrap x11))))))) else (some x3)
def s_DrawGetHead (p0 : List Int) : Option (List Int) :=
  bnd1 (s_l1New p0) (fun x1 => bnd2 (s_l8Packet x1) (fun x3 x4 => bif decide (5 < (x3.length : Int)) then (bnd2 (s_l1Once x4 4) (fun x7 x8 => s_DrawGetHead_j0 x3 x8.b x8.i x8.h x7)) else (s_DrawGetHead_j0 x3 x4.b x4.i x4.h false)))
/- laws.sameRecs -/
def w_sameRecs_l0 (p1 : List Rec) : List Rec → Nat → Option Bool
  | [], v0_0 => some true
  | e0 :: rs0, v0_0 => bnd1 (idx p1 (v0_0 : Int)) (fun x3 => bif !(decide (e0.name = x3.name) && (decide (e0.ty = x3.ty) && (decide (e0.ttl = x3.ttl) && (decide (e0.n = x3.n) && (decide (e0.host = x3.host) && (decide (e0.text = x3.text) && true)))))) then (some false) else (w_sameRecs_l0 p1 rs0 (v0_0 + 1)))
def w_sameRecs (p0 : List Rec) (p1 : List Rec) : Option Bool :=
  bif !decide ((p0.length : Int) = (p1.length : Int)) then (some false) else (w_sameRecs_l0 p1 p0 0)
/- laws.sameMsg -/
def w_sameMsg (p0 : MMsg) (p1 : MMsg) : Option Bool :=
  bif decide (p0.id = p1.id) then (bif (p0.reply == p1.reply) then (bif (p0.auth == p1.auth) then (bif (p0.cut == p1.cut) then (bif (p0.want == p1.want) then (bif (p0.can == p1.can) then (bif decide (p0.code = p1.code) then (bif (decide (p0.q.name = p1.q.name) && (decide (p0.q.ty = p1.q.ty) && true)) then (bnd1 (w_sameRecs p0.an p1.an) (fun x9 => bif x9 then (bnd1 (w_sameRecs p0.au p1.au) (fun x12 => bif x12 then (bnd1 (w_sameRecs p0.ad p1.ad) (fun x15 => some x15)) else (some false))) else (some false))) else (some false)) else (some false)) else (some false)) else (some false)) else (some false)) else (some false)) else (some false)) else (some false)
/- impl.Record] -/
def slices_IndexFunc_Record_l0 (p1 : Rec → Option Bool) : List Rec → Nat → Option Int
  | [], v0_0 => some (-1)
  | e0 :: rs0, v0_0 => bnd1 (p1 e0) (fun x2 => bif x2 then (some (v0_0 : Int)) else (slices_IndexFunc_Record_l0 p1 rs0 (v0_0 + 1)))
def slices_IndexFunc_Record (p0 : List Rec) (p1 : Rec → Option Bool) : Option Int :=
  slices_IndexFunc_Record_l0 p1 p0 0
/- impl.Record] -/
def slices_ContainsFunc_Record (p0 : List Rec) (p1 : Rec → Option Bool) : Option Bool :=
  bnd1 (slices_IndexFunc_Record p0 p1) (fun x1 => some (decide (0 ≤ x1)))
/- impl.allOk$1 -/
def i_allOk_1 (p0 : Rec) : Option Bool :=
  bnd1 (i_RecordOk p0) (fun x1 => some (!x1))
/- impl.allOk -/
def i_allOk (p0 : List Rec) (p1 : Int) : Option Bool :=
  bif decide ((p0.length : Int) ≤ p1) then (bnd1 (slices_ContainsFunc_Record p0 (fun a0 => i_allOk_1 a0)) (fun x2 => some (!x2))) else (some false)
/- impl.MsgOk -/
def i_MsgOk (p0 : MMsg) : Option Bool :=
  bif decide (0 ≤ p0.id) then (bif decide (p0.id ≤ 65535) then (bif decide (0 ≤ p0.code) then (bif decide (p0.code ≤ 15) then (bnd1 (i_QuestOk p0.q) (fun x5 => bif x5 then (bnd1 (i_allOk p0.an 8) (fun x8 => bif x8 then (bnd1 (i_allOk p0.au 8) (fun x11 => bif x11 then (bnd1 (i_allOk p0.ad 8) (fun x14 => some x14)) else (some false))) else (some false))) else (some false))) else (some false)) else (some false)) else (some false)) else (some false)
/- slices.Clone[[]byte,byte] -/
def slices_Clone_byte (p0 : List Int) : Option (List Int) :=
  grd ((([] : List Int) ++ p0).length ≤ 1099511627776) (some (([] : List Int) ++ p0))
/- impl.putBytes -/
def i_putBytes_l1 (p1 : Int) : Nat → (List Int) → Int → Option (List Int)
  | 0, _, _ => none
  | f1 + 1, v1_0, v1_1 => bif decide (0 ≤ v1_1) then (grd (i64 (8 * v1_1)) (grd (0 ≤ (8 * v1_1)) (grd ((v1_0 ++ [IntKind.u8.wrap (ishr .i64 p1 (8 * v1_1).toNat)]).length ≤ 1099511627776) (grd (i64 (v1_1 - 1)) (i_putBytes_l1 p1 f1 (v1_0 ++ [IntKind.u8.wrap (ishr .i64 p1 (8 * v1_1).toNat)]) (v1_1 - 1)))))) else (some v1_0)
def i_putBytes_j0 (p1 : Int) (p2 : Int) (x1 : List Int) (j0_0 : Bool) : Option (List Int) :=
  bif j0_0 then (some x1) else (grd (i64 (p2 - 1)) (i_putBytes_l1 p1 fuel0 x1 (p2 - 1)))
def i_putBytes (p0 : List Int) (p1 : Int) (p2 : Int) (p3 : Int) : Option (List Int) :=
  bnd1 (slices_Clone_byte p0) (fun x1 => bif decide (p1 < 0) then (i_putBytes_j0 p1 p2 x1 true) else (i_putBytes_j0 p1 p2 x1 (decide (p3 < p1))))
/- impl.Put2 -/
def i_Put2 (p0 : List Int) (p1 : Int) : Option (List Int) :=
  bnd1 (i_putBytes p0 p1 2 65535) (fun x1 => some x1)
/- impl.bit -/
def i_bit (p0 : Bool) (p1 : Int) : Option Int :=
  bif p0 then (some p1) else (some 0)
/- impl.PutHead -/
def i_PutHead_l0 (p0 : MMsg) : Nat → (List Int) → Int → Option (List Int)
  | 0, _, _ => none
  | f0 + 1, v0_0, v0_1 => bif decide (v0_1 < (3 : Int)) then (bnd1 (idx [p0.an, p0.au, p0.ad] v0_1) (fun x21 => bnd1 (i_Put2 v0_0 (x21.length : Int)) (fun x23 => grd (i64 (v0_1 + 1)) (i_PutHead_l0 p0 f0 x23 (v0_1 + 1))))) else (some v0_0)
def i_PutHead (p0 : MMsg) : Option (List Int) :=
  bnd1 (i_Put2 ([] : List Int) p0.id) (fun x1 => bnd1 (i_bit p0.reply 128) (fun x3 => bnd1 (i_bit p0.auth 4) (fun x5 => grd (i64 (x3 + x5)) (bnd1 (i_bit p0.cut 2) (fun x8 => grd (i64 ((x3 + x5) + x8)) (bnd1 (i_bit p0.want 1) (fun x11 => grd (i64 (((x3 + x5) + x8) + x11)) (bnd1 (i_bit p0.can 128) (fun x14 => grd (i64 (x14 + (iand .i64 p0.code 15))) (grd ((x1 ++ [IntKind.u8.wrap (((x3 + x5) + x8) + x11), IntKind.u8.wrap (x14 + (iand .i64 p0.code 15))]).length ≤ 1099511627776) (bnd1 (i_Put2 (x1 ++ [IntKind.u8.wrap (((x3 + x5) + x8) + x11), IntKind.u8.wrap (x14 + (iand .i64 p0.code 15))]) 1) (fun x18 => i_PutHead_l0 p0 fuel0 x18 0))))))))))))
/- impl.Above -/
def i_Above_j0  (j0_0 : List ByteArray) : Option (List ByteArray) :=
  grd ((j0_0 ++ ([(⟨#[]⟩ : ByteArray)])).length ≤ 1099511627776) (some (j0_0 ++ ([(⟨#[]⟩ : ByteArray)])))
def i_Above_l1 (x1 : List ByteArray) : List ByteArray → (List ByteArray) → Nat → Option (List ByteArray)
  | [], v1_0, v1_1 => i_Above_j0 v1_0
  | e1 :: rs1, v1_0, v1_1 => grd ((0 : Int) ≤ (v1_1 : Int) ∧ (v1_1 : Int) ≤ (x1.length : Int) ∧ (x1.length : Int) ≤ (x1.length : Int)) (bnd1 (i_JoinLabels ((x1.drop (0 + (v1_1 : Int).toNat)).take ((x1.length : Int).toNat - (v1_1 : Int).toNat))) (fun x5 => grd ((v1_0 ++ [x5]).length ≤ 1099511627776) (i_Above_l1 x1 rs1 (v1_0 ++ [x5]) (v1_1 + 1))))
def i_Above (p0 : ByteArray) : Option (List ByteArray) :=
  bnd1 (i_Labels p0) (fun x1 => i_Above_l1 x1 x1 ([] : List ByteArray) 0)
/- impl.PlaceOf -/
def i_PlaceOf_j2 (v0_0 : Int) (k0 : Int → Option Int) (j2_0 : Bool) : Option Int :=
  bif j2_0 then (some v0_0) else (grd (i64 (v0_0 + 1)) (k0 (v0_0 + 1)))
def i_PlaceOf_j1 (p0 : List Int) (p1 : ByteArray) (v0_0 : Int) (k0 : Int → Option Int) (j1_0 : Bool) : Option Int :=
  bif j1_0 then (bnd3 (i_GetName p0 v0_0) (fun x2 x3 x4 => bif decide (x4 = 0) then (i_PlaceOf_j2 v0_0 (k0) (decide (x2 = p1))) else (i_PlaceOf_j2 v0_0 (k0) false))) else (some (-1))
def i_PlaceOf_l0 (p0 : List Int) (p1 : ByteArray) : Nat → Int → Option Int
  | 0, _ => none
  | f0 + 1, v0_0 => bif decide (v0_0 < (p0.length : Int)) then (i_PlaceOf_j1 p0 p1 v0_0 (i_PlaceOf_l0 p0 p1 f0) (decide (v0_0 ≤ 16383))) else (i_PlaceOf_j1 p0 p1 v0_0 (i_PlaceOf_l0 p0 p1 f0) false)
def i_PlaceOf (p0 : List Int) (p1 : ByteArray) : Option Int :=
  i_PlaceOf_l0 p0 p1 fuel0 0
/- impl.PutLabel -/
def i_PutLabel (p0 : List Int) (p1 : ByteArray) : Option (List Int) :=
  bnd1 (slices_Clone_byte p0) (fun x1 => bnd1 (i_LabelOk p1) (fun x3 => bif !x3 then (some x1) else (grd ((x1 ++ [IntKind.u8.wrap (p1.size : Int)]).length ≤ 1099511627776) (grd (((x1 ++ [IntKind.u8.wrap (p1.size : Int)]) ++ (bytesOf p1)).length ≤ 1099511627776) (some ((x1 ++ [IntKind.u8.wrap (p1.size : Int)]) ++ (bytesOf p1)))))))
/- impl.PutPlain -/
def i_PutPlain_j0  (j0_0 : List Int) : Option (List Int) :=
  grd ((j0_0 ++ [0]).length ≤ 1099511627776) (some (j0_0 ++ [0]))
def i_PutPlain_l1  : List ByteArray → (List Int) → Nat → Option (List Int)
  | [], v1_0, v1_1 => i_PutPlain_j0 v1_0
  | e1 :: rs1, v1_0, v1_1 => bnd1 (i_PutLabel v1_0 e1) (fun x9 => i_PutPlain_l1 rs1 x9 (v1_1 + 1))
def i_PutPlain (p0 : List Int) (p1 : ByteArray) : Option (List Int) :=
  bnd1 (slices_Clone_byte p0) (fun x1 => bnd1 (i_NameOk p1) (fun x3 => bif !x3 then (some x1) else (bnd1 (i_Labels p1) (fun x6 => i_PutPlain_l1 x6 x1 0))))
/- impl.PutName -/
def i_PutName_j0 (p0 : List Int) (p1 : ByteArray) : Option (List Int) :=
  bnd1 (i_PutPlain p0 p1) (fun x8 => some x8)
def i_PutName_j3 (x11 : Int) (j3_0 : List Int) : Option (List Int) :=
  grd (i64 (192 + (IntKind.i64.wrap (Int.tdiv x11 256)))) (grd ((j3_0 ++ [IntKind.u8.wrap (192 + (IntKind.i64.wrap (Int.tdiv x11 256))), IntKind.u8.wrap (Int.tmod x11 256)]).length ≤ 1099511627776) (some (j3_0 ++ [IntKind.u8.wrap (192 + (IntKind.i64.wrap (Int.tdiv x11 256))), IntKind.u8.wrap (Int.tmod x11 256)])))
def i_PutName_l4 (x6 : List ByteArray) (v1_0 : Nat) (x11 : Int) : Nat → (List Int) → Int → Option (List Int)
  | 0, _, _ => none
  | f4 + 1, v4_0, v4_1 => bif decide (v4_1 < (((v1_0 : Int).toNat - ((0 : Nat) : Int).toNat) : Int)) then (bnd1 (idx ((x6.drop (0 + ((0 : Nat) : Int).toNat)).take ((v1_0 : Int).toNat - ((0 : Nat) : Int).toNat)) v4_1) (fun x16 => bnd1 (i_PutLabel v4_0 x16) (fun x18 => grd (i64 (v4_1 + 1)) (i_PutName_l4 x6 v1_0 x11 f4 x18 (v4_1 + 1))))) else (i_PutName_j3 x11 v4_0)
def i_PutName_j2 (x1 : List Int) (x6 : List ByteArray) (v1_0 : Nat) (x11 : Int) (k1 : Nat → Option (List Int)) (j2_0 : Bool) : Option (List Int) :=
  bif j2_0 then (k1 (v1_0 + 1)) else (grd ((0 : Int) ≤ ((0 : Nat) : Int) ∧ ((0 : Nat) : Int) ≤ (v1_0 : Int) ∧ (v1_0 : Int) ≤ (x6.length : Int)) (i_PutName_l4 x6 v1_0 x11 fuel0 x1 0))
def i_PutName_l1 (p0 : List Int) (p1 : ByteArray) (x1 : List Int) (x6 : List ByteArray) : List ByteArray → Nat → Option (List Int)
  | [], v1_0 => i_PutName_j0 p0 p1
  | e1 :: rs1, v1_0 => bnd1 (i_PlaceOf p0 e1) (fun x11 => bif decide (e1 = (⟨#[]⟩ : ByteArray)) then (i_PutName_j2 x1 x6 v1_0 x11 (i_PutName_l1 p0 p1 x1 x6 rs1) true) else (i_PutName_j2 x1 x6 v1_0 x11 (i_PutName_l1 p0 p1 x1 x6 rs1) (decide (x11 < 0))))
def i_PutName (p0 : List Int) (p1 : ByteArray) : Option (List Int) :=
  bnd1 (slices_Clone_byte p0) (fun x1 => bnd1 (i_NameOk p1) (fun x3 => bif !x3 then (some x1) else (bnd1 (i_Labels p1) (fun x6 => bnd1 (i_Above p1) (fun x8 => i_PutName_l1 p0 p1 x1 x6 x8 0)))))
/- impl.Put4 -/
def i_Put4 (p0 : List Int) (p1 : Int) : Option (List Int) :=
  bnd1 (i_putBytes p0 p1 4 2147483647) (fun x1 => some x1)
/- impl.PutData -/
def i_PutData_j0 (p0 : Rec) (j0_0 : Bool) : Option (List Int) :=
  bif j0_0 then (bnd1 (i_PutPlain ([] : List Int) p0.host) (fun x8 => some x8)) else (bif decide (p0.ty = 6) then (bnd1 (i_PutPlain ([] : List Int) p0.host) (fun x11 => bnd1 (i_Put4 x11 p0.n) (fun x13 => some x13))) else (grd (([IntKind.u8.wrap (p0.text.size : Int)] ++ (bytesOf p0.text)).length ≤ 1099511627776) (some ([IntKind.u8.wrap (p0.text.size : Int)] ++ (bytesOf p0.text)))))
def i_PutData (p0 : Rec) : Option (List Int) :=
  bnd1 (i_RecordOk p0) (fun x1 => bif !x1 then (some ([] : List Int)) else (bif decide (p0.ty = 1) then (bnd1 (i_Put4 ([] : List Int) p0.n) (fun x5 => some x5)) else (bif decide (p0.ty = 2) then (i_PutData_j0 p0 (decide (p0.ty = 2))) else (i_PutData_j0 p0 (decide (p0.ty = 5))))))
/- impl.PutRecord -/
def i_PutRecord (p0 : List Int) (p1 : Rec) : Option (List Int) :=
  grd ((([] : List Int) ++ p0).length ≤ 1099511627776) (bnd1 (i_RecordOk p1) (fun x2 => bif !x2 then (some (([] : List Int) ++ p0)) else (bnd1 (i_PutData p1) (fun x5 => bnd1 (i_PutName (([] : List Int) ++ p0) p1.name) (fun x7 => bnd1 (i_Put2 x7 p1.ty) (fun x9 => bnd1 (i_Put2 x9 1) (fun x11 => bnd1 (i_Put4 x11 p1.ttl) (fun x13 => bnd1 (i_Put2 x13 (x5.length : Int)) (fun x15 => grd ((x15 ++ x5).length ≤ 1099511627776) (some (x15 ++ x5)))))))))))
/- impl.PutRecords -/
def i_PutRecords_l0  : List Rec → (List Int) → Nat → Option (List Int)
  | [], v0_0, v0_1 => some v0_0
  | e0 :: rs0, v0_0, v0_1 => bnd1 (i_PutRecord v0_0 e0) (fun x3 => i_PutRecords_l0 rs0 x3 (v0_1 + 1))
def i_PutRecords (p0 : List Int) (p1 : List Rec) : Option (List Int) :=
  grd ((([] : List Int) ++ p0).length ≤ 1099511627776) (i_PutRecords_l0 p1 (([] : List Int) ++ p0) 0)
/- impl.PutMsg -/
def i_PutMsg_j0  (j0_0 : List Int) : Option (List Int) :=
  bif decide (512 < (j0_0.length : Int)) then (some ([] : List Int)) else (some j0_0)
def i_PutMsg_l1 (p0 : MMsg) : Nat → (List Int) → Int → Option (List Int)
  | 0, _, _ => none
  | f1 + 1, v1_0, v1_1 => bif decide (v1_1 < (3 : Int)) then (bnd1 (idx [p0.an, p0.au, p0.ad] v1_1) (fun x13 => bnd1 (i_PutRecords v1_0 x13) (fun x15 => grd (i64 (v1_1 + 1)) (i_PutMsg_l1 p0 f1 x15 (v1_1 + 1))))) else (i_PutMsg_j0 v1_0)
def i_PutMsg (p0 : MMsg) : Option (List Int) :=
  bnd1 (i_MsgOk p0) (fun x1 => bif !x1 then (some ([] : List Int)) else (bnd1 (i_PutHead p0) (fun x4 => bnd1 (i_PutName x4 p0.q.name) (fun x6 => bnd1 (i_Put2 x6 p0.q.ty) (fun x8 => bnd1 (i_Put2 x8 1) (fun x10 => i_PutMsg_l1 p0 fuel0 x10 0))))))
/- laws.FnPacketsBent -/
def w_FnPacketsBent_j0 (x6 : MMsg) (x7 : Bool) (j0_0 : Bool) : Option Bool :=
  bif j0_0 then (some false) else (bif !x7 then (some true) else (bnd1 (i_MsgOk x6) (fun x39 => bif !x39 then (some false) else (bnd1 (i_PutMsg x6) (fun x42 => bnd2 (i_GetMsg x42) (fun x44 x45 => bif decide ((x42.length : Int) = 0) then (some true) else (bif x45 then (bnd1 (w_sameMsg x44 x6) (fun x49 => some x49)) else (some false))))))))
def w_FnPacketsBent (p0 : List Int) : Option Bool :=
  bnd1 (w_big p0) (fun x1 => bif x1 then (some true) else (bnd1 (s_DrawGetMsg p0) (fun x4 => bnd2 (i_GetMsg x4) (fun x6 x7 => bnd2 (s_GetMsg x4) (fun x9 x10 => bnd2 (s_DrawGetQuest p0) (fun x12 x13 => bnd3 (i_GetQuest x12 x13) (fun x15 x16 x17 => bnd3 (s_GetQuest x12 x13) (fun x19 x20 x21 => bnd1 (s_DrawGetHead p0) (fun x23 => bnd5 (i_GetHead x23) (fun x25 x26 x27 x28 x29 => bnd5 (s_GetHead x23) (fun x31 x32 x33 x34 x35 => bnd1 (w_sameMsg x6 x9) (fun x37 => bif !x37 then (w_FnPacketsBent_j0 x6 x7 true) else (bif !(x7 == x10) then (w_FnPacketsBent_j0 x6 x7 true) else (bif !(decide (x15.name = x19.name) && (decide (x15.ty = x19.ty) && true)) then (w_FnPacketsBent_j0 x6 x7 true) else (bif !decide (x16 = x20) then (w_FnPacketsBent_j0 x6 x7 true) else (bif !decide (x17 = x21) then (w_FnPacketsBent_j0 x6 x7 true) else (bnd1 (w_sameMsg x25 x31) (fun x44 => bif !x44 then (w_FnPacketsBent_j0 x6 x7 true) else (bif !decide (x26 = x32) then (w_FnPacketsBent_j0 x6 x7 true) else (bif !decide (x27 = x33) then (w_FnPacketsBent_j0 x6 x7 true) else (bif !decide (x28 = x34) then (w_FnPacketsBent_j0 x6 x7 true) else (w_FnPacketsBent_j0 x6 x7 (!(x29 == x35))))))))))))))))))))))))
end Go.Abs.M
