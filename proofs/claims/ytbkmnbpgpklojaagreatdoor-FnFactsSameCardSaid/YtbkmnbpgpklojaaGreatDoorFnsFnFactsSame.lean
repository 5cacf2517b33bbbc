/- The functions that the law of FnFactsSame reaches, as pure functions that may fail. -/
import Derived.Test.YtbkmnbpgpklojaaGreatDoorAbsC1
namespace Go.Abs.M
open Go Go.Abs
structure Cur where
  b : List Int
  i : Int
  h : Int
  deriving DecidableEq
def curV (r : Cur) : List V := [.lst 1 (List.map byteV r.b), .sc (.int .i64 r.i), .sc (.int .i64 r.h)]
theorem curV_free (r : Cur) : (curV r).all (·.free) = true := rfl
theorem curV_len (r : Cur) : (curV r).length = 3 := rfl
def Cur.ok (r : Cur) : Prop := (r.b.length ≤ 9223372036854775807 ∧ ∀ q, q ∈ r.b → True) ∧ i64 r.i ∧ i64 r.h
structure Rec where
  name : ByteArray
  ty : Int
  ttl : Int
  n : Int
  host : ByteArray
  text : ByteArray
  deriving DecidableEq
def recV (r : Rec) : List V := [.sc (.string r.name), .sc (.int .i64 r.ty), .sc (.int .i64 r.ttl), .sc (.int .i64 r.n), .sc (.string r.host), .sc (.string r.text)]
theorem recV_free (r : Rec) : (recV r).all (·.free) = true := rfl
theorem recV_len (r : Rec) : (recV r).length = 6 := rfl
def Rec.ok (r : Rec) : Prop := r.name.size ≤ 9223372036854775807 ∧ i64 r.ty ∧ i64 r.ttl ∧ i64 r.n ∧ r.host.size ≤ 9223372036854775807 ∧ r.text.size ≤ 9223372036854775807
theorem recV_sc (r : Rec) : (recV r).all isScN = true := rfl
structure MPost where
  addr : Int
  apex : ByteArray
  deriving DecidableEq
def mPostV (r : MPost) : List V := [.sc (.int .i64 r.addr), .sc (.string r.apex)]
theorem mPostV_free (r : MPost) : (mPostV r).all (·.free) = true := rfl
theorem mPostV_len (r : MPost) : (mPostV r).length = 2 := rfl
def MPost.ok (r : MPost) : Prop := i64 r.addr ∧ r.apex.size ≤ 9223372036854775807
theorem mPostV_sc (r : MPost) : (mPostV r).all isScN = true := rfl
structure MZone where
  apex : ByteArray
  l : List Rec
  deriving DecidableEq
def mZoneV (r : MZone) : List V := [.sc (.string r.apex), .lst 6 (List.map recV r.l)]
theorem mZoneV_free (r : MZone) : (mZoneV r).all (·.free) = true := rfl
theorem mZoneV_len (r : MZone) : (mZoneV r).length = 2 := rfl
def MZone.ok (r : MZone) : Prop := r.apex.size ≤ 9223372036854775807 ∧ (r.l.length ≤ 9223372036854775807 ∧ ∀ q, q ∈ r.l → q.ok)
structure MForest where
  zones : List MZone
  posts : List MPost
  deriving DecidableEq
def mForestV (r : MForest) : List V := [.lst 2 (List.map mZoneV r.zones), .lst 2 (List.map mPostV r.posts)]
theorem mForestV_free (r : MForest) : (mForestV r).all (·.free) = true := rfl
theorem mForestV_len (r : MForest) : (mForestV r).length = 2 := rfl
def MForest.ok (r : MForest) : Prop := (r.zones.length ≤ 9223372036854775807 ∧ ∀ q, q ∈ r.zones → q.ok) ∧ (r.posts.length ≤ 9223372036854775807 ∧ ∀ q, q ∈ r.posts → q.ok)
structure Quest where
  name : ByteArray
  ty : Int
  deriving DecidableEq
def questV (r : Quest) : List V := [.sc (.string r.name), .sc (.int .i64 r.ty)]
theorem questV_free (r : Quest) : (questV r).all (·.free) = true := rfl
theorem questV_len (r : Quest) : (questV r).length = 2 := rfl
def Quest.ok (r : Quest) : Prop := r.name.size ≤ 9223372036854775807 ∧ i64 r.ty
theorem questV_sc (r : Quest) : (questV r).all isScN = true := rfl
structure MFact where
  code : Int
  links : List Rec
  l : List Rec
  fin : Bool
  deriving DecidableEq
def mFactV (r : MFact) : List V := [.sc (.int .i64 r.code), .lst 6 (List.map recV r.links), .lst 6 (List.map recV r.l), .sc (.bool r.fin)]
theorem mFactV_free (r : MFact) : (mFactV r).all (·.free) = true := rfl
theorem mFactV_len (r : MFact) : (mFactV r).length = 4 := rfl
def MFact.ok (r : MFact) : Prop := i64 r.code ∧ (r.links.length ≤ 9223372036854775807 ∧ ∀ q, q ∈ r.links → q.ok) ∧ (r.l.length ≤ 9223372036854775807 ∧ ∀ q, q ∈ r.l → q.ok)
def recLV (r : List Rec) : List V := [.lst 6 (List.map recV r)]
theorem recLV_free (r : List Rec) : (recLV r).all (·.free) = true := rfl
theorem recLV_len (r : List Rec) : (recLV r).length = 1 := rfl
/- laws.big -/
def w_big (p0 : List Int) : Option Bool :=
  some (decide (1048576 < (p0.length : Int)))
/- spec.l1New -/
def s_l1New_j0 (p0 : List Int) (j0_0 : Int) : Option Cur :=
  some (Cur.mk p0 0 j0_0)
def s_l1New_j2 (p0 : List Int) (v1_0 : Int) (v1_1 : Int) (k1 : Int → Int → Option Cur) (j2_0 : Bool) : Option Cur :=
  bif j2_0 then (bnd1 (idx p0 v1_1) (fun x2 => k1 (iand .i64 (IntKind.i64.wrap ((IntKind.i64.wrap ((IntKind.i64.wrap (v1_0 * 137)) + (IntKind.i64.wrap x2))) + 11)) 1073741823) (IntKind.i64.wrap (v1_1 + 1)))) else (s_l1New_j0 p0 v1_0)
def s_l1New_l1 (p0 : List Int) : Nat → Int → Int → Option Cur
  | 0, _, _ => none
  | f1 + 1, v1_0, v1_1 => bif decide (v1_1 < (p0.length : Int)) then (s_l1New_j2 p0 v1_0 v1_1 (s_l1New_l1 p0 f1) (decide (v1_1 < 4000))) else (s_l1New_j2 p0 v1_0 v1_1 (s_l1New_l1 p0 f1) false)
def s_l1New (p0 : List Int) : Option Cur :=
  s_l1New_l1 p0 fuel0 (IntKind.i64.wrap (160909 + (p0.length : Int))) 0
/- spec.l1Byte -/
def s_l1Byte (p0 : Cur) : Option (Int × Cur) :=
  bif decide (p0.i < (p0.b.length : Int)) then (bnd1 (idx p0.b p0.i) (fun x2 => some ((iand .i64 (IntKind.i64.wrap ((iand .i64 (ixor .i64 (ishr .i64 (IntKind.i64.wrap ((IntKind.i64.wrap (p0.h * 6364136223846793005)) + 1442695040888963407)) 33) (ishr .i64 (IntKind.i64.wrap ((IntKind.i64.wrap (p0.h * 6364136223846793005)) + 1442695040888963407)) 47)) 255) + (IntKind.i64.wrap x2))) 255), Cur.mk p0.b (IntKind.i64.wrap (p0.i + 1)) (IntKind.i64.wrap ((IntKind.i64.wrap (p0.h * 6364136223846793005)) + 1442695040888963407))))) else (some ((iand .i64 (ixor .i64 (ishr .i64 (IntKind.i64.wrap ((IntKind.i64.wrap (p0.h * 6364136223846793005)) + 1442695040888963407)) 33) (ishr .i64 (IntKind.i64.wrap ((IntKind.i64.wrap (p0.h * 6364136223846793005)) + 1442695040888963407)) 47)) 255), Cur.mk p0.b p0.i (IntKind.i64.wrap ((IntKind.i64.wrap (p0.h * 6364136223846793005)) + 1442695040888963407))))
/- spec.l1Below -/
def s_l1Below (p0 : Cur) (p1 : Int) : Option (Int × Cur) :=
  bif decide (p1 ≤ 0) then (some (0, p0)) else (bif decide (p1 ≤ 256) then (bnd2 (s_l1Byte p0) (fun x3 x4 => grd (p1 ≠ 0) (some ((Int.tmod x3 p1), x4)))) else (bnd2 (s_l1Byte p0) (fun x7 x8 => bnd2 (s_l1Byte x8) (fun x10 x11 => bnd2 (s_l1Byte x11) (fun x13 x14 => grd (i64 (x7 * 65536)) (grd (i64 (x10 * 256)) (grd (i64 ((x7 * 65536) + (x10 * 256))) (grd (i64 (((x7 * 65536) + (x10 * 256)) + x13)) (grd (p1 ≠ 0) (some ((Int.tmod (((x7 * 65536) + (x10 * 256)) + x13) p1), x14)))))))))))
/- spec.l1Int -/
def s_l1Int (p0 : Cur) (p1 : List Int) : Option (Int × Cur) :=
  bnd2 (s_l1Below p0 (p1.length : Int)) (fun x1 x2 => bnd1 (idx p1 x1) (fun x4 => some (x4, x2)))
/- spec.l10Start -/
def s_l10Start (p0 : ByteArray) (p1 : Int) : Option Rec :=
  some (Rec.mk p0 6 p1 (IntKind.i64.wrap (Int.tdiv p1 2)) (⟨#[]⟩ : ByteArray) (⟨#[]⟩ : ByteArray))
/- spec.l10Server -/
def s_l10Server (p0 : ByteArray) (p1 : ByteArray) (p2 : Int) : Option Rec :=
  some (Rec.mk p0 2 p2 0 p1 (⟨#[]⟩ : ByteArray))
/- spec.l10Addr -/
def s_l10Addr (p0 : ByteArray) (p1 : Int) (p2 : Int) : Option Rec :=
  some (Rec.mk p0 1 p2 p1 (⟨#[]⟩ : ByteArray) (⟨#[]⟩ : ByteArray))
/- spec.l1Once -/
def s_l1Once (p0 : Cur) (p1 : Int) : Option (Bool × Cur) :=
  bnd2 (s_l1Below p0 p1) (fun x1 x2 => some ((decide (x1 = 0)), x2))
/- spec.l1Str -/
def s_l1Str (p0 : Cur) (p1 : List ByteArray) : Option (ByteArray × Cur) :=
  bnd2 (s_l1Below p0 (p1.length : Int)) (fun x1 x2 => bnd1 (idx p1 x1) (fun x4 => some (x4, x2)))
/- spec.Labels -/
def s_Labels_j2 (p0 : ByteArray) (v0_0 : List ByteArray) (v0_1 : Int) (v0_2 : Int) (k0 : (List ByteArray) → Int → Int → Option (List ByteArray)) (j2_0 : Bool) : Option (List ByteArray) :=
  bif j2_0 then (grd (0 ≤ v0_1 ∧ v0_1 ≤ v0_2 ∧ v0_2 ≤ (p0.size : Int)) (grd ((v0_0 ++ [p0.extract v0_1.toNat v0_2.toNat]).length ≤ 1099511627776) (grd (i64 (v0_2 + 1)) (grd (i64 (v0_2 + 1)) (k0 (v0_0 ++ [p0.extract v0_1.toNat v0_2.toNat]) (v0_2 + 1) (v0_2 + 1)))))) else (grd (i64 (v0_2 + 1)) (k0 v0_0 v0_1 (v0_2 + 1)))
def s_Labels_j1 (p0 : ByteArray) (v0_0 : List ByteArray) (v0_1 : Int) (v0_2 : Int) (k0 : (List ByteArray) → Int → Int → Option (List ByteArray)) (j1_0 : Bool) : Option (List ByteArray) :=
  bif j1_0 then (bif decide (v0_2 = (p0.size : Int)) then (s_Labels_j2 p0 v0_0 v0_1 v0_2 (k0) true) else (bnd1 (sidx p0 v0_2) (fun x3 => s_Labels_j2 p0 v0_0 v0_1 v0_2 (k0) (decide (x3 = 46))))) else (some v0_0)
def s_Labels_l0 (p0 : ByteArray) : Nat → (List ByteArray) → Int → Int → Option (List ByteArray)
  | 0, _, _, _ => none
  | f0 + 1, v0_0, v0_1, v0_2 => bif decide (v0_2 ≤ (p0.size : Int)) then (s_Labels_j1 p0 v0_0 v0_1 v0_2 (s_Labels_l0 p0 f0) (!decide (p0 = (⟨#[]⟩ : ByteArray)))) else (s_Labels_j1 p0 v0_0 v0_1 v0_2 (s_Labels_l0 p0 f0) false)
def s_Labels (p0 : ByteArray) : Option (List ByteArray) :=
  s_Labels_l0 p0 fuel0 ([] : List ByteArray) 0 0
/- spec.LessName -/
def s_LessName_j0 (x1 : List ByteArray) (x3 : List ByteArray) : Option Bool :=
  some (decide ((x1.length : Int) < (x3.length : Int)))
def s_LessName_j2 (x1 : List ByteArray) (x3 : List ByteArray) (v1_0 : Int) (k1 : Int → Option Bool) (j2_0 : Bool) : Option Bool :=
  bif j2_0 then (grd (i64 ((x1.length : Int) - v1_0)) (bnd1 (idx x1 ((x1.length : Int) - v1_0)) (fun x7 => grd (i64 ((x3.length : Int) - v1_0)) (bnd1 (idx x3 ((x3.length : Int) - v1_0)) (fun x10 => bif !decide (x7 = x10) then (some (Op.bytesLess x7.toList x10.toList)) else (grd (i64 (v1_0 + 1)) (k1 (v1_0 + 1)))))))) else (s_LessName_j0 x1 x3)
def s_LessName_l1 (x1 : List ByteArray) (x3 : List ByteArray) : Nat → Int → Option Bool
  | 0, _ => none
  | f1 + 1, v1_0 => bif decide (v1_0 ≤ (x1.length : Int)) then (s_LessName_j2 x1 x3 v1_0 (s_LessName_l1 x1 x3 f1) (decide (v1_0 ≤ (x3.length : Int)))) else (s_LessName_j2 x1 x3 v1_0 (s_LessName_l1 x1 x3 f1) false)
def s_LessName (p0 : ByteArray) (p1 : ByteArray) : Option Bool :=
  bnd1 (s_Labels p0) (fun x1 => bnd1 (s_Labels p1) (fun x3 => s_LessName_l1 x1 x3 fuel0 1))
/- spec.LessRecord -/
def s_LessRecord (p0 : Rec) (p1 : Rec) : Option Bool :=
  bif !decide (p0.name = p1.name) then (bnd1 (s_LessName p0.name p1.name) (fun x2 => some x2)) else (bif !decide (p0.ty = p1.ty) then (some (decide (p0.ty < p1.ty))) else (bif !decide (p0.n = p1.n) then (some (decide (p0.n < p1.n))) else (bif !decide (p0.host = p1.host) then (bnd1 (s_LessName p0.host p1.host) (fun x7 => some x7)) else (bif !decide (p0.text = p1.text) then (some (Op.bytesLess p0.text.toList p1.text.toList)) else (some (decide (p0.ttl < p1.ttl)))))))
/- spec.SortRecords -/
def s_SortRecords_j1 (v0_0 : List Rec) (v0_1 : Nat) (e0 : Rec) (k0 : (List Rec) → Nat → Option (List Rec)) (j1_0 : Int) : Option (List Rec) :=
  grd ((0 : Int) ≤ ((0 : Nat) : Int) ∧ ((0 : Nat) : Int) ≤ j1_0 ∧ j1_0 ≤ (v0_0.length : Int)) (grd ((([] : List Rec) ++ ((v0_0.drop (0 + ((0 : Nat) : Int).toNat)).take (j1_0.toNat - ((0 : Nat) : Int).toNat))).length ≤ 1099511627776) (grd (((([] : List Rec) ++ ((v0_0.drop (0 + ((0 : Nat) : Int).toNat)).take (j1_0.toNat - ((0 : Nat) : Int).toNat))) ++ [e0]).length ≤ 1099511627776) (grd ((0 : Int) ≤ j1_0 ∧ j1_0 ≤ (v0_0.length : Int) ∧ (v0_0.length : Int) ≤ (v0_0.length : Int)) (grd ((((([] : List Rec) ++ ((v0_0.drop (0 + ((0 : Nat) : Int).toNat)).take (j1_0.toNat - ((0 : Nat) : Int).toNat))) ++ [e0]) ++ ((v0_0.drop (0 + j1_0.toNat)).take ((v0_0.length : Int).toNat - j1_0.toNat))).length ≤ 1099511627776) (k0 (((([] : List Rec) ++ ((v0_0.drop (0 + ((0 : Nat) : Int).toNat)).take (j1_0.toNat - ((0 : Nat) : Int).toNat))) ++ [e0]) ++ ((v0_0.drop (0 + j1_0.toNat)).take ((v0_0.length : Int).toNat - j1_0.toNat))) (v0_1 + 1))))))
def s_SortRecords_j3 (v0_0 : List Rec) (v0_1 : Nat) (e0 : Rec) (v2_0 : Int) (k0 : (List Rec) → Nat → Option (List Rec)) (k2 : Int → Option (List Rec)) (j3_0 : Bool) : Option (List Rec) :=
  bif j3_0 then (grd (i64 (v2_0 - 1)) (k2 (v2_0 - 1))) else (s_SortRecords_j1 v0_0 v0_1 e0 (k0) v2_0)
def s_SortRecords_l2 (v0_0 : List Rec) (v0_1 : Nat) (e0 : Rec) (k0 : (List Rec) → Nat → Option (List Rec)) : Nat → Int → Option (List Rec)
  | 0, _ => none
  | f2 + 1, v2_0 => bif decide (0 < v2_0) then (grd (i64 (v2_0 - 1)) (bnd1 (idx v0_0 (v2_0 - 1)) (fun x4 => bnd1 (s_LessRecord e0 x4) (fun x6 => s_SortRecords_j3 v0_0 v0_1 e0 v2_0 (k0) (s_SortRecords_l2 v0_0 v0_1 e0 k0 f2) x6)))) else (s_SortRecords_j3 v0_0 v0_1 e0 v2_0 (k0) (s_SortRecords_l2 v0_0 v0_1 e0 k0 f2) false)
def s_SortRecords_l0  : List Rec → (List Rec) → Nat → Option (List Rec)
  | [], v0_0, v0_1 => some v0_0
  | e0 :: rs0, v0_0, v0_1 => s_SortRecords_l2 v0_0 v0_1 e0 (s_SortRecords_l0 rs0) fuel0 (v0_0.length : Int)
def s_SortRecords (p0 : List Rec) : Option (List Rec) :=
  s_SortRecords_l0 p0 ([] : List Rec) 0
/- spec.l10Uniq -/
def s_l10Uniq_j1 (v0_0 : List Rec) (v0_1 : Nat) (e0 : Rec) (k0 : (List Rec) → Nat → Option (List Rec)) (j1_0 : Int) : Option (List Rec) :=
  grd ((v0_0 ++ [Rec.mk e0.name e0.ty j1_0 e0.n e0.host e0.text]).length ≤ 1099511627776) (k0 (v0_0 ++ [Rec.mk e0.name e0.ty j1_0 e0.n e0.host e0.text]) (v0_1 + 1))
def s_l10Uniq_j2 (v0_0 : List Rec) (v0_1 : Nat) (e0 : Rec) (k0 : (List Rec) → Nat → Option (List Rec)) (j2_0 : Bool) : Option (List Rec) :=
  bif j2_0 then (grd (i64 ((v0_0.length : Int) - 1)) (bnd1 (idx v0_0 ((v0_0.length : Int) - 1)) (fun x6 => grd (i64 ((v0_0.length : Int) - 1)) (bif (decide (x6.name = e0.name) && (decide (x6.ty = e0.ty) && (decide (x6.ttl = x6.ttl) && (decide (x6.n = e0.n) && (decide (x6.host = e0.host) && (decide (x6.text = e0.text) && true)))))) then (k0 v0_0 (v0_1 + 1)) else (s_l10Uniq_j1 v0_0 v0_1 e0 (k0) x6.ttl))))) else (s_l10Uniq_j1 v0_0 v0_1 e0 (k0) e0.ttl)
def s_l10Uniq_l0  : List Rec → (List Rec) → Nat → Option (List Rec)
  | [], v0_0, v0_1 => some v0_0
  | e0 :: rs0, v0_0, v0_1 => bif decide (0 < (v0_0.length : Int)) then (grd (i64 ((v0_0.length : Int) - 1)) (bnd1 (idx v0_0 ((v0_0.length : Int) - 1)) (fun x6 => bif decide (x6.name = e0.name) then (grd (i64 ((v0_0.length : Int) - 1)) (s_l10Uniq_j2 v0_0 v0_1 e0 (s_l10Uniq_l0 rs0) (decide (x6.ty = e0.ty)))) else (s_l10Uniq_j2 v0_0 v0_1 e0 (s_l10Uniq_l0 rs0) false)))) else (s_l10Uniq_j2 v0_0 v0_1 e0 (s_l10Uniq_l0 rs0) false)
def s_l10Uniq (p0 : List Rec) : Option (List Rec) :=
  bnd1 (s_SortRecords p0) (fun x1 => s_l10Uniq_l0 x1 ([] : List Rec) 0)
/- spec.l12Draw -/
def s_l12Draw_j4 (x1 : Int) (j2_3 : List Rec) (j3_0 : List Int) (j3_1 : Int) (j3_2 : Int) (j3_3 : List Rec) (j3_4 : List Rec) (x24 : Rec) (x26 : Rec) (x29 : Rec) (x32 : Rec) (x34 : Rec) (x36 : Rec) (x38 : Rec) (x40 : Rec) (x42 : Rec) (x44 : Rec) (j4_0 : List MPost) : Option (MForest × Cur) :=
  bnd1 (s_l10Uniq (j3_3 ++ [x29])) (fun x48 => bnd1 (s_l10Uniq (j2_3 ++ [x42, x44])) (fun x50 => bnd1 (s_l10Uniq (j3_4 ++ ([x24, x26, Rec.mk (⟨#[97, 108, 46, 111, 114, 103]⟩ : ByteArray) 5 x1 0 (⟨#[119, 119, 119, 46, 101, 120, 46, 99, 111, 109]⟩ : ByteArray) (⟨#[]⟩ : ByteArray), Rec.mk (⟨#[108, 111, 46, 111, 114, 103]⟩ : ByteArray) 5 x1 0 (⟨#[108, 111, 46, 99, 111, 109]⟩ : ByteArray) (⟨#[]⟩ : ByteArray)]))) (fun x52 => bnd1 (s_l10Uniq [x32, x34, x36, x38, x40]) (fun x54 => some ((MForest.mk ([MZone.mk (⟨#[]⟩ : ByteArray) x48, MZone.mk (⟨#[99, 111, 109]⟩ : ByteArray) x50, MZone.mk (⟨#[111, 114, 103]⟩ : ByteArray) x52, MZone.mk (⟨#[101, 120, 46, 99, 111, 109]⟩ : ByteArray) x54]) j4_0), Cur.mk j3_0 j3_1 j3_2)))))
def s_l12Draw_j3 (x1 : Int) (j0_5 : List MPost) (j2_3 : List Rec) (j3_0 : List Int) (j3_1 : Int) (j3_2 : Int) (j3_3 : List Rec) (j3_4 : List Rec) (j3_5 : ByteArray) : Option (MForest × Cur) :=
  bnd1 (s_l10Server (⟨#[111, 114, 103]⟩ : ByteArray) j3_5 x1) (fun x24 => bnd1 (s_l10Addr (⟨#[119, 119, 119, 46, 97, 46, 111, 114, 103]⟩ : ByteArray) 9 x1) (fun x26 => grd ((j3_4 ++ ([x24, x26, Rec.mk (⟨#[97, 108, 46, 111, 114, 103]⟩ : ByteArray) 5 x1 0 (⟨#[119, 119, 119, 46, 101, 120, 46, 99, 111, 109]⟩ : ByteArray) (⟨#[]⟩ : ByteArray), Rec.mk (⟨#[108, 111, 46, 111, 114, 103]⟩ : ByteArray) 5 x1 0 (⟨#[108, 111, 46, 99, 111, 109]⟩ : ByteArray) (⟨#[]⟩ : ByteArray)])).length ≤ 1099511627776) (bnd1 (s_l10Server (⟨#[111, 114, 103]⟩ : ByteArray) j3_5 x1) (fun x29 => grd ((j3_3 ++ [x29]).length ≤ 1099511627776) (bnd1 (s_l10Start (⟨#[101, 120, 46, 99, 111, 109]⟩ : ByteArray) x1) (fun x32 => bnd1 (s_l10Server (⟨#[101, 120, 46, 99, 111, 109]⟩ : ByteArray) (⟨#[110, 115, 46, 101, 120, 46, 99, 111, 109]⟩ : ByteArray) x1) (fun x34 => bnd1 (s_l10Addr (⟨#[110, 115, 46, 101, 120, 46, 99, 111, 109]⟩ : ByteArray) 3 x1) (fun x36 => bnd1 (s_l10Addr (⟨#[119, 119, 119, 46, 101, 120, 46, 99, 111, 109]⟩ : ByteArray) 7 x1) (fun x38 => bnd1 (s_l10Addr (⟨#[119, 119, 119, 46, 101, 120, 46, 99, 111, 109]⟩ : ByteArray) 8 x1) (fun x40 => bnd1 (s_l10Server (⟨#[101, 120, 46, 99, 111, 109]⟩ : ByteArray) (⟨#[110, 115, 46, 101, 120, 46, 99, 111, 109]⟩ : ByteArray) x1) (fun x42 => bnd1 (s_l10Addr (⟨#[110, 115, 46, 101, 120, 46, 99, 111, 109]⟩ : ByteArray) 3 x1) (fun x44 => grd ((j2_3 ++ [x42, x44]).length ≤ 1099511627776) (grd ((j0_5 ++ ([MPost.mk 3 (⟨#[101, 120, 46, 99, 111, 109]⟩ : ByteArray)])).length ≤ 1099511627776) (bif decide (j3_5 = (⟨#[110, 115, 46, 111, 114, 103]⟩ : ByteArray)) then (grd (((j0_5 ++ ([MPost.mk 3 (⟨#[101, 120, 46, 99, 111, 109]⟩ : ByteArray)])) ++ ([MPost.mk 4 (⟨#[111, 114, 103]⟩ : ByteArray)])).length ≤ 1099511627776) (s_l12Draw_j4 x1 j2_3 j3_0 j3_1 j3_2 j3_3 j3_4 x24 x26 x29 x32 x34 x36 x38 x40 x42 x44 ((j0_5 ++ ([MPost.mk 3 (⟨#[101, 120, 46, 99, 111, 109]⟩ : ByteArray)])) ++ ([MPost.mk 4 (⟨#[111, 114, 103]⟩ : ByteArray)])))) else (grd (((j0_5 ++ ([MPost.mk 3 (⟨#[101, 120, 46, 99, 111, 109]⟩ : ByteArray)])) ++ ([MPost.mk 3 (⟨#[111, 114, 103]⟩ : ByteArray)])).length ≤ 1099511627776) (s_l12Draw_j4 x1 j2_3 j3_0 j3_1 j3_2 j3_3 j3_4 x24 x26 x29 x32 x34 x36 x38 x40 x42 x44 ((j0_5 ++ ([MPost.mk 3 (⟨#[101, 120, 46, 99, 111, 109]⟩ : ByteArray)])) ++ ([MPost.mk 3 (⟨#[111, 114, 103]⟩ : ByteArray)]))))))))))))))))))
def s_l12Draw_j2 (x1 : Int) (j0_3 : List Rec) (j0_5 : List MPost) (j2_0 : List Int) (j2_1 : Int) (j2_2 : Int) (j2_3 : List Rec) : Option (MForest × Cur) :=
  bnd1 (s_l10Start (⟨#[111, 114, 103]⟩ : ByteArray) x1) (fun x22 => bnd2 (s_l1Once (Cur.mk j2_0 j2_1 j2_2) 2) (fun x24 x25 => bif x24 then (s_l12Draw_j3 x1 j0_5 j2_3 x25.b x25.i x25.h j0_3 [x22] (⟨#[110, 115, 46, 101, 120, 46, 99, 111, 109]⟩ : ByteArray)) else (bnd1 (s_l10Addr (⟨#[110, 115, 46, 111, 114, 103]⟩ : ByteArray) 4 x1) (fun x28 => grd (([x22] ++ [x28]).length ≤ 1099511627776) (bnd1 (s_l10Addr (⟨#[110, 115, 46, 111, 114, 103]⟩ : ByteArray) 4 x1) (fun x31 => grd ((j0_3 ++ [x31]).length ≤ 1099511627776) (s_l12Draw_j3 x1 j0_5 j2_3 x25.b x25.i x25.h (j0_3 ++ [x31]) ([x22] ++ [x28]) (⟨#[110, 115, 46, 111, 114, 103]⟩ : ByteArray))))))))
def s_l12Draw_j1 (x1 : Int) (j0_3 : List Rec) (j0_5 : List MPost) (j1_0 : List Int) (j1_1 : Int) (j1_2 : Int) (j1_3 : List Rec) : Option (MForest × Cur) :=
  bnd2 (s_l1Str (Cur.mk j1_0 j1_1 j1_2) ([(⟨#[119, 119, 119, 46, 101, 120, 46, 99, 111, 109]⟩ : ByteArray), (⟨#[119, 119, 119, 46, 97, 46, 111, 114, 103]⟩ : ByteArray), (⟨#[108, 111, 46, 111, 114, 103]⟩ : ByteArray), (⟨#[110, 111, 46, 99, 111, 109]⟩ : ByteArray), (⟨#[97, 108, 46, 111, 114, 103]⟩ : ByteArray)])) (fun x18 x19 => grd ((j1_3 ++ ([Rec.mk (⟨#[97, 108, 46, 99, 111, 109]⟩ : ByteArray) 5 x1 0 x18 (⟨#[]⟩ : ByteArray)])).length ≤ 1099511627776) (bnd2 (s_l1Once x19 3) (fun x22 x23 => bif x22 then (grd (((j1_3 ++ ([Rec.mk (⟨#[97, 108, 46, 99, 111, 109]⟩ : ByteArray) 5 x1 0 x18 (⟨#[]⟩ : ByteArray)])) ++ ([Rec.mk (⟨#[108, 111, 46, 99, 111, 109]⟩ : ByteArray) 5 x1 0 (⟨#[108, 111, 46, 111, 114, 103]⟩ : ByteArray) (⟨#[]⟩ : ByteArray)])).length ≤ 1099511627776) (s_l12Draw_j2 x1 j0_3 j0_5 x23.b x23.i x23.h ((j1_3 ++ ([Rec.mk (⟨#[97, 108, 46, 99, 111, 109]⟩ : ByteArray) 5 x1 0 x18 (⟨#[]⟩ : ByteArray)])) ++ ([Rec.mk (⟨#[108, 111, 46, 99, 111, 109]⟩ : ByteArray) 5 x1 0 (⟨#[108, 111, 46, 111, 114, 103]⟩ : ByteArray) (⟨#[]⟩ : ByteArray)])))) else (s_l12Draw_j2 x1 j0_3 j0_5 x23.b x23.i x23.h (j1_3 ++ ([Rec.mk (⟨#[97, 108, 46, 99, 111, 109]⟩ : ByteArray) 5 x1 0 x18 (⟨#[]⟩ : ByteArray)]))))))
def s_l12Draw_j0 (x1 : Int) (j0_0 : List Int) (j0_1 : Int) (j0_2 : Int) (j0_3 : List Rec) (j0_4 : List Rec) (j0_5 : List MPost) : Option (MForest × Cur) :=
  bnd2 (s_l1Once (Cur.mk j0_0 j0_1 j0_2) 3) (fun x18 x19 => bif x18 then (bnd1 (s_l10Addr (⟨#[98, 46, 116, 46, 99, 111, 109]⟩ : ByteArray) 40 x1) (fun x22 => grd ((j0_4 ++ ([Rec.mk (⟨#[116, 46, 99, 111, 109]⟩ : ByteArray) 16 x1 0 (⟨#[]⟩ : ByteArray) (⟨#[104, 105]⟩ : ByteArray), x22])).length ≤ 1099511627776) (s_l12Draw_j1 x1 j0_3 j0_5 x19.b x19.i x19.h (j0_4 ++ ([Rec.mk (⟨#[116, 46, 99, 111, 109]⟩ : ByteArray) 16 x1 0 (⟨#[]⟩ : ByteArray) (⟨#[104, 105]⟩ : ByteArray), x22]))))) else (s_l12Draw_j1 x1 j0_3 j0_5 x19.b x19.i x19.h j0_4))
def s_l12Draw (p0 : Cur) : Option (MForest × Cur) :=
  bnd2 (s_l1Int p0 [3, 20, 300]) (fun x1 x2 => bnd1 (s_l10Start (⟨#[]⟩ : ByteArray) x1) (fun x4 => bnd1 (s_l10Server (⟨#[]⟩ : ByteArray) (⟨#[110, 115, 46, 99, 111, 109]⟩ : ByteArray) x1) (fun x6 => bnd1 (s_l10Server (⟨#[99, 111, 109]⟩ : ByteArray) (⟨#[110, 115, 46, 99, 111, 109]⟩ : ByteArray) x1) (fun x8 => bnd1 (s_l10Addr (⟨#[110, 115, 46, 99, 111, 109]⟩ : ByteArray) 2 x1) (fun x10 => bnd1 (s_l10Start (⟨#[99, 111, 109]⟩ : ByteArray) x1) (fun x12 => bnd1 (s_l10Server (⟨#[99, 111, 109]⟩ : ByteArray) (⟨#[110, 115, 46, 99, 111, 109]⟩ : ByteArray) x1) (fun x14 => bnd1 (s_l10Addr (⟨#[110, 115, 46, 99, 111, 109]⟩ : ByteArray) 2 x1) (fun x16 => bnd2 (s_l1Once x2 2) (fun x18 x19 => bif x18 then (bnd1 (s_l10Addr (⟨#[110, 115, 46, 99, 111, 109]⟩ : ByteArray) 12 x1) (fun x22 => grd (([x12, x14, x16] ++ [x22]).length ≤ 1099511627776) (bnd1 (s_l10Addr (⟨#[110, 115, 46, 99, 111, 109]⟩ : ByteArray) 12 x1) (fun x25 => grd (([x4, x6, x8, x10] ++ [x25]).length ≤ 1099511627776) (grd ((([MPost.mk 2 (⟨#[]⟩ : ByteArray), MPost.mk 2 (⟨#[99, 111, 109]⟩ : ByteArray)]) ++ ([MPost.mk 12 (⟨#[]⟩ : ByteArray), MPost.mk 12 (⟨#[99, 111, 109]⟩ : ByteArray)])).length ≤ 1099511627776) (s_l12Draw_j0 x1 x19.b x19.i x19.h ([x4, x6, x8, x10] ++ [x25]) ([x12, x14, x16] ++ [x22]) (([MPost.mk 2 (⟨#[]⟩ : ByteArray), MPost.mk 2 (⟨#[99, 111, 109]⟩ : ByteArray)]) ++ ([MPost.mk 12 (⟨#[]⟩ : ByteArray), MPost.mk 12 (⟨#[99, 111, 109]⟩ : ByteArray)])))))))) else (s_l12Draw_j0 x1 x19.b x19.i x19.h [x4, x6, x8, x10] [x12, x14, x16] ([MPost.mk 2 (⟨#[]⟩ : ByteArray), MPost.mk 2 (⟨#[99, 111, 109]⟩ : ByteArray)])))))))))))
/- spec.l12Name -/
def s_l12Name (p0 : Cur) : Option (ByteArray × Cur) :=
  bnd2 (s_l1Str p0 ([(⟨#[]⟩ : ByteArray), (⟨#[99, 111, 109]⟩ : ByteArray), (⟨#[110, 115, 46, 99, 111, 109]⟩ : ByteArray), (⟨#[101, 120, 46, 99, 111, 109]⟩ : ByteArray), (⟨#[119, 119, 119, 46, 101, 120, 46, 99, 111, 109]⟩ : ByteArray), (⟨#[110, 115, 46, 101, 120, 46, 99, 111, 109]⟩ : ByteArray), (⟨#[111, 114, 103]⟩ : ByteArray), (⟨#[110, 115, 46, 111, 114, 103]⟩ : ByteArray), (⟨#[97, 46, 111, 114, 103]⟩ : ByteArray), (⟨#[119, 119, 119, 46, 97, 46, 111, 114, 103]⟩ : ByteArray), (⟨#[97, 108, 46, 99, 111, 109]⟩ : ByteArray), (⟨#[97, 108, 46, 101, 120, 46, 99, 111, 109]⟩ : ByteArray), (⟨#[97, 108, 46, 111, 114, 103]⟩ : ByteArray), (⟨#[108, 111, 46, 99, 111, 109]⟩ : ByteArray), (⟨#[108, 111, 46, 111, 114, 103]⟩ : ByteArray), (⟨#[116, 46, 99, 111, 109]⟩ : ByteArray), (⟨#[110, 111, 46, 99, 111, 109]⟩ : ByteArray), (⟨#[110, 111, 46, 101, 120, 46, 99, 111, 109]⟩ : ByteArray), (⟨#[98, 46, 116, 46, 99, 111, 109]⟩ : ByteArray)])) (fun x1 x2 => some (x1, x2))
/- spec.l10Zone -/
def s_l10Zone_j2  (j2_0 : List Int) (j2_1 : Int) (j2_2 : Int) (j2_3 : List Rec) : Option (MZone × Cur) :=
  bnd1 (s_l10Uniq j2_3) (fun x10 => some ((MZone.mk (⟨#[99, 111, 109]⟩ : ByteArray) x10), Cur.mk j2_0 j2_1 j2_2))
def s_l10Zone_j1  (j1_0 : List Int) (j1_1 : Int) (j1_2 : Int) (j1_3 : List Rec) : Option (MZone × Cur) :=
  bnd2 (s_l1Once (Cur.mk j1_0 j1_1 j1_2) 2) (fun x10 x11 => bif x10 then (bnd1 (s_l10Addr (⟨#[98, 46, 97, 46, 99, 111, 109]⟩ : ByteArray) 8 9) (fun x14 => grd ((j1_3 ++ ([Rec.mk (⟨#[116, 46, 99, 111, 109]⟩ : ByteArray) 16 7 0 (⟨#[]⟩ : ByteArray) (⟨#[104, 105]⟩ : ByteArray), x14])).length ≤ 1099511627776) (s_l10Zone_j2 x11.b x11.i x11.h (j1_3 ++ ([Rec.mk (⟨#[116, 46, 99, 111, 109]⟩ : ByteArray) 16 7 0 (⟨#[]⟩ : ByteArray) (⟨#[104, 105]⟩ : ByteArray), x14]))))) else (s_l10Zone_j2 x11.b x11.i x11.h j1_3))
def s_l10Zone_j0  (j0_0 : List Int) (j0_1 : Int) (j0_2 : Int) (j0_3 : List Rec) : Option (MZone × Cur) :=
  bnd2 (s_l1Once (Cur.mk j0_0 j0_1 j0_2) 2) (fun x10 x11 => bif x10 then (grd ((j0_3 ++ ([Rec.mk (⟨#[119, 119, 119, 46, 99, 111, 109]⟩ : ByteArray) 5 9 0 (⟨#[97, 46, 111, 114, 103]⟩ : ByteArray) (⟨#[]⟩ : ByteArray)])).length ≤ 1099511627776) (s_l10Zone_j1 x11.b x11.i x11.h (j0_3 ++ ([Rec.mk (⟨#[119, 119, 119, 46, 99, 111, 109]⟩ : ByteArray) 5 9 0 (⟨#[97, 46, 111, 114, 103]⟩ : ByteArray) (⟨#[]⟩ : ByteArray)])))) else (s_l10Zone_j1 x11.b x11.i x11.h j0_3))
def s_l10Zone (p0 : Cur) : Option (MZone × Cur) :=
  bnd2 (s_l1Int p0 [5, 60, 300]) (fun x1 x2 => bnd1 (s_l10Start (⟨#[99, 111, 109]⟩ : ByteArray) x1) (fun x4 => bnd1 (s_l10Server (⟨#[99, 111, 109]⟩ : ByteArray) (⟨#[110, 115, 46, 99, 111, 109]⟩ : ByteArray) x1) (fun x6 => bnd1 (s_l10Addr (⟨#[110, 115, 46, 99, 111, 109]⟩ : ByteArray) 2 x1) (fun x8 => bnd2 (s_l1Once x2 2) (fun x10 x11 => bif x10 then (bnd1 (s_l10Server (⟨#[101, 120, 46, 99, 111, 109]⟩ : ByteArray) (⟨#[110, 115, 46, 101, 120, 46, 99, 111, 109]⟩ : ByteArray) x1) (fun x14 => bnd1 (s_l10Addr (⟨#[110, 115, 46, 101, 120, 46, 99, 111, 109]⟩ : ByteArray) 3 x1) (fun x16 => grd (([x4, x6, x8] ++ [x14, x16]).length ≤ 1099511627776) (s_l10Zone_j0 x11.b x11.i x11.h ([x4, x6, x8] ++ [x14, x16]))))) else (s_l10Zone_j0 x11.b x11.i x11.h [x4, x6, x8]))))))
/- spec.l3Name -/
def s_l3Name (p0 : Cur) : Option (ByteArray × Cur) :=
  bnd2 (s_l1Str p0 ([(⟨#[]⟩ : ByteArray), (⟨#[99, 111, 109]⟩ : ByteArray), (⟨#[101, 120, 46, 99, 111, 109]⟩ : ByteArray), (⟨#[119, 119, 119, 46, 101, 120, 46, 99, 111, 109]⟩ : ByteArray), (⟨#[110, 115, 46, 101, 120, 46, 99, 111, 109]⟩ : ByteArray), (⟨#[111, 114, 103]⟩ : ByteArray), (⟨#[97, 46, 111, 114, 103]⟩ : ByteArray), (⟨#[98, 46, 97, 46, 111, 114, 103]⟩ : ByteArray), (⟨#[110, 115, 49, 46, 111, 114, 103]⟩ : ByteArray), (⟨#[120, 46, 121, 46, 122, 46, 101, 120, 46, 99, 111, 109]⟩ : ByteArray)])) (fun x1 x2 => some (x1, x2))
/- spec.l5Type -/
def s_l5Type (p0 : Cur) : Option (Int × Cur) :=
  bnd2 (s_l1Int p0 [1, 1, 1, 2, 2, 5, 6, 16]) (fun x1 x2 => some (x1, x2))
/- spec.l5Draw -/
def s_l5Draw_j0 (x1 : ByteArray) (x4 : Int) (x7 : Int) (x8 : Cur) (j0_0 : Bool) : Option (Rec × Cur) :=
  bif j0_0 then (bnd2 (s_l3Name x8) (fun x16 x17 => some ((Rec.mk x1 x4 x7 0 x16 (⟨#[]⟩ : ByteArray)), x17))) else (bif decide (x4 = 6) then (bnd2 (s_l3Name x8) (fun x20 x21 => bnd2 (s_l1Int x21 [0, 5, 60]) (fun x23 x24 => some ((Rec.mk x1 x4 x7 x23 x20 (⟨#[]⟩ : ByteArray)), x24)))) else (bif decide (x4 = 16) then (bnd2 (s_l1Str x8 ([(⟨#[]⟩ : ByteArray), (⟨#[104, 105]⟩ : ByteArray), (⟨#[116, 119, 101, 108, 118, 101, 98, 121, 116, 101, 115, 33]⟩ : ByteArray)])) (fun x27 x28 => some ((Rec.mk x1 x4 x7 0 (⟨#[]⟩ : ByteArray) x27), x28))) else (some ((Rec.mk x1 x4 x7 0 (⟨#[]⟩ : ByteArray) (⟨#[]⟩ : ByteArray)), x8))))
def s_l5Draw (p0 : Cur) : Option (Rec × Cur) :=
  bnd2 (s_l3Name p0) (fun x1 x2 => bnd2 (s_l5Type x2) (fun x4 x5 => bnd2 (s_l1Int x5 [0, 1, 5, 60, 300, 100000]) (fun x7 x8 => bif decide (x4 = 1) then (bnd2 (s_l1Below x8 9) (fun x11 x12 => grd (i64 (1 + x11)) (some ((Rec.mk x1 x4 x7 (1 + x11) (⟨#[]⟩ : ByteArray) (⟨#[]⟩ : ByteArray)), x12)))) else (bif decide (x4 = 2) then (s_l5Draw_j0 x1 x4 x7 x8 (decide (x4 = 2))) else (s_l5Draw_j0 x1 x4 x7 x8 (decide (x4 = 5)))))))
/- spec.l10Any -/
def s_l10Any (p0 : Cur) : Option (MZone × Cur) :=
  bnd2 (s_l10Zone p0) (fun x1 x2 => bnd2 (s_l1Below x2 12) (fun x4 x5 => bif decide (x4 = 0) then (bnd2 (s_l1Str x5 ([(⟨#[]⟩ : ByteArray), (⟨#[111, 114, 103]⟩ : ByteArray), (⟨#[101, 120, 46, 99, 111, 109]⟩ : ByteArray), (⟨#[65]⟩ : ByteArray)])) (fun x8 x9 => some ((MZone.mk x8 x1.l), x9))) else (bif decide (x4 = 1) then (bnd2 (s_l5Draw x5) (fun x12 x13 => grd ((x1.l ++ [x12]).length ≤ 1099511627776) (some ((MZone.mk x1.apex (x1.l ++ [x12])), x13)))) else (bif decide (x4 = 2) then (grd ((0 : Int) ≤ 1 ∧ 1 ≤ (x1.l.length : Int) ∧ (x1.l.length : Int) ≤ (x1.l.length : Int)) (some ((MZone.mk x1.apex ((x1.l.drop (0 + (1 : Int).toNat)).take ((x1.l.length : Int).toNat - (1 : Int).toNat))), x5))) else (bif decide (x4 = 3) then (grd ((x1.l ++ ([Rec.mk (⟨#[120, 46, 101, 120, 46, 99, 111, 109]⟩ : ByteArray) 16 0 0 (⟨#[]⟩ : ByteArray) (⟨#[110, 111]⟩ : ByteArray)])).length ≤ 1099511627776) (bnd1 (s_l10Uniq (x1.l ++ ([Rec.mk (⟨#[120, 46, 101, 120, 46, 99, 111, 109]⟩ : ByteArray) 16 0 0 (⟨#[]⟩ : ByteArray) (⟨#[110, 111]⟩ : ByteArray)]))) (fun x20 => some ((MZone.mk x1.apex x20), x5)))) else (bif decide (x4 = 4) then (grd ((x1.l ++ ([Rec.mk (⟨#[116, 46, 99, 111, 109]⟩ : ByteArray) 5 0 0 (⟨#[99, 111, 109]⟩ : ByteArray) (⟨#[]⟩ : ByteArray)])).length ≤ 1099511627776) (bnd1 (s_l10Uniq (x1.l ++ ([Rec.mk (⟨#[116, 46, 99, 111, 109]⟩ : ByteArray) 5 0 0 (⟨#[99, 111, 109]⟩ : ByteArray) (⟨#[]⟩ : ByteArray)]))) (fun x24 => some ((MZone.mk x1.apex x24), x5)))) else (bif decide (x4 = 5) then (bnd1 (s_l10Start (⟨#[97, 46, 99, 111, 109]⟩ : ByteArray) 5) (fun x27 => grd ((x1.l ++ [x27]).length ≤ 1099511627776) (bnd1 (s_l10Uniq (x1.l ++ [x27])) (fun x30 => some ((MZone.mk x1.apex x30), x5))))) else (bif decide (x4 = 6) then (bnd1 (idx x1.l 0) (fun x33 => grd (i64 (x33.ttl + 1)) (some ((MZone.mk x1.apex (x1.l.set (0 : Int).toNat (Rec.mk x33.name x33.ty (x33.ttl + 1) x33.n x33.host x33.text))), x5)))) else (some (x1, x5))))))))))
/- spec.l12Any -/
def s_l12Any (p0 : Cur) : Option (MForest × Cur) :=
  bnd2 (s_l12Draw p0) (fun x1 x2 => bnd2 (s_l1Below x2 (x1.zones.length : Int)) (fun x4 x5 => bnd2 (s_l1Below x5 12) (fun x7 x8 => bif decide (x7 = 0) then (grd ((0 : Int) ≤ ((0 : Nat) : Int) ∧ ((0 : Nat) : Int) ≤ x4 ∧ x4 ≤ (x1.zones.length : Int)) (grd (i64 (x4 + 1)) (grd ((0 : Int) ≤ x4 + 1 ∧ x4 + 1 ≤ (x1.zones.length : Int) ∧ (x1.zones.length : Int) ≤ (x1.zones.length : Int)) (grd ((x4.toNat - ((0 : Nat) : Int).toNat) + ((x1.zones.drop (0 + (x4 + 1).toNat)).take ((x1.zones.length : Int).toNat - (x4 + 1).toNat)).length ≤ x1.zones.length) (some ((MForest.mk (((x1.zones.take (x4.toNat - ((0 : Nat) : Int).toNat) ++ ((x1.zones.drop (0 + (x4 + 1).toNat)).take ((x1.zones.length : Int).toNat - (x4 + 1).toNat)) ++ x1.zones.drop ((x4.toNat - ((0 : Nat) : Int).toNat) + ((x1.zones.drop (0 + (x4 + 1).toNat)).take ((x1.zones.length : Int).toNat - (x4 + 1).toNat)).length)).drop 0).take ((x4.toNat - ((0 : Nat) : Int).toNat) + ((x1.zones.drop (0 + (x4 + 1).toNat)).take ((x1.zones.length : Int).toNat - (x4 + 1).toNat)).length : Nat)) x1.posts), x8)))))) else (bif decide (x7 = 1) then (grd ((0 : Int) ≤ 1 ∧ 1 ≤ (x1.posts.length : Int) ∧ (x1.posts.length : Int) ≤ (x1.posts.length : Int)) (some ((MForest.mk x1.zones ((x1.posts.drop (0 + (1 : Int).toNat)).take ((x1.posts.length : Int).toNat - (1 : Int).toNat))), x8))) else (bif decide (x7 = 2) then (bnd2 (s_l1Below x8 5) (fun x18 x19 => grd (i64 (1 + x18)) (bnd2 (s_l12Name x19) (fun x22 x23 => grd ((x1.posts ++ [MPost.mk (1 + x18) x22]).length ≤ 1099511627776) (some ((MForest.mk x1.zones (x1.posts ++ [MPost.mk (1 + x18) x22])), x23)))))) else (bif decide (x7 = 3) then (bnd2 (s_l10Any x8) (fun x27 x28 => bnd1 (idx x1.zones x4) (fun x30 => some ((MForest.mk (x1.zones.set x4.toNat x27) x1.posts), x28)))) else (bif decide (x7 = 4) then (bnd1 (idx x1.zones x4) (fun x33 => grd (i64 ((x33.l.length : Int) - 1)) (grd ((0 : Int) ≤ ((0 : Nat) : Int) ∧ ((0 : Nat) : Int) ≤ (x33.l.length : Int) - 1 ∧ (x33.l.length : Int) - 1 ≤ (x33.l.length : Int)) (some ((MForest.mk (x1.zones.set x4.toNat (MZone.mk x33.apex ((x33.l.drop ((0 : Nat) : Int).toNat).take (((x33.l.length : Int) - 1).toNat - ((0 : Nat) : Int).toNat)))) x1.posts), x8))))) else (bif decide (x7 = 5) then (bnd1 (idx x1.zones x4) (fun x38 => bnd1 (s_l10Addr (⟨#[110, 115, 46, 101, 120, 46, 99, 111, 109]⟩ : ByteArray) 5 60) (fun x40 => grd ((x38.l ++ [x40]).length ≤ 1099511627776) (bnd1 (s_l10Uniq (x38.l ++ [x40])) (fun x42 => some ((MForest.mk (x1.zones.set x4.toNat (MZone.mk x38.apex x42)) x1.posts), x8)))))) else (bif decide (x7 = 6) then (bnd1 (idx x1.zones x4) (fun x43 => grd ((x1.zones ++ [x43]).length ≤ 1099511627776) (some ((MForest.mk (x1.zones ++ [x43]) x1.posts), x8)))) else (some (x1, x8)))))))))))
/- spec.l12Quest -/
def s_l12Quest (p0 : Cur) : Option (Quest × Cur) :=
  bnd2 (s_l12Name p0) (fun x1 x2 => bnd2 (s_l1Int x2 [1, 1, 1, 1, 2, 5, 6, 16]) (fun x4 x5 => some ((Quest.mk x1 x4), x5)))
/- spec.l13Pair -/
def s_l13Pair (p0 : Cur) : Option (MForest × Quest × Cur) :=
  bnd2 (s_l12Any p0) (fun x1 x2 => bnd2 (s_l12Quest x2) (fun x4 x5 => some (x1, x4, x5)))
/- spec.Under -/
def s_Under_l0 (x1 : List ByteArray) (x3 : List ByteArray) : Nat → Int → Option Bool
  | 0, _ => none
  | f0 + 1, v0_0 => bif decide (v0_0 ≤ (x3.length : Int)) then (grd (i64 ((x1.length : Int) - v0_0)) (bnd1 (idx x1 ((x1.length : Int) - v0_0)) (fun x8 => grd (i64 ((x3.length : Int) - v0_0)) (bnd1 (idx x3 ((x3.length : Int) - v0_0)) (fun x11 => bif !decide (x8 = x11) then (some false) else (grd (i64 (v0_0 + 1)) (s_Under_l0 x1 x3 f0 (v0_0 + 1)))))))) else (some true)
def s_Under (p0 : ByteArray) (p1 : ByteArray) : Option Bool :=
  bnd1 (s_Labels p0) (fun x1 => bnd1 (s_Labels p1) (fun x3 => bif decide ((x1.length : Int) < (x3.length : Int)) then (some false) else (s_Under_l0 x1 x3 fuel0 1)))
/- spec.PartsOf -/
def s_PartsOf (p0 : ByteArray) : Option Int :=
  bnd1 (s_Labels p0) (fun x1 => some (x1.length : Int))
/- spec.ZoneOf -/
def s_ZoneOf_j1 (v0_0 : Int) (v0_1 : Nat) (k0 : Int → Nat → Option Int) (j1_0 : Bool) : Option Int :=
  bif j1_0 then (k0 (v0_1 : Int) (v0_1 + 1)) else (k0 v0_0 (v0_1 + 1))
def s_ZoneOf_l0 (p0 : MForest) (p1 : ByteArray) : List MZone → Int → Nat → Option Int
  | [], v0_0, v0_1 => some v0_0
  | e0 :: rs0, v0_0, v0_1 => bnd1 (s_Under p1 e0.apex) (fun x2 => bif x2 then (bif decide (v0_0 < 0) then (s_ZoneOf_j1 v0_0 v0_1 (s_ZoneOf_l0 p0 p1 rs0) true) else (bnd1 (s_PartsOf e0.apex) (fun x6 => bnd1 (idx p0.zones v0_0) (fun x8 => bnd1 (s_PartsOf x8.apex) (fun x10 => s_ZoneOf_j1 v0_0 v0_1 (s_ZoneOf_l0 p0 p1 rs0) (decide (x10 < x6))))))) else (s_ZoneOf_j1 v0_0 v0_1 (s_ZoneOf_l0 p0 p1 rs0) false))
def s_ZoneOf (p0 : MForest) (p1 : ByteArray) : Option Int :=
  s_ZoneOf_l0 p0 p1 p0.zones (-1) 0
/- spec.l9Has -/
def s_l9Has_l0 (p1 : ByteArray) : List ByteArray → Nat → Option Bool
  | [], v0_0 => some false
  | e0 :: rs0, v0_0 => bif decide (e0 = p1) then (some true) else (s_l9Has_l0 p1 rs0 (v0_0 + 1))
def s_l9Has (p0 : List ByteArray) (p1 : ByteArray) : Option Bool :=
  s_l9Has_l0 p1 p0 0
/- spec.CutsOf -/
def s_CutsOf_j1 (v0_0 : List ByteArray) (v0_1 : Nat) (e0 : Rec) (k0 : (List ByteArray) → Nat → Option (List ByteArray)) (j1_0 : Bool) : Option (List ByteArray) :=
  bif j1_0 then (grd ((v0_0 ++ [e0.name]).length ≤ 1099511627776) (k0 (v0_0 ++ [e0.name]) (v0_1 + 1))) else (k0 v0_0 (v0_1 + 1))
def s_CutsOf_l0 (p0 : MZone) : List Rec → (List ByteArray) → Nat → Option (List ByteArray)
  | [], v0_0, v0_1 => some v0_0
  | e0 :: rs0, v0_0, v0_1 => bif decide (e0.ty = 2) then (bif !decide (e0.name = p0.apex) then (bnd1 (s_Under e0.name p0.apex) (fun x4 => bif x4 then (bnd1 (s_l9Has v0_0 e0.name) (fun x7 => s_CutsOf_j1 v0_0 v0_1 e0 (s_CutsOf_l0 p0 rs0) (!x7))) else (s_CutsOf_j1 v0_0 v0_1 e0 (s_CutsOf_l0 p0 rs0) false))) else (s_CutsOf_j1 v0_0 v0_1 e0 (s_CutsOf_l0 p0 rs0) false)) else (s_CutsOf_j1 v0_0 v0_1 e0 (s_CutsOf_l0 p0 rs0) false)
def s_CutsOf (p0 : MZone) : Option (List ByteArray) :=
  s_CutsOf_l0 p0 p0.l ([] : List ByteArray) 0
/- spec.CutOf -/
def s_CutOf_l0 (p1 : ByteArray) : List ByteArray → Nat → Option (ByteArray × Bool)
  | [], v0_0 => some ((⟨#[]⟩ : ByteArray), false)
  | e0 :: rs0, v0_0 => bnd1 (s_Under p1 e0) (fun x4 => bif x4 then (some (e0, true)) else (s_CutOf_l0 p1 rs0 (v0_0 + 1)))
def s_CutOf (p0 : MZone) (p1 : ByteArray) : Option (ByteArray × Bool) :=
  bnd1 (s_CutsOf p0) (fun x1 => s_CutOf_l0 p1 x1 0)
/- spec.SetOf -/
def s_SetOf_j1 (v0_0 : List Rec) (v0_1 : Nat) (e0 : Rec) (k0 : (List Rec) → Nat → Option (List Rec)) (j1_0 : Bool) : Option (List Rec) :=
  bif j1_0 then (grd ((v0_0 ++ [e0]).length ≤ 1099511627776) (k0 (v0_0 ++ [e0]) (v0_1 + 1))) else (k0 v0_0 (v0_1 + 1))
def s_SetOf_l0 (p1 : ByteArray) (p2 : Int) : List Rec → (List Rec) → Nat → Option (List Rec)
  | [], v0_0, v0_1 => some v0_0
  | e0 :: rs0, v0_0, v0_1 => bif decide (e0.name = p1) then (s_SetOf_j1 v0_0 v0_1 e0 (s_SetOf_l0 p1 p2 rs0) (decide (e0.ty = p2))) else (s_SetOf_j1 v0_0 v0_1 e0 (s_SetOf_l0 p1 p2 rs0) false)
def s_SetOf (p0 : List Rec) (p1 : ByteArray) (p2 : Int) : Option (List Rec) :=
  s_SetOf_l0 p1 p2 p0 ([] : List Rec) 0
/- spec.Exists -/
def s_Exists_l0 (p1 : ByteArray) : List Rec → Nat → Option Bool
  | [], v0_0 => some false
  | e0 :: rs0, v0_0 => bnd1 (s_Under e0.name p1) (fun x2 => bif x2 then (some true) else (s_Exists_l0 p1 rs0 (v0_0 + 1)))
def s_Exists (p0 : MZone) (p1 : ByteArray) : Option Bool :=
  s_Exists_l0 p1 p0.l 0
/- spec.KindIn -/
def s_KindIn_j0 (p0 : MZone) (p1 : Quest) (j0_0 : Bool) : Option Int :=
  bif j0_0 then (some 2) else (bnd1 (s_SetOf p0.l p1.name p1.ty) (fun x9 => bif decide (0 < (x9.length : Int)) then (some 3) else (bnd1 (s_Exists p0 p1.name) (fun x12 => bif x12 then (some 4) else (some 5)))))
def s_KindIn (p0 : MZone) (p1 : Quest) : Option Int :=
  bnd2 (s_CutOf p0 p1.name) (fun x1 x2 => bnd1 (s_Under p1.name p0.apex) (fun x4 => bif !x4 then (some 0) else (bif x2 then (some 1) else (bif !decide (p1.ty = 5) then (bnd1 (s_SetOf p0.l p1.name 5) (fun x9 => s_KindIn_j0 p0 p1 (decide (0 < (x9.length : Int))))) else (s_KindIn_j0 p0 p1 false)))))
/- spec.AnswerIn -/
def s_AnswerIn (p0 : MZone) (p1 : Quest) : Option (List Rec) :=
  bnd1 (s_KindIn p0 p1) (fun x1 => bif decide (x1 = 2) then (bnd1 (s_SetOf p0.l p1.name 5) (fun x4 => some x4)) else (bif decide (x1 = 3) then (bnd1 (s_SetOf p0.l p1.name p1.ty) (fun x7 => some x7)) else (some ([] : List Rec))))
/- spec.LinkAt -/
def s_LinkAt (p0 : MForest) (p1 : Quest) : Option (Int × (List Rec)) :=
  bnd1 (s_ZoneOf p0 p1.name) (fun x1 => bif decide (x1 < 0) then (some (0, ([] : List Rec))) else (bnd1 (idx p0.zones x1) (fun x4 => bnd1 (s_KindIn x4 p1) (fun x6 => bnd1 (s_AnswerIn x4 p1) (fun x8 => some (x6, x8))))))
/- spec.FactOf -/
def s_FactOf_j1 (v0_1 : List Rec) (x2 : List Rec) (k0 : ByteArray → (List Rec) → Option MFact) (j1_0 : Bool) : Option MFact :=
  bif j1_0 then (some (MFact.mk 0 ([] : List Rec) ([] : List Rec) false)) else (bnd1 (idx x2 0) (fun x8 => grd ((v0_1 ++ [x8]).length ≤ 1099511627776) (k0 x8.host (v0_1 ++ [x8]))))
def s_FactOf_l0 (p0 : MForest) (p1 : Quest) : Nat → ByteArray → (List Rec) → Option MFact
  | 0, _, _ => none
  | f0 + 1, v0_0, v0_1 => bnd2 (s_LinkAt p0 (Quest.mk v0_0 p1.ty)) (fun x1 x2 => bif decide (x1 = 3) then (some (MFact.mk 0 v0_1 x2 true)) else (bif decide (x1 = 4) then (some (MFact.mk 0 v0_1 ([] : List Rec) true)) else (bif decide (x1 = 5) then (some (MFact.mk 3 v0_1 ([] : List Rec) true)) else (bif !decide (x1 = 2) then (s_FactOf_j1 v0_1 x2 (s_FactOf_l0 p0 p1 f0) true) else (s_FactOf_j1 v0_1 x2 (s_FactOf_l0 p0 p1 f0) (decide ((v0_1.length : Int) = 6)))))))
def s_FactOf (p0 : MForest) (p1 : Quest) : Option MFact :=
  s_FactOf_l0 p0 p1 fuel0 p1.name ([] : List Rec)
/- spec.l7Copy -/
def s_l7Copy (p0 : List Rec) : Option (List Rec) :=
  grd ((([] : List Rec) ++ p0).length ≤ 1099511627776) (some (([] : List Rec) ++ p0))
/- spec.WithTtl -/
def s_WithTtl_l0 (p1 : Int) : Nat → (List Rec) → Int → Option (List Rec)
  | 0, _, _ => none
  | f0 + 1, v0_0, v0_1 => bif decide (v0_1 < (v0_0.length : Int)) then (bnd1 (idx v0_0 v0_1) (fun x4 => grd (i64 (v0_1 + 1)) (s_WithTtl_l0 p1 f0 (v0_0.set v0_1.toNat (Rec.mk x4.name x4.ty p1 x4.n x4.host x4.text)) (v0_1 + 1)))) else (some v0_0)
def s_WithTtl (p0 : List Rec) (p1 : Int) : Option (List Rec) :=
  bnd1 (s_l7Copy p0) (fun x1 => s_WithTtl_l0 p1 fuel0 x1 0)
/- spec.l13Bent -/
def s_l13Bent (p0 : Cur) (p1 : MFact) : Option (MFact × Cur) :=
  bnd1 (s_l7Copy p1.links) (fun x1 => bnd1 (s_WithTtl p1.l 1) (fun x3 => bnd2 (s_l1Below p0 5) (fun x5 x6 => bif decide (x5 = 0) then (grd (i64 (3 - p1.code)) (some ((MFact.mk (3 - p1.code) x1 x3 p1.fin), x6))) else (bif decide (x5 = 1) then (some ((MFact.mk p1.code x1 x3 (!p1.fin)), x6)) else (bif decide (x5 = 2) then (bnd2 (s_l5Draw x6) (fun x12 x13 => grd ((x3 ++ [x12]).length ≤ 1099511627776) (some ((MFact.mk p1.code x1 (x3 ++ [x12]) p1.fin), x13)))) else (bif decide (x5 = 3) then (bnd2 (s_l5Draw x6) (fun x17 x18 => grd ((x1 ++ [x17]).length ≤ 1099511627776) (some ((MFact.mk p1.code (x1 ++ [x17]) x3 p1.fin), x18)))) else (some ((MFact.mk p1.code x1 x3 p1.fin), x6))))))))
/- spec.DrawSameFact -/
def s_DrawSameFact (p0 : List Int) : Option (MFact × MFact) :=
  bnd1 (s_l1New p0) (fun x1 => bnd3 (s_l13Pair x1) (fun x3 x4 x5 => bnd1 (s_FactOf x3 x4) (fun x7 => bnd2 (s_l13Bent x5 x7) (fun x9 x10 => some (x7, x9)))))
/- spec.l9Near -/
def s_l9Near_j1 (v0_3 : List Rec) (v0_4 : Int) (x5 : Rec) (x8 : ByteArray) (k0 : (List Int) → Int → Int → (List Rec) → Int → Option ((List Rec) × Cur)) (j1_0 : List Int) (j1_1 : Int) (j1_2 : Int) (j1_3 : Int) (j1_4 : Int) (j1_5 : ByteArray) (j1_6 : ByteArray) : Option ((List Rec) × Cur) :=
  grd ((v0_3 ++ [Rec.mk x8 j1_3 x5.ttl j1_4 j1_5 j1_6]).length ≤ 1099511627776) (grd (i64 (v0_4 - 1)) (k0 j1_0 j1_1 j1_2 (v0_3 ++ [Rec.mk x8 j1_3 x5.ttl j1_4 j1_5 j1_6]) (v0_4 - 1)))
def s_l9Near_l0  : Nat → (List Int) → Int → Int → (List Rec) → Int → Option ((List Rec) × Cur)
  | 0, _, _, _, _, _ => none
  | f0 + 1, v0_0, v0_1, v0_2, v0_3, v0_4 => bif decide (0 < v0_4) then (bnd2 (s_l5Draw (Cur.mk v0_0 v0_1 v0_2)) (fun x5 x6 => bnd2 (s_l1Str x6 ([(⟨#[101, 120, 46, 99, 111, 109]⟩ : ByteArray), (⟨#[110, 115, 46, 101, 120, 46, 99, 111, 109]⟩ : ByteArray)])) (fun x8 x9 => bnd2 (s_l1Once x9 2) (fun x11 x12 => bif x11 then (bnd2 (s_l1Below x12 3) (fun x15 x16 => s_l9Near_j1 v0_3 v0_4 x5 x8 (s_l9Near_l0 f0) x16.b x16.i x16.h 1 x15 (⟨#[]⟩ : ByteArray) (⟨#[]⟩ : ByteArray))) else (s_l9Near_j1 v0_3 v0_4 x5 x8 (s_l9Near_l0 f0) x12.b x12.i x12.h x5.ty x5.n x5.host x5.text))))) else (some (v0_3, Cur.mk v0_0 v0_1 v0_2))
def s_l9Near (p0 : Cur) : Option ((List Rec) × Cur) :=
  bnd2 (s_l1Below p0 6) (fun x1 x2 => s_l9Near_l0 fuel0 x2.b x2.i x2.h ([] : List Rec) x1)
/- spec.DrawNoLater -/
def s_DrawNoLater_j0 (x3 : List Rec) (j0_0 : List Int) (j0_1 : Int) (j0_2 : Int) (j0_3 : List Rec) : Option ((List Rec) × (List Rec)) :=
  bnd2 (s_l1Once (Cur.mk j0_0 j0_1 j0_2) 5) (fun x8 x9 => bif x8 then (bnd2 (s_l5Draw x9) (fun x12 x13 => grd ((j0_3 ++ [x12]).length ≤ 1099511627776) (some ((j0_3 ++ [x12]), x3)))) else (some (j0_3, x3)))
def s_DrawNoLater_j1 (x3 : List Rec) (x6 : List Rec) (j1_0 : List Int) (j1_1 : Int) (j1_2 : Int) (j1_3 : Bool) : Option ((List Rec) × (List Rec)) :=
  bif j1_3 then (bnd2 (s_l1Int (Cur.mk j1_0 j1_1 j1_2) [0, 1, 60, 99999]) (fun x9 x10 => bnd1 (idx x6 0) (fun x12 => bnd2 (s_l1Below x10 (x6.length : Int)) (fun x14 x15 => grd (i64 (1 + x14)) (grd ((0 : Int) ≤ ((0 : Nat) : Int) ∧ ((0 : Nat) : Int) ≤ 1 + x14 ∧ 1 + x14 ≤ (x6.length : Int)) (s_DrawNoLater_j0 x3 x15.b x15.i x15.h (((x6.set (0 : Int).toNat (Rec.mk x12.name x12.ty x9 x12.n x12.host x12.text)).drop (0 + ((0 : Nat) : Int).toNat)).take ((1 + x14).toNat - ((0 : Nat) : Int).toNat)))))))) else (s_DrawNoLater_j0 x3 j1_0 j1_1 j1_2 x6)
def s_DrawNoLater (p0 : List Int) : Option ((List Rec) × (List Rec)) :=
  bnd1 (s_l1New p0) (fun x1 => bnd2 (s_l9Near x1) (fun x3 x4 => bnd1 (s_l7Copy x3) (fun x6 => bif decide (0 < (x6.length : Int)) then (bnd2 (s_l1Once x4 2) (fun x9 x10 => s_DrawNoLater_j1 x3 x6 x10.b x10.i x10.h x9)) else (s_DrawNoLater_j1 x3 x6 x4.b x4.i x4.h false))))
/- spec.DrawLinkAt -/
def s_DrawLinkAt (p0 : List Int) : Option (MForest × Quest) :=
  bnd1 (s_l1New p0) (fun x1 => bnd3 (s_l13Pair x1) (fun x3 x4 x5 => some (x3, x4)))
/- stringslite.IndexByte -/
def internal_stringslite_IndexByte (p0 : ByteArray) (p1 : Int) : Option Int :=
  some (Lib.indexByte p0.data.toList p1.toNat.toUInt8)
/- stringslite.Index -/
def internal_stringslite_Index_j0 (p0 : ByteArray) (p1 : ByteArray) (j0_0 : Bool) : Option Int :=
  bif j0_0 then (some 0) else (bif decide ((p1.size : Int) = 1) then (bnd1 (sidx p1 0) (fun x3 => bnd1 (internal_stringslite_IndexByte p0 x3) (fun x5 => some x5))) else (bif decide ((p0.size : Int) ≤ (p1.size : Int)) then (some (-1)) else (none)))
def internal_stringslite_Index (p0 : ByteArray) (p1 : ByteArray) : Option Int :=
  bif decide ((p1.size : Int) = 0) then (internal_stringslite_Index_j0 p0 p1 true) else (internal_stringslite_Index_j0 p0 p1 (decide (p1 = p0)))
/- strings.Index -/
def strings_Index (p0 : ByteArray) (p1 : ByteArray) : Option Int :=
  bnd1 (internal_stringslite_Index p0 p1) (fun x1 => some x1)
/- strings.Count -/
def strings_Count_l0 (p1 : ByteArray) : Nat → ByteArray → Int → Option Int
  | 0, _, _ => none
  | f0 + 1, v0_0, v0_1 => bnd1 (strings_Index v0_0 p1) (fun x5 => bif decide (x5 = (-1)) then (some v0_1) else (grd (i64 (v0_1 + 1)) (grd (i64 (x5 + (p1.size : Int))) (grd (0 ≤ x5 + (p1.size : Int) ∧ x5 + (p1.size : Int) ≤ (v0_0.size : Int) ∧ (v0_0.size : Int) ≤ (v0_0.size : Int)) (strings_Count_l0 p1 f0 (v0_0.extract (x5 + (p1.size : Int)).toNat (v0_0.size : Int).toNat) (v0_1 + 1))))))
def strings_Count (p0 : ByteArray) (p1 : ByteArray) : Option Int :=
  bif decide ((p1.size : Int) = 0) then (none) else (bif decide ((p1.size : Int) = 1) then (bnd1 (sidx p1 0) (fun x3 => some (Lib.countByte p0.data.toList x3.toNat.toUInt8 : Int))) else (strings_Count_l0 p1 fuel0 p0 0))
/- strings.genSplit -/
def strings_genSplit_j1  (j1_0 : ByteArray) (j1_1 : List ByteArray) (j1_2 : Int) : Option (List ByteArray) :=
  bnd1 (idx j1_1 j1_2) (fun x6 => grd (i64 (j1_2 + 1)) (grd ((0 : Int) ≤ ((0 : Nat) : Int) ∧ ((0 : Nat) : Int) ≤ j1_2 + 1 ∧ j1_2 + 1 ≤ (j1_1.length : Int)) (some (((j1_1.set j1_2.toNat j1_0).drop (0 + ((0 : Nat) : Int).toNat)).take ((j1_2 + 1).toNat - ((0 : Nat) : Int).toNat)))))
def strings_genSplit_l2 (p0 : ByteArray) (p1 : ByteArray) (p2 : Int) (j0_0 : Int) : Nat → ByteArray → (List ByteArray) → Int → Option (List ByteArray)
  | 0, _, _, _ => none
  | f2 + 1, v2_0, v2_1, v2_2 => bif decide (v2_2 < (if (p0.size : Int) + 1 < j0_0 then (p0.size : Int) + 1 else j0_0) - 1) then (bnd1 (strings_Index v2_0 p1) (fun x7 => bif decide (x7 < 0) then (strings_genSplit_j1 v2_0 v2_1 v2_2) else (grd (i64 (x7 + p2)) (grd (0 ≤ ((0 : Nat) : Int) ∧ ((0 : Nat) : Int) ≤ x7 + p2 ∧ x7 + p2 ≤ (v2_0.size : Int)) (bnd1 (idx v2_1 v2_2) (fun x12 => grd (i64 (x7 + (p1.size : Int))) (grd (0 ≤ x7 + (p1.size : Int) ∧ x7 + (p1.size : Int) ≤ (v2_0.size : Int) ∧ (v2_0.size : Int) ≤ (v2_0.size : Int)) (grd (i64 (v2_2 + 1)) (strings_genSplit_l2 p0 p1 p2 j0_0 f2 (v2_0.extract (x7 + (p1.size : Int)).toNat (v2_0.size : Int).toNat) (v2_1.set v2_2.toNat (v2_0.extract ((0 : Nat) : Int).toNat (x7 + p2).toNat)) (v2_2 + 1)))))))))) else (strings_genSplit_j1 v2_0 v2_1 v2_2)
def strings_genSplit_j0 (p0 : ByteArray) (p1 : ByteArray) (p2 : Int) (j0_0 : Int) : Option (List ByteArray) :=
  grd (i64 ((p0.size : Int) + 1)) (grd (0 ≤ (if (p0.size : Int) + 1 < j0_0 then (p0.size : Int) + 1 else j0_0) ∧ (if (p0.size : Int) + 1 < j0_0 then (p0.size : Int) + 1 else j0_0).toNat ≤ 1099511627776) (grd (i64 ((if (p0.size : Int) + 1 < j0_0 then (p0.size : Int) + 1 else j0_0) - 1)) (strings_genSplit_l2 p0 p1 p2 j0_0 fuel0 p0 (List.replicate (if (p0.size : Int) + 1 < j0_0 then (p0.size : Int) + 1 else j0_0).toNat (⟨#[]⟩ : ByteArray)) 0)))
def strings_genSplit (p0 : ByteArray) (p1 : ByteArray) (p2 : Int) (p3 : Int) : Option (List ByteArray) :=
  bif decide (p3 = 0) then (some ([] : List ByteArray)) else (bif decide (p1 = (⟨#[]⟩ : ByteArray)) then (none) else (bif decide (p3 < 0) then (bnd1 (strings_Count p0 p1) (fun x4 => grd (i64 (x4 + 1)) (strings_genSplit_j0 p0 p1 p2 (x4 + 1)))) else (strings_genSplit_j0 p0 p1 p2 p3)))
/- strings.Split -/
def strings_Split (p0 : ByteArray) (p1 : ByteArray) : Option (List ByteArray) :=
  bnd1 (strings_genSplit p0 p1 0 (-1)) (fun x1 => some x1)
/- impl.Labels -/
def i_Labels (p0 : ByteArray) : Option (List ByteArray) :=
  bif decide (p0 = (⟨#[]⟩ : ByteArray)) then (some ([] : List ByteArray)) else (bnd1 (strings_Split p0 (⟨#[46]⟩ : ByteArray)) (fun x2 => some x2))
/- slices.Equal[[]string,string] -/
def slices_Equal_string_l0 (p1 : List ByteArray) : List ByteArray → Nat → Option Bool
  | [], v0_0 => some true
  | e0 :: rs0, v0_0 => bnd1 (idx p1 (v0_0 : Int)) (fun x3 => bif !decide (e0 = x3) then (some false) else (slices_Equal_string_l0 p1 rs0 (v0_0 + 1)))
def slices_Equal_string (p0 : List ByteArray) (p1 : List ByteArray) : Option Bool :=
  bif !decide ((p0.length : Int) = (p1.length : Int)) then (some false) else (slices_Equal_string_l0 p1 p0 0)
/- impl.Under -/
def i_Under (p0 : ByteArray) (p1 : ByteArray) : Option Bool :=
  bnd1 (i_Labels p0) (fun x1 => bnd1 (i_Labels p1) (fun x3 => bif decide ((x3.length : Int) ≤ (x1.length : Int)) then (grd (i64 ((x1.length : Int) - (x3.length : Int))) (grd ((0 : Int) ≤ (x1.length : Int) - (x3.length : Int) ∧ (x1.length : Int) - (x3.length : Int) ≤ (x1.length : Int) ∧ (x1.length : Int) ≤ (x1.length : Int)) (bnd1 (slices_Equal_string ((x1.drop (0 + ((x1.length : Int) - (x3.length : Int)).toNat)).take ((x1.length : Int).toNat - ((x1.length : Int) - (x3.length : Int)).toNat)) x3) (fun x8 => some x8)))) else (some false)))
/- impl.PartsOf -/
def i_PartsOf (p0 : ByteArray) : Option Int :=
  bnd1 (i_Labels p0) (fun x1 => some (x1.length : Int))
/- impl.deepest -/
def i_deepest_j1 (v0_0 : Int) (v0_1 : Nat) (k0 : Int → Nat → Option Int) (j1_0 : Bool) : Option Int :=
  bif j1_0 then (k0 (v0_1 : Int) (v0_1 + 1)) else (k0 v0_0 (v0_1 + 1))
def i_deepest_l0 (p0 : MForest) (p1 : ByteArray) (p2 : ByteArray → Option Bool) : List MZone → Int → Nat → Option Int
  | [], v0_0, v0_1 => some v0_0
  | e0 :: rs0, v0_0, v0_1 => bnd1 (i_Under p1 e0.apex) (fun x2 => bif x2 then (bnd1 (p2 e0.apex) (fun x5 => bif x5 then (bif decide (v0_0 < 0) then (i_deepest_j1 v0_0 v0_1 (i_deepest_l0 p0 p1 p2 rs0) true) else (bnd1 (i_PartsOf e0.apex) (fun x9 => bnd1 (idx p0.zones v0_0) (fun x11 => bnd1 (i_PartsOf x11.apex) (fun x13 => i_deepest_j1 v0_0 v0_1 (i_deepest_l0 p0 p1 p2 rs0) (decide (x13 < x9))))))) else (i_deepest_j1 v0_0 v0_1 (i_deepest_l0 p0 p1 p2 rs0) false))) else (i_deepest_j1 v0_0 v0_1 (i_deepest_l0 p0 p1 p2 rs0) false))
def i_deepest (p0 : MForest) (p1 : ByteArray) (p2 : ByteArray → Option Bool) : Option Int :=
  i_deepest_l0 p0 p1 p2 p0.zones (-1) 0
/- impl.ZoneOf$1 -/
def i_ZoneOf_1 (p0 : ByteArray) : Option Bool :=
  some true
/- impl.ZoneOf -/
def i_ZoneOf (p0 : MForest) (p1 : ByteArray) : Option Int :=
  bnd1 (i_deepest (MForest.mk p0.zones p0.posts) p1 (fun a0 => i_ZoneOf_1 a0)) (fun x1 => some x1)
/- slices.Index[[]string,string] -/
def slices_Index_string_l0 (p1 : ByteArray) : List ByteArray → Nat → Option Int
  | [], v0_0 => some (-1)
  | e0 :: rs0, v0_0 => bif decide (p1 = e0) then (some (v0_0 : Int)) else (slices_Index_string_l0 p1 rs0 (v0_0 + 1))
def slices_Index_string (p0 : List ByteArray) (p1 : ByteArray) : Option Int :=
  slices_Index_string_l0 p1 p0 0
/- slices.Contains[[]string,string] -/
def slices_Contains_string (p0 : List ByteArray) (p1 : ByteArray) : Option Bool :=
  bnd1 (slices_Index_string p0 p1) (fun x1 => some (decide (0 ≤ x1)))
/- impl.CutsOf -/
def i_CutsOf_j1 (v0_0 : List ByteArray) (v0_1 : Nat) (e0 : Rec) (k0 : (List ByteArray) → Nat → Option (List ByteArray)) (j1_0 : Bool) : Option (List ByteArray) :=
  bif j1_0 then (grd ((v0_0 ++ [e0.name]).length ≤ 1099511627776) (k0 (v0_0 ++ [e0.name]) (v0_1 + 1))) else (k0 v0_0 (v0_1 + 1))
def i_CutsOf_l0 (p0 : MZone) : List Rec → (List ByteArray) → Nat → Option (List ByteArray)
  | [], v0_0, v0_1 => some v0_0
  | e0 :: rs0, v0_0, v0_1 => bif decide (e0.ty = 2) then (bif !decide (e0.name = p0.apex) then (bnd1 (i_Under e0.name p0.apex) (fun x4 => bif x4 then (bnd1 (slices_Contains_string v0_0 e0.name) (fun x7 => i_CutsOf_j1 v0_0 v0_1 e0 (i_CutsOf_l0 p0 rs0) (!x7))) else (i_CutsOf_j1 v0_0 v0_1 e0 (i_CutsOf_l0 p0 rs0) false))) else (i_CutsOf_j1 v0_0 v0_1 e0 (i_CutsOf_l0 p0 rs0) false)) else (i_CutsOf_j1 v0_0 v0_1 e0 (i_CutsOf_l0 p0 rs0) false)
def i_CutsOf (p0 : MZone) : Option (List ByteArray) :=
  i_CutsOf_l0 p0 p0.l ([] : List ByteArray) 0
/- impl.CutOf -/
def i_CutOf_l0 (p1 : ByteArray) : List ByteArray → Nat → Option (ByteArray × Bool)
  | [], v0_0 => some ((⟨#[]⟩ : ByteArray), false)
  | e0 :: rs0, v0_0 => bnd1 (i_Under p1 e0) (fun x4 => bif x4 then (some (e0, true)) else (i_CutOf_l0 p1 rs0 (v0_0 + 1)))
def i_CutOf (p0 : MZone) (p1 : ByteArray) : Option (ByteArray × Bool) :=
  bnd1 (i_CutsOf p0) (fun x1 => i_CutOf_l0 p1 x1 0)
/- impl.SetOf -/
def i_SetOf_j1 (v0_0 : List Rec) (v0_1 : Nat) (e0 : Rec) (k0 : (List Rec) → Nat → Option (List Rec)) (j1_0 : Bool) : Option (List Rec) :=
  bif j1_0 then (grd ((v0_0 ++ [e0]).length ≤ 1099511627776) (k0 (v0_0 ++ [e0]) (v0_1 + 1))) else (k0 v0_0 (v0_1 + 1))
def i_SetOf_l0 (p1 : ByteArray) (p2 : Int) : List Rec → (List Rec) → Nat → Option (List Rec)
  | [], v0_0, v0_1 => some v0_0
  | e0 :: rs0, v0_0, v0_1 => bif decide (e0.name = p1) then (i_SetOf_j1 v0_0 v0_1 e0 (i_SetOf_l0 p1 p2 rs0) (decide (e0.ty = p2))) else (i_SetOf_j1 v0_0 v0_1 e0 (i_SetOf_l0 p1 p2 rs0) false)
def i_SetOf (p0 : List Rec) (p1 : ByteArray) (p2 : Int) : Option (List Rec) :=
  i_SetOf_l0 p1 p2 p0 ([] : List Rec) 0
/- impl.Record] -/
def slices_IndexFunc_Record_l0 (p1 : Rec → Option Bool) : List Rec → Nat → Option Int
  | [], v0_0 => some (-1)
  | e0 :: rs0, v0_0 => bnd1 (p1 e0) (fun x2 => bif x2 then (some (v0_0 : Int)) else (slices_IndexFunc_Record_l0 p1 rs0 (v0_0 + 1)))
def slices_IndexFunc_Record (p0 : List Rec) (p1 : Rec → Option Bool) : Option Int :=
  slices_IndexFunc_Record_l0 p1 p0 0
/- impl.Record] -/
def slices_ContainsFunc_Record (p0 : List Rec) (p1 : Rec → Option Bool) : Option Bool :=
  bnd1 (slices_IndexFunc_Record p0 p1) (fun x1 => some (decide (0 ≤ x1)))
/- impl.Exists$1 -/
def i_Exists_1 (p0 : Rec) (p1 : ByteArray) : Option Bool :=
  bnd1 (i_Under p0.name p1) (fun x1 => some x1)
/- impl.Exists -/
def i_Exists (p0 : MZone) (p1 : ByteArray) : Option Bool :=
  bnd1 (slices_ContainsFunc_Record p0.l (fun a0 => i_Exists_1 a0 p1)) (fun x1 => some x1)
/- impl.KindIn -/
def i_KindIn_j0 (p0 : MZone) (p1 : Quest) (j0_0 : Bool) : Option Int :=
  bif j0_0 then (some 2) else (bnd1 (i_SetOf p0.l p1.name p1.ty) (fun x9 => bif decide (0 < (x9.length : Int)) then (some 3) else (bnd1 (i_Exists p0 p1.name) (fun x12 => bif x12 then (some 4) else (some 5)))))
def i_KindIn (p0 : MZone) (p1 : Quest) : Option Int :=
  bnd2 (i_CutOf p0 p1.name) (fun x1 x2 => bnd1 (i_Under p1.name p0.apex) (fun x4 => bif !x4 then (some 0) else (bif x2 then (some 1) else (bif !decide (p1.ty = 5) then (bnd1 (i_SetOf p0.l p1.name 5) (fun x9 => i_KindIn_j0 p0 p1 (decide (0 < (x9.length : Int))))) else (i_KindIn_j0 p0 p1 false)))))
/- impl.AnswerIn -/
def i_AnswerIn (p0 : MZone) (p1 : Quest) : Option (List Rec) :=
  bnd1 (i_KindIn p0 p1) (fun x1 => bif decide (x1 = 2) then (bnd1 (i_SetOf p0.l p1.name 5) (fun x4 => some x4)) else (bif decide (x1 = 3) then (bnd1 (i_SetOf p0.l p1.name p1.ty) (fun x7 => some x7)) else (some ([] : List Rec))))
/- impl.LinkAt -/
def i_LinkAt (p0 : MForest) (p1 : Quest) : Option (Int × (List Rec)) :=
  bnd1 (i_ZoneOf p0 p1.name) (fun x1 => bif decide (x1 < 0) then (some (0, ([] : List Rec))) else (bnd1 (idx p0.zones x1) (fun x4 => bnd1 (i_KindIn x4 p1) (fun x6 => bnd1 (i_AnswerIn x4 p1) (fun x8 => some (x6, x8))))))
/- impl.Record] -/
def slices_Clone_Record (p0 : List Rec) : Option (List Rec) :=
  grd ((([] : List Rec) ++ p0).length ≤ 1099511627776) (some (([] : List Rec) ++ p0))
/- impl.WithTtl -/
def i_WithTtl_l0 (p1 : Int) : List Rec → (List Rec) → Nat → Option (List Rec)
  | [], v0_0, v0_1 => some v0_0
  | e0 :: rs0, v0_0, v0_1 => bnd1 (idx v0_0 (v0_1 : Int)) (fun x4 => i_WithTtl_l0 p1 rs0 (v0_0.set ((v0_1 : Int).toNat) (Rec.mk x4.name x4.ty p1 x4.n x4.host x4.text)) (v0_1 + 1))
def i_WithTtl (p0 : List Rec) (p1 : Int) : Option (List Rec) :=
  bnd1 (slices_Clone_Record p0) (fun x1 => i_WithTtl_l0 p1 x1 x1 0)
/- impl.Record] -/
def slices_Equal_Record_l0 (p1 : List Rec) : List Rec → Nat → Option Bool
  | [], v0_0 => some true
  | e0 :: rs0, v0_0 => bnd1 (idx p1 (v0_0 : Int)) (fun x3 => bif !(decide (e0.name = x3.name) && (decide (e0.ty = x3.ty) && (decide (e0.ttl = x3.ttl) && (decide (e0.n = x3.n) && (decide (e0.host = x3.host) && (decide (e0.text = x3.text) && true)))))) then (some false) else (slices_Equal_Record_l0 p1 rs0 (v0_0 + 1)))
def slices_Equal_Record (p0 : List Rec) (p1 : List Rec) : Option Bool :=
  bif !decide ((p0.length : Int) = (p1.length : Int)) then (some false) else (slices_Equal_Record_l0 p1 p0 0)
/- impl.SameRecords -/
def i_SameRecords (p0 : List Rec) (p1 : List Rec) : Option Bool :=
  bnd1 (slices_Equal_Record p0 p1) (fun x1 => some x1)
/- impl.Record] -/
def slices_Index_Record_l0 (p1 : Rec) : List Rec → Nat → Option Int
  | [], v0_0 => some (-1)
  | e0 :: rs0, v0_0 => bif (decide (p1.name = e0.name) && (decide (p1.ty = e0.ty) && (decide (p1.ttl = e0.ttl) && (decide (p1.n = e0.n) && (decide (p1.host = e0.host) && (decide (p1.text = e0.text) && true)))))) then (some (v0_0 : Int)) else (slices_Index_Record_l0 p1 rs0 (v0_0 + 1))
def slices_Index_Record (p0 : List Rec) (p1 : Rec) : Option Int :=
  slices_Index_Record_l0 p1 p0 0
/- impl.Record] -/
def slices_Contains_Record (p0 : List Rec) (p1 : Rec) : Option Bool :=
  bnd1 (slices_Index_Record p0 p1) (fun x1 => some (decide (0 ≤ x1)))
/- impl.within$1 -/
def i_within_1 (p0 : Rec) (p1 : List Rec) : Option Bool :=
  bnd1 (slices_Contains_Record p1 p0) (fun x1 => some (!x1))
/- impl.within -/
def i_within (p0 : List Rec) (p1 : List Rec) : Option Bool :=
  bnd1 (i_WithTtl p0 0) (fun x1 => bnd1 (i_WithTtl p1 0) (fun x3 => bnd1 (slices_ContainsFunc_Record x1 (fun a0 => i_within_1 a0 x3)) (fun x5 => some (!x5))))
/- impl.SameData -/
def i_SameData (p0 : List Rec) (p1 : List Rec) : Option Bool :=
  bnd1 (i_within p0 p1) (fun x1 => bif x1 then (bnd1 (i_within p1 p0) (fun x4 => some x4)) else (some false))
/- impl.SameFact -/
def i_SameFact (p0 : MFact) (p1 : MFact) : Option Bool :=
  bif decide (p0.code = p1.code) then (bif (p0.fin == p1.fin) then (bnd1 (i_WithTtl p0.links 0) (fun x3 => bnd1 (i_WithTtl p1.links 0) (fun x5 => bnd1 (i_SameRecords x3 x5) (fun x7 => bif x7 then (bnd1 (i_SameData p0.l p1.l) (fun x10 => some x10)) else (some false))))) else (some false)) else (some false)
/- spec.l13SameLinks -/
def s_l13SameLinks_l0 (p1 : List Rec) : List Rec → Nat → Option Bool
  | [], v0_0 => some true
  | e0 :: rs0, v0_0 => bnd1 (idx p1 (v0_0 : Int)) (fun x3 => bif !(decide (e0.name = x3.name) && (decide (e0.ty = x3.ty) && (decide (x3.ttl = x3.ttl) && (decide (e0.n = x3.n) && (decide (e0.host = x3.host) && (decide (e0.text = x3.text) && true)))))) then (some false) else (s_l13SameLinks_l0 p1 rs0 (v0_0 + 1)))
def s_l13SameLinks (p0 : List Rec) (p1 : List Rec) : Option Bool :=
  bif !decide ((p0.length : Int) = (p1.length : Int)) then (some false) else (s_l13SameLinks_l0 p1 p0 0)
/- spec.l9In -/
def s_l9In_l0 (p1 : Rec) : List Rec → Nat → Option Bool
  | [], v0_0 => some false
  | e0 :: rs0, v0_0 => bif (decide (e0.name = p1.name) && (decide (e0.ty = p1.ty) && (decide (p1.ttl = p1.ttl) && (decide (e0.n = p1.n) && (decide (e0.host = p1.host) && (decide (e0.text = p1.text) && true)))))) then (some true) else (s_l9In_l0 p1 rs0 (v0_0 + 1))
def s_l9In (p0 : List Rec) (p1 : Rec) : Option Bool :=
  s_l9In_l0 p1 p0 0
/- spec.SameData -/
def s_SameData_l2 (p0 : List Rec) : List Rec → Nat → Option Bool
  | [], v2_0 => some true
  | e2 :: rs2, v2_0 => bnd1 (s_l9In p0 e2) (fun x2 => bif !x2 then (some false) else (s_SameData_l2 p0 rs2 (v2_0 + 1)))
def s_SameData_j0 (p0 : List Rec) (p1 : List Rec) : Option Bool :=
  s_SameData_l2 p0 p1 0
def s_SameData_l1 (p0 : List Rec) (p1 : List Rec) : List Rec → Nat → Option Bool
  | [], v1_0 => s_SameData_j0 p0 p1
  | e1 :: rs1, v1_0 => bnd1 (s_l9In p1 e1) (fun x2 => bif !x2 then (some false) else (s_SameData_l1 p0 p1 rs1 (v1_0 + 1)))
def s_SameData (p0 : List Rec) (p1 : List Rec) : Option Bool :=
  s_SameData_l1 p0 p1 p0 0
/- spec.SameFact -/
def s_SameFact (p0 : MFact) (p1 : MFact) : Option Bool :=
  bif decide (p0.code = p1.code) then (bif (p0.fin == p1.fin) then (bnd1 (s_l13SameLinks p0.links p1.links) (fun x3 => bif x3 then (bnd1 (s_SameData p0.l p1.l) (fun x6 => some x6)) else (some false))) else (some false)) else (some false)
/- impl.NoLater$1 -/
def i_NoLater_1 (p0 : Rec) (p1 : Rec) : Option Bool :=
  bif (decide (p0.name = p1.name) && (decide (p0.ty = p1.ty) && (decide (p1.ttl = p1.ttl) && (decide (p0.n = p1.n) && (decide (p0.host = p1.host) && (decide (p0.text = p1.text) && true)))))) then (some (decide (p1.ttl ≤ p0.ttl))) else (some false)
/- impl.NoLater -/
def i_NoLater_l0 (p1 : List Rec) : List Rec → Nat → Option Bool
  | [], v0_0 => some true
  | e0 :: rs0, v0_0 => bnd1 (slices_ContainsFunc_Record p1 (fun a0 => i_NoLater_1 a0 e0)) (fun x2 => bif !x2 then (some false) else (i_NoLater_l0 p1 rs0 (v0_0 + 1)))
def i_NoLater (p0 : List Rec) (p1 : List Rec) : Option Bool :=
  i_NoLater_l0 p1 p0 0
/- spec.NoLater -/
def s_NoLater_j1 (v0_0 : Nat) (k0 : Nat → Option Bool) (j1_0 : Bool) : Option Bool :=
  bif !j1_0 then (some false) else (k0 (v0_0 + 1))
def s_NoLater_l2 (v0_0 : Nat) (e0 : Rec) (k0 : Nat → Option Bool) : List Rec → Bool → Nat → Option Bool
  | [], v2_0, v2_1 => s_NoLater_j1 v0_0 (k0) v2_0
  | e2 :: rs2, v2_0, v2_1 => bif v2_0 then (s_NoLater_l2 v0_0 e0 k0 rs2 true (v2_1 + 1)) else (bif (decide (e2.name = e0.name) && (decide (e2.ty = e0.ty) && (decide (e0.ttl = e0.ttl) && (decide (e2.n = e0.n) && (decide (e2.host = e0.host) && (decide (e2.text = e0.text) && true)))))) then (s_NoLater_l2 v0_0 e0 k0 rs2 (decide (e0.ttl ≤ e2.ttl)) (v2_1 + 1)) else (s_NoLater_l2 v0_0 e0 k0 rs2 false (v2_1 + 1)))
def s_NoLater_l0 (p1 : List Rec) : List Rec → Nat → Option Bool
  | [], v0_0 => some true
  | e0 :: rs0, v0_0 => s_NoLater_l2 v0_0 e0 (s_NoLater_l0 p1 rs0) p1 false 0
def s_NoLater (p0 : List Rec) (p1 : List Rec) : Option Bool :=
  s_NoLater_l0 p1 p0 0
/- laws.sameRecs -/
def w_sameRecs_l0 (p1 : List Rec) : List Rec → Nat → Option Bool
  | [], v0_0 => some true
  | e0 :: rs0, v0_0 => bnd1 (idx p1 (v0_0 : Int)) (fun x3 => bif !(decide (e0.name = x3.name) && (decide (e0.ty = x3.ty) && (decide (e0.ttl = x3.ttl) && (decide (e0.n = x3.n) && (decide (e0.host = x3.host) && (decide (e0.text = x3.text) && true)))))) then (some false) else (w_sameRecs_l0 p1 rs0 (v0_0 + 1)))
def w_sameRecs (p0 : List Rec) (p1 : List Rec) : Option Bool :=
  bif !decide ((p0.length : Int) = (p1.length : Int)) then (some false) else (w_sameRecs_l0 p1 p0 0)
/- impl.Record] -/
def slices_Grow_Record (p1 : Int) : Option (List Rec) :=
  bif decide (p1 < 0) then (none) else (grd (i64 (p1 - 0)) (bif decide (0 < p1 - 0) then (grd (0 < p1 - 0 ∧ (p1 - 0).toNat ≤ 1099511627776) (grd ((0 : Int) ≤ ((0 : Nat) : Int) ∧ ((0 : Nat) : Int) ≤ 0 ∧ 0 ≤ ((List.replicate (p1 - 0).toNat (Rec.mk (⟨#[]⟩ : ByteArray) 0 0 0 (⟨#[]⟩ : ByteArray) (⟨#[]⟩ : ByteArray))).length : Int)) (some (((List.replicate (p1 - 0).toNat (Rec.mk (⟨#[]⟩ : ByteArray) 0 0 0 (⟨#[]⟩ : ByteArray) (⟨#[]⟩ : ByteArray))).drop (0 + ((0 : Nat) : Int).toNat)).take ((0 : Int).toNat - ((0 : Nat) : Int).toNat))))) else (some ([] : List Rec))))
/- impl.Record] -/
def slices_Concat_Record_l2  : List (List Rec) → (List Rec) → Nat → Option (List Rec)
  | [], v2_0, v2_1 => some v2_0
  | e2 :: rs2, v2_0, v2_1 => grd ((v2_0 ++ e2).length ≤ 1099511627776) (slices_Concat_Record_l2 rs2 (v2_0 ++ e2) (v2_1 + 1))
def slices_Concat_Record_j0 (p0 : List (List Rec)) (j0_0 : Int) : Option (List Rec) :=
  bnd1 (slices_Grow_Record j0_0) (fun x1 => slices_Concat_Record_l2 p0 x1 0)
def slices_Concat_Record_l1 (p0 : List (List Rec)) : List (List Rec) → Int → Nat → Option (List Rec)
  | [], v1_0, v1_1 => slices_Concat_Record_j0 p0 v1_0
  | e1 :: rs1, v1_0, v1_1 => grd (i64 (v1_0 + (e1.length : Int))) (bif decide (v1_0 + (e1.length : Int) < 0) then (none) else (slices_Concat_Record_l1 p0 rs1 (v1_0 + (e1.length : Int)) (v1_1 + 1)))
def slices_Concat_Record (p0 : List (List Rec)) : Option (List Rec) :=
  slices_Concat_Record_l1 p0 p0 0 0
/- slices.IndexFunc[[]string,string] -/
def slices_IndexFunc_string_l0 (p1 : ByteArray → Option Bool) : List ByteArray → Nat → Option Int
  | [], v0_0 => some (-1)
  | e0 :: rs0, v0_0 => bnd1 (p1 e0) (fun x2 => bif x2 then (some (v0_0 : Int)) else (slices_IndexFunc_string_l0 p1 rs0 (v0_0 + 1)))
def slices_IndexFunc_string (p0 : List ByteArray) (p1 : ByteArray → Option Bool) : Option Int :=
  slices_IndexFunc_string_l0 p1 p0 0
/- slices.ContainsFunc[[]string,string] -/
def slices_ContainsFunc_string (p0 : List ByteArray) (p1 : ByteArray → Option Bool) : Option Bool :=
  bnd1 (slices_IndexFunc_string p0 p1) (fun x1 => some (decide (0 ≤ x1)))
/- impl.LabelOk -/
def i_LabelOk_j0 (p0 : ByteArray) : Option Bool :=
  bif decide (1 ≤ (p0.size : Int)) then (some (decide ((p0.size : Int) ≤ 12))) else (some false)
def i_LabelOk_j2 (v1_0 : Int) (k1 : Int → Option Bool) (j2_0 : Bool) : Option Bool :=
  bif j2_0 then (some false) else (grd (i64 (v1_0 + 1)) (k1 (v1_0 + 1)))
def i_LabelOk_l1 (p0 : ByteArray) : Nat → Int → Option Bool
  | 0, _ => none
  | f1 + 1, v1_0 => bif decide (v1_0 < (p0.size : Int)) then (bnd1 (sidx p0 v1_0) (fun x2 => bif decide (x2 < 97) then (bif decide (x2 < 48) then (bif !decide (x2 = 45) then (i_LabelOk_j2 v1_0 (i_LabelOk_l1 p0 f1) (!decide (x2 = 95))) else (i_LabelOk_j2 v1_0 (i_LabelOk_l1 p0 f1) false)) else (bif decide (57 < x2) then (bif !decide (x2 = 45) then (i_LabelOk_j2 v1_0 (i_LabelOk_l1 p0 f1) (!decide (x2 = 95))) else (i_LabelOk_j2 v1_0 (i_LabelOk_l1 p0 f1) false)) else (i_LabelOk_j2 v1_0 (i_LabelOk_l1 p0 f1) false))) else (bif decide (122 < x2) then (bif decide (x2 < 48) then (bif !decide (x2 = 45) then (i_LabelOk_j2 v1_0 (i_LabelOk_l1 p0 f1) (!decide (x2 = 95))) else (i_LabelOk_j2 v1_0 (i_LabelOk_l1 p0 f1) false)) else (bif decide (57 < x2) then (bif !decide (x2 = 45) then (i_LabelOk_j2 v1_0 (i_LabelOk_l1 p0 f1) (!decide (x2 = 95))) else (i_LabelOk_j2 v1_0 (i_LabelOk_l1 p0 f1) false)) else (i_LabelOk_j2 v1_0 (i_LabelOk_l1 p0 f1) false))) else (i_LabelOk_j2 v1_0 (i_LabelOk_l1 p0 f1) false)))) else (i_LabelOk_j0 p0)
def i_LabelOk (p0 : ByteArray) : Option Bool :=
  i_LabelOk_l1 p0 fuel0 0
/- impl.NameOk$1 -/
def i_NameOk_1 (p0 : ByteArray) : Option Bool :=
  bnd1 (i_LabelOk p0) (fun x1 => some (!x1))
/- impl.NameOk -/
def i_NameOk (p0 : ByteArray) : Option Bool :=
  bnd1 (i_Labels p0) (fun x1 => bif decide ((p0.size : Int) ≤ 50) then (bif decide ((x1.length : Int) ≤ 6) then (bnd1 (slices_ContainsFunc_string x1 (fun a0 => i_NameOk_1 a0)) (fun x5 => some (!x5))) else (some false)) else (some false))
/- impl.isTtl -/
def i_isTtl (p0 : Int) : Option Bool :=
  bif decide (0 ≤ p0) then (some (decide (p0 ≤ 100000))) else (some false)
/- impl.isFour -/
def i_isFour (p0 : Int) : Option Bool :=
  bif decide (0 ≤ p0) then (some (decide (p0 ≤ 2147483647))) else (some false)
/- impl.isText -/
def i_isText_j0 (p0 : ByteArray) : Option Bool :=
  some (decide ((p0.size : Int) ≤ 12))
def i_isText_j2 (v1_0 : Int) (k1 : Int → Option Bool) (j2_0 : Bool) : Option Bool :=
  bif j2_0 then (some false) else (grd (i64 (v1_0 + 1)) (k1 (v1_0 + 1)))
def i_isText_l1 (p0 : ByteArray) : Nat → Int → Option Bool
  | 0, _ => none
  | f1 + 1, v1_0 => bif decide (v1_0 < (p0.size : Int)) then (bnd1 (sidx p0 v1_0) (fun x2 => bif decide (x2 < 33) then (i_isText_j2 v1_0 (i_isText_l1 p0 f1) true) else (bnd1 (sidx p0 v1_0) (fun x5 => i_isText_j2 v1_0 (i_isText_l1 p0 f1) (decide (126 < x5)))))) else (i_isText_j0 p0)
def i_isText (p0 : ByteArray) : Option Bool :=
  i_isText_l1 p0 fuel0 0
/- impl.RecordOk -/
def i_RecordOk_j1 (p0 : Rec) (j1_0 : Bool) : Option Bool :=
  bif j1_0 then (bif decide (p0.n = 0) then (bnd1 (i_NameOk p0.host) (fun x9 => bif x9 then (some (decide (p0.text = (⟨#[]⟩ : ByteArray)))) else (some false))) else (some false)) else (bif decide (p0.ty = 6) then (bnd1 (i_isTtl p0.n) (fun x13 => bif x13 then (bnd1 (i_NameOk p0.host) (fun x16 => bif x16 then (some (decide (p0.text = (⟨#[]⟩ : ByteArray)))) else (some false))) else (some false))) else (bif decide (p0.ty = 16) then (bif decide (p0.n = 0) then (bif decide (p0.host = (⟨#[]⟩ : ByteArray)) then (bnd1 (i_isText p0.text) (fun x22 => some x22)) else (some false)) else (some false)) else (some false)))
def i_RecordOk_j0 (p0 : Rec) (j0_0 : Bool) : Option Bool :=
  bif j0_0 then (some false) else (bif decide (p0.ty = 1) then (bnd1 (i_isFour p0.n) (fun x3 => bif x3 then (bif decide (p0.host = (⟨#[]⟩ : ByteArray)) then (some (decide (p0.text = (⟨#[]⟩ : ByteArray)))) else (some false)) else (some false))) else (bif decide (p0.ty = 2) then (i_RecordOk_j1 p0 (decide (p0.ty = 2))) else (i_RecordOk_j1 p0 (decide (p0.ty = 5)))))
def i_RecordOk (p0 : Rec) : Option Bool :=
  bnd1 (i_NameOk p0.name) (fun x1 => bif !x1 then (i_RecordOk_j0 p0 true) else (bnd1 (i_isTtl p0.ttl) (fun x4 => i_RecordOk_j0 p0 (!x4))))
/- impl.nameText -/
def i_nameText (p0 : ByteArray) : Option ByteArray :=
  bif decide (p0 = (⟨#[]⟩ : ByteArray)) then (some (⟨#[46]⟩ : ByteArray)) else (some p0)
/- impl.NumText -/
def i_NumText_j0 (kr : Int → Option ByteArray) (p0 : Int) (j0_0 : Bool) : Option ByteArray :=
  bif j0_0 then (bnd1 (kr (IntKind.i64.wrap (-p0))) (fun x2 => grd ((⟨#[45]⟩ : ByteArray).size + x2.size ≤ 9223372036854775807) (some ((⟨#[45]⟩ : ByteArray) ++ x2)))) else (bif decide (p0 < 0) then (bnd1 (kr (IntKind.i64.wrap (Int.tdiv p0 10))) (fun x6 => bnd1 (kr (IntKind.i64.wrap (-(Int.tmod p0 10)))) (fun x8 => grd (x6.size + x8.size ≤ 9223372036854775807) (some (x6 ++ x8))))) else (bif decide (p0 < 10) then (grd (i64 (48 + p0)) (some (Utf8.encode (IntKind.i32.wrap (48 + p0))))) else (bnd1 (kr (IntKind.i64.wrap (Int.tdiv p0 10))) (fun x13 => grd (i64 (48 + (Int.tmod p0 10))) (grd (x13.size + (Utf8.encode (IntKind.i32.wrap (48 + (Int.tmod p0 10)))).size ≤ 9223372036854775807) (some (x13 ++ (Utf8.encode (IntKind.i32.wrap (48 + (Int.tmod p0 10)))))))))))
def i_NumText_r : Nat → Int → Option ByteArray
  | 0, _ => none
  | fr + 1, p0 => bif decide (p0 < 0) then (i_NumText_j0 (i_NumText_r fr) p0 (decide ((-10) < p0))) else (i_NumText_j0 (i_NumText_r fr) p0 false)
def i_NumText (p0 : Int) : Option ByteArray :=
  i_NumText_r fuel0 p0
/- impl.TypeText -/
def i_TypeText (p0 : Int) : Option ByteArray :=
  bif decide (p0 = 1) then (some (⟨#[97, 100, 100, 114]⟩ : ByteArray)) else (bif decide (p0 = 2) then (some (⟨#[115, 101, 114, 118, 101, 114]⟩ : ByteArray)) else (bif decide (p0 = 5) then (some (⟨#[97, 108, 105, 97, 115]⟩ : ByteArray)) else (bif decide (p0 = 6) then (some (⟨#[115, 116, 97, 114, 116]⟩ : ByteArray)) else (bif decide (p0 = 16) then (some (⟨#[116, 101, 120, 116]⟩ : ByteArray)) else (some (⟨#[]⟩ : ByteArray))))))
/- strings.Join -/
def strings_Join (p0 : List ByteArray) (p1 : ByteArray) : Option ByteArray :=
  grd (p0.length ≤ 140737488355328 ∧ (Lib.join (p0.map (fun x => x.data.toList)) p1.data.toList).length ≤ 140737488355328) (some (joinB p0 p1))
/- impl.RecordText -/
def i_RecordText_j0  (j0_0 : List ByteArray) : Option ByteArray :=
  bnd1 (strings_Join j0_0 (⟨#[32]⟩ : ByteArray)) (fun x10 => some x10)
def i_RecordText_j1 (p0 : Rec) (x4 : ByteArray) (x6 : ByteArray) (x8 : ByteArray) (j1_0 : Bool) : Option ByteArray :=
  bif j1_0 then (bnd1 (i_nameText p0.host) (fun x15 => grd (([x4, x6, x8] ++ [x15]).length ≤ 1099511627776) (i_RecordText_j0 ([x4, x6, x8] ++ [x15])))) else (bif decide (p0.ty = 6) then (bnd1 (i_nameText p0.host) (fun x19 => bnd1 (i_NumText p0.n) (fun x21 => grd (([x4, x6, x8] ++ [x19, x21]).length ≤ 1099511627776) (i_RecordText_j0 ([x4, x6, x8] ++ [x19, x21]))))) else (bif decide (p0.ty = 16) then (grd ((⟨#[39]⟩ : ByteArray).size + p0.text.size ≤ 9223372036854775807) (grd (([x4, x6, x8] ++ ([(⟨#[39]⟩ : ByteArray) ++ p0.text])).length ≤ 1099511627776) (i_RecordText_j0 ([x4, x6, x8] ++ ([(⟨#[39]⟩ : ByteArray) ++ p0.text]))))) else (i_RecordText_j0 [x4, x6, x8])))
def i_RecordText (p0 : Rec) : Option ByteArray :=
  bnd1 (i_RecordOk p0) (fun x1 => bif !x1 then (some (⟨#[]⟩ : ByteArray)) else (bnd1 (i_nameText p0.name) (fun x4 => bnd1 (i_NumText p0.ttl) (fun x6 => bnd1 (i_TypeText p0.ty) (fun x8 => bif decide (p0.ty = 1) then (bnd1 (i_NumText p0.n) (fun x11 => grd (([x4, x6, x8] ++ [x11]).length ≤ 1099511627776) (i_RecordText_j0 ([x4, x6, x8] ++ [x11])))) else (bif decide (p0.ty = 2) then (i_RecordText_j1 p0 x4 x6 x8 (decide (p0.ty = 2))) else (i_RecordText_j1 p0 x4 x6 x8 (decide (p0.ty = 5)))))))))
/- impl.FactText -/
def i_FactText_l1  : List Rec → ByteArray → Nat → Option ByteArray
  | [], v1_0, v1_1 => some v1_0
  | e1 :: rs1, v1_0, v1_1 => bnd1 (i_RecordText e1) (fun x5 => grd ((⟨#[59, 32]⟩ : ByteArray).size + x5.size ≤ 9223372036854775807) (grd (v1_0.size + ((⟨#[59, 32]⟩ : ByteArray) ++ x5).size ≤ 9223372036854775807) (i_FactText_l1 rs1 (v1_0 ++ ((⟨#[59, 32]⟩ : ByteArray) ++ x5)) (v1_1 + 1))))
def i_FactText_j0 (p0 : MFact) (j0_0 : ByteArray) : Option ByteArray :=
  bnd1 (slices_Concat_Record [p0.links, p0.l]) (fun x2 => i_FactText_l1 x2 j0_0 0)
def i_FactText (p0 : MFact) : Option ByteArray :=
  bif !p0.fin then (some (⟨#[114, 111, 117, 110, 100]⟩ : ByteArray)) else (bif decide (p0.code = 3) then (i_FactText_j0 p0 (⟨#[110, 111, 110, 97, 109, 101]⟩ : ByteArray)) else (bif decide ((p0.l.length : Int) = 0) then (i_FactText_j0 p0 (⟨#[110, 111, 100, 97, 116, 97]⟩ : ByteArray)) else (i_FactText_j0 p0 (⟨#[115, 101, 116]⟩ : ByteArray))))
/- spec.l1In -/
def s_l1In (p0 : Int) (p1 : Int) (p2 : Int) : Option Bool :=
  bif decide (p1 ≤ p0) then (some (decide (p0 ≤ p2))) else (some false)
/- spec.l2Byte -/
def s_l2Byte (p0 : Int) : Option Bool :=
  bnd1 (s_l1In (IntKind.i64.wrap p0) 97 122) (fun x1 => bif x1 then (some true) else (bnd1 (s_l1In (IntKind.i64.wrap p0) 48 57) (fun x4 => bif x4 then (some true) else (bif decide (p0 = 45) then (some true) else (some (decide (p0 = 95)))))))
/- spec.LabelOk -/
def s_LabelOk_j0 (p0 : ByteArray) : Option Bool :=
  bnd1 (s_l1In (p0.size : Int) 1 12) (fun x1 => some x1)
def s_LabelOk_l1 (p0 : ByteArray) : Nat → Int → Option Bool
  | 0, _ => none
  | f1 + 1, v1_0 => bif decide (v1_0 < (p0.size : Int)) then (bnd1 (sidx p0 v1_0) (fun x2 => bnd1 (s_l2Byte x2) (fun x4 => bif !x4 then (some false) else (grd (i64 (v1_0 + 1)) (s_LabelOk_l1 p0 f1 (v1_0 + 1)))))) else (s_LabelOk_j0 p0)
def s_LabelOk (p0 : ByteArray) : Option Bool :=
  s_LabelOk_l1 p0 fuel0 0
/- spec.NameOk -/
def s_NameOk_j0 (p0 : ByteArray) (x1 : List ByteArray) : Option Bool :=
  bif decide ((p0.size : Int) ≤ 50) then (some (decide ((x1.length : Int) ≤ 6))) else (some false)
def s_NameOk_l1 (p0 : ByteArray) (x1 : List ByteArray) : List ByteArray → Nat → Option Bool
  | [], v1_0 => s_NameOk_j0 p0 x1
  | e1 :: rs1, v1_0 => bnd1 (s_LabelOk e1) (fun x4 => bif !x4 then (some false) else (s_NameOk_l1 p0 x1 rs1 (v1_0 + 1)))
def s_NameOk (p0 : ByteArray) : Option Bool :=
  bnd1 (s_Labels p0) (fun x1 => s_NameOk_l1 p0 x1 x1 0)
/- spec.l5Text -/
def s_l5Text_j0 (p0 : ByteArray) : Option Bool :=
  some (decide ((p0.size : Int) ≤ 12))
def s_l5Text_l1 (p0 : ByteArray) : Nat → Int → Option Bool
  | 0, _ => none
  | f1 + 1, v1_0 => bif decide (v1_0 < (p0.size : Int)) then (bnd1 (sidx p0 v1_0) (fun x2 => bnd1 (s_l1In (IntKind.i64.wrap x2) 33 126) (fun x4 => bif !x4 then (some false) else (grd (i64 (v1_0 + 1)) (s_l5Text_l1 p0 f1 (v1_0 + 1)))))) else (s_l5Text_j0 p0)
def s_l5Text (p0 : ByteArray) : Option Bool :=
  s_l5Text_l1 p0 fuel0 0
/- spec.RecordOk -/
def s_RecordOk_j1 (p0 : Rec) (j1_0 : Bool) : Option Bool :=
  bif j1_0 then (bif decide (p0.n = 0) then (bnd1 (s_NameOk p0.host) (fun x9 => bif x9 then (some (decide (p0.text = (⟨#[]⟩ : ByteArray)))) else (some false))) else (some false)) else (bif decide (p0.ty = 6) then (bnd1 (s_l1In p0.n 0 100000) (fun x13 => bif x13 then (bnd1 (s_NameOk p0.host) (fun x16 => bif x16 then (some (decide (p0.text = (⟨#[]⟩ : ByteArray)))) else (some false))) else (some false))) else (bif decide (p0.ty = 16) then (bif decide (p0.n = 0) then (bif decide (p0.host = (⟨#[]⟩ : ByteArray)) then (bnd1 (s_l5Text p0.text) (fun x22 => some x22)) else (some false)) else (some false)) else (some false)))
def s_RecordOk_j0 (p0 : Rec) (j0_0 : Bool) : Option Bool :=
  bif j0_0 then (some false) else (bif decide (p0.ty = 1) then (bnd1 (s_l1In p0.n 0 2147483647) (fun x3 => bif x3 then (bif decide (p0.host = (⟨#[]⟩ : ByteArray)) then (some (decide (p0.text = (⟨#[]⟩ : ByteArray)))) else (some false)) else (some false))) else (bif decide (p0.ty = 2) then (s_RecordOk_j1 p0 (decide (p0.ty = 2))) else (s_RecordOk_j1 p0 (decide (p0.ty = 5)))))
def s_RecordOk (p0 : Rec) : Option Bool :=
  bnd1 (s_NameOk p0.name) (fun x1 => bif !x1 then (s_RecordOk_j0 p0 true) else (bnd1 (s_l1In p0.ttl 0 100000) (fun x4 => s_RecordOk_j0 p0 (!x4))))
/- spec.l5Dot -/
def s_l5Dot (p0 : ByteArray) : Option ByteArray :=
  bif decide (p0 = (⟨#[]⟩ : ByteArray)) then (some (⟨#[46]⟩ : ByteArray)) else (some p0)
/- spec.NumText -/
def s_NumText_j0 (p0 : Int) (j0_0 : ByteArray) : Option ByteArray :=
  bif decide (p0 < 0) then (grd ((⟨#[45]⟩ : ByteArray).size + j0_0.size ≤ 9223372036854775807) (some ((⟨#[45]⟩ : ByteArray) ++ j0_0))) else (some j0_0)
def s_NumText_j2 (v1_0 : ByteArray) (v1_1 : Int) (k1 : ByteArray → Int → Option ByteArray) (j2_0 : Int) : Option ByteArray :=
  grd (i64 (48 + j2_0)) (grd ((strOfNums [IntKind.u8.wrap (48 + j2_0)]).size + v1_0.size ≤ 9223372036854775807) (k1 ((strOfNums [IntKind.u8.wrap (48 + j2_0)]) ++ v1_0) (IntKind.i64.wrap (Int.tdiv v1_1 10))))
def s_NumText_l1 (p0 : Int) : Nat → ByteArray → Int → Option ByteArray
  | 0, _, _ => none
  | f1 + 1, v1_0, v1_1 => bif !decide (v1_1 = 0) then (bif decide (Int.tmod v1_1 10 < 0) then (s_NumText_j2 v1_0 v1_1 (s_NumText_l1 p0 f1) (IntKind.i64.wrap (-(Int.tmod v1_1 10)))) else (s_NumText_j2 v1_0 v1_1 (s_NumText_l1 p0 f1) (Int.tmod v1_1 10))) else (s_NumText_j0 p0 v1_0)
def s_NumText (p0 : Int) : Option ByteArray :=
  bif decide (p0 = 0) then (some (⟨#[48]⟩ : ByteArray)) else (s_NumText_l1 p0 fuel0 (⟨#[]⟩ : ByteArray) p0)
/- spec.TypeText -/
def s_TypeText (p0 : Int) : Option ByteArray :=
  bif decide (p0 = 1) then (some (⟨#[97, 100, 100, 114]⟩ : ByteArray)) else (bif decide (p0 = 2) then (some (⟨#[115, 101, 114, 118, 101, 114]⟩ : ByteArray)) else (bif decide (p0 = 5) then (some (⟨#[97, 108, 105, 97, 115]⟩ : ByteArray)) else (bif decide (p0 = 6) then (some (⟨#[115, 116, 97, 114, 116]⟩ : ByteArray)) else (bif decide (p0 = 16) then (some (⟨#[116, 101, 120, 116]⟩ : ByteArray)) else (some (⟨#[]⟩ : ByteArray))))))
/- spec.RecordText -/
def s_RecordText (p0 : Rec) : Option ByteArray :=
  bnd1 (s_RecordOk p0) (fun x1 => bif !x1 then (some (⟨#[]⟩ : ByteArray)) else (bnd1 (s_l5Dot p0.name) (fun x4 => grd (x4.size + (⟨#[32]⟩ : ByteArray).size ≤ 9223372036854775807) (bnd1 (s_NumText p0.ttl) (fun x7 => grd ((x4 ++ (⟨#[32]⟩ : ByteArray)).size + x7.size ≤ 9223372036854775807) (grd (((x4 ++ (⟨#[32]⟩ : ByteArray)) ++ x7).size + (⟨#[32]⟩ : ByteArray).size ≤ 9223372036854775807) (bnd1 (s_TypeText p0.ty) (fun x11 => grd ((((x4 ++ (⟨#[32]⟩ : ByteArray)) ++ x7) ++ (⟨#[32]⟩ : ByteArray)).size + x11.size ≤ 9223372036854775807) (grd (((((x4 ++ (⟨#[32]⟩ : ByteArray)) ++ x7) ++ (⟨#[32]⟩ : ByteArray)) ++ x11).size + (⟨#[32]⟩ : ByteArray).size ≤ 9223372036854775807) (bif decide (p0.ty = 1) then (bnd1 (s_NumText p0.n) (fun x16 => grd ((((((x4 ++ (⟨#[32]⟩ : ByteArray)) ++ x7) ++ (⟨#[32]⟩ : ByteArray)) ++ x11) ++ (⟨#[32]⟩ : ByteArray)).size + x16.size ≤ 9223372036854775807) (some ((((((x4 ++ (⟨#[32]⟩ : ByteArray)) ++ x7) ++ (⟨#[32]⟩ : ByteArray)) ++ x11) ++ (⟨#[32]⟩ : ByteArray)) ++ x16)))) else (bif decide (p0.ty = 6) then (bnd1 (s_l5Dot p0.host) (fun x20 => grd ((((((x4 ++ (⟨#[32]⟩ : ByteArray)) ++ x7) ++ (⟨#[32]⟩ : ByteArray)) ++ x11) ++ (⟨#[32]⟩ : ByteArray)).size + x20.size ≤ 9223372036854775807) (grd (((((((x4 ++ (⟨#[32]⟩ : ByteArray)) ++ x7) ++ (⟨#[32]⟩ : ByteArray)) ++ x11) ++ (⟨#[32]⟩ : ByteArray)) ++ x20).size + (⟨#[32]⟩ : ByteArray).size ≤ 9223372036854775807) (bnd1 (s_NumText p0.n) (fun x24 => grd ((((((((x4 ++ (⟨#[32]⟩ : ByteArray)) ++ x7) ++ (⟨#[32]⟩ : ByteArray)) ++ x11) ++ (⟨#[32]⟩ : ByteArray)) ++ x20) ++ (⟨#[32]⟩ : ByteArray)).size + x24.size ≤ 9223372036854775807) (some ((((((((x4 ++ (⟨#[32]⟩ : ByteArray)) ++ x7) ++ (⟨#[32]⟩ : ByteArray)) ++ x11) ++ (⟨#[32]⟩ : ByteArray)) ++ x20) ++ (⟨#[32]⟩ : ByteArray)) ++ x24))))))) else (bif decide (p0.ty = 16) then (grd ((((((x4 ++ (⟨#[32]⟩ : ByteArray)) ++ x7) ++ (⟨#[32]⟩ : ByteArray)) ++ x11) ++ (⟨#[32]⟩ : ByteArray)).size + (⟨#[39]⟩ : ByteArray).size ≤ 9223372036854775807) (grd (((((((x4 ++ (⟨#[32]⟩ : ByteArray)) ++ x7) ++ (⟨#[32]⟩ : ByteArray)) ++ x11) ++ (⟨#[32]⟩ : ByteArray)) ++ (⟨#[39]⟩ : ByteArray)).size + p0.text.size ≤ 9223372036854775807) (some (((((((x4 ++ (⟨#[32]⟩ : ByteArray)) ++ x7) ++ (⟨#[32]⟩ : ByteArray)) ++ x11) ++ (⟨#[32]⟩ : ByteArray)) ++ (⟨#[39]⟩ : ByteArray)) ++ p0.text)))) else (bnd1 (s_l5Dot p0.host) (fun x30 => grd ((((((x4 ++ (⟨#[32]⟩ : ByteArray)) ++ x7) ++ (⟨#[32]⟩ : ByteArray)) ++ x11) ++ (⟨#[32]⟩ : ByteArray)).size + x30.size ≤ 9223372036854775807) (some ((((((x4 ++ (⟨#[32]⟩ : ByteArray)) ++ x7) ++ (⟨#[32]⟩ : ByteArray)) ++ x11) ++ (⟨#[32]⟩ : ByteArray)) ++ x30))))))))))))))))
/- spec.l7Texts -/
def s_l7Texts_l0  : List Rec → ByteArray → Nat → Option ByteArray
  | [], v0_0, v0_1 => some v0_0
  | e0 :: rs0, v0_0, v0_1 => grd (v0_0.size + (⟨#[59, 32]⟩ : ByteArray).size ≤ 9223372036854775807) (bnd1 (s_RecordText e0) (fun x3 => grd ((v0_0 ++ (⟨#[59, 32]⟩ : ByteArray)).size + x3.size ≤ 9223372036854775807) (s_l7Texts_l0 rs0 ((v0_0 ++ (⟨#[59, 32]⟩ : ByteArray)) ++ x3) (v0_1 + 1))))
def s_l7Texts (p0 : List Rec) : Option ByteArray :=
  s_l7Texts_l0 p0 (⟨#[]⟩ : ByteArray) 0
/- spec.FactText -/
def s_FactText_j0 (p0 : MFact) (j0_0 : ByteArray) : Option ByteArray :=
  bnd1 (s_l7Texts p0.links) (fun x2 => grd (j0_0.size + x2.size ≤ 9223372036854775807) (bnd1 (s_l7Texts p0.l) (fun x5 => grd ((j0_0 ++ x2).size + x5.size ≤ 9223372036854775807) (some ((j0_0 ++ x2) ++ x5)))))
def s_FactText (p0 : MFact) : Option ByteArray :=
  bif !p0.fin then (some (⟨#[114, 111, 117, 110, 100]⟩ : ByteArray)) else (bif decide (p0.code = 3) then (s_FactText_j0 p0 (⟨#[110, 111, 110, 97, 109, 101]⟩ : ByteArray)) else (bif decide ((p0.l.length : Int) = 0) then (s_FactText_j0 p0 (⟨#[110, 111, 100, 97, 116, 97]⟩ : ByteArray)) else (s_FactText_j0 p0 (⟨#[115, 101, 116]⟩ : ByteArray))))
/- laws.FnFactsSame -/
def w_FnFactsSame_j0 (x4 : MFact) (x5 : MFact) (x7 : List Rec) (x8 : List Rec) (j0_0 : Bool) : Option Bool :=
  bif j0_0 then (some false) else (bnd1 (i_SameFact x4 x4) (fun x20 => bif x20 then (bnd1 (i_SameFact x4 x5) (fun x23 => bnd1 (i_SameFact x5 x4) (fun x25 => bif (x23 == x25) then (bnd1 (i_NoLater x7 x7) (fun x28 => bif x28 then (bnd1 (i_WithTtl x8 0) (fun x31 => bnd1 (i_WithTtl x8 1) (fun x33 => bnd1 (i_NoLater x31 x33) (fun x35 => some x35)))) else (some false))) else (some false)))) else (some false)))
def w_FnFactsSame (p0 : List Int) : Option Bool :=
  bnd1 (w_big p0) (fun x1 => bif x1 then (some true) else (bnd2 (s_DrawSameFact p0) (fun x4 x5 => bnd2 (s_DrawNoLater p0) (fun x7 x8 => bnd2 (s_DrawLinkAt p0) (fun x10 x11 => bnd2 (i_LinkAt x10 x11) (fun x13 x14 => bnd2 (s_LinkAt x10 x11) (fun x16 x17 => bnd1 (i_SameFact x4 x5) (fun x19 => bnd1 (s_SameFact x4 x5) (fun x21 => bif !(x19 == x21) then (w_FnFactsSame_j0 x4 x5 x7 x8 true) else (bnd1 (i_NoLater x7 x8) (fun x24 => bnd1 (s_NoLater x7 x8) (fun x26 => bif !(x24 == x26) then (w_FnFactsSame_j0 x4 x5 x7 x8 true) else (bif !decide (x13 = x16) then (w_FnFactsSame_j0 x4 x5 x7 x8 true) else (bnd1 (w_sameRecs x14 x17) (fun x30 => bif !x30 then (w_FnFactsSame_j0 x4 x5 x7 x8 true) else (bnd1 (i_FactText x5) (fun x33 => bnd1 (s_FactText x5) (fun x35 => w_FnFactsSame_j0 x4 x5 x7 x8 (!decide (x33 = x35))))))))))))))))))))
end Go.Abs.M
