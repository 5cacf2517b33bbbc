/- The functions that the law of FnZonesBent reaches, as pure functions that may fail. -/
import Derived.Test.YtbkmnbpgpklojaaDoorAbsA37
namespace Go.Abs.M
open Go Go.Abs
structure Cur where
  b : List Int
  i : Int
  h : Int
  deriving DecidableEq
def curV (r : Cur) : List V := [.lst 1 (List.map byteV r.b), .sc (.int .i64 r.i), .sc (.int .i64 r.h)]
theorem curV_free (r : Cur) : (curV r).all (·.free) = true := rfl
theorem curV_len (r : Cur) : (curV r).length = 3 := rfl
def Cur.ok (r : Cur) : Prop := (r.b.length ≤ 9223372036854775807 ∧ ∀ q, q ∈ r.b → True) ∧ i64 r.i ∧ i64 r.h
structure Rec where
  name : ByteArray
  ty : Int
  ttl : Int
  n : Int
  host : ByteArray
  text : ByteArray
  deriving DecidableEq
def recV (r : Rec) : List V := [.sc (.string r.name), .sc (.int .i64 r.ty), .sc (.int .i64 r.ttl), .sc (.int .i64 r.n), .sc (.string r.host), .sc (.string r.text)]
theorem recV_free (r : Rec) : (recV r).all (·.free) = true := rfl
theorem recV_len (r : Rec) : (recV r).length = 6 := rfl
def Rec.ok (r : Rec) : Prop := r.name.size ≤ 9223372036854775807 ∧ i64 r.ty ∧ i64 r.ttl ∧ i64 r.n ∧ r.host.size ≤ 9223372036854775807 ∧ r.text.size ≤ 9223372036854775807
theorem recV_sc (r : Rec) : (recV r).all isScN = true := rfl
structure MZone where
  apex : ByteArray
  l : List Rec
  deriving DecidableEq
def mZoneV (r : MZone) : List V := [.sc (.string r.apex), .lst 6 (List.map recV r.l)]
theorem mZoneV_free (r : MZone) : (mZoneV r).all (·.free) = true := rfl
theorem mZoneV_len (r : MZone) : (mZoneV r).length = 2 := rfl
def MZone.ok (r : MZone) : Prop := r.apex.size ≤ 9223372036854775807 ∧ (r.l.length ≤ 9223372036854775807 ∧ ∀ q, q ∈ r.l → q.ok)
/- laws.big -/
def w_big (p0 : List Int) : Option Bool :=
  some (decide (1048576 < (p0.length : Int)))
/- spec.l1New -/
def s_l1New_j0 (p0 : List Int) (j0_0 : Int) : Option Cur :=
  some (Cur.mk p0 0 j0_0)
def s_l1New_j2 (p0 : List Int) (v1_0 : Int) (v1_1 : Int) (k1 : Int → Int → Option Cur) (j2_0 : Bool) : Option Cur :=
  bif j2_0 then (bnd1 (idx p0 v1_1) (fun x2 => k1 (iand .i64 (IntKind.i64.wrap ((IntKind.i64.wrap ((IntKind.i64.wrap (v1_0 * 137)) + (IntKind.i64.wrap x2))) + 11)) 1073741823) (IntKind.i64.wrap (v1_1 + 1)))) else (s_l1New_j0 p0 v1_0)
def s_l1New_l1 (p0 : List Int) : Nat → Int → Int → Option Cur
  | 0, _, _ => none
  | f1 + 1, v1_0, v1_1 => bif decide (v1_1 < (p0.length : Int)) then (s_l1New_j2 p0 v1_0 v1_1 (s_l1New_l1 p0 f1) (decide (v1_1 < 4000))) else (s_l1New_j2 p0 v1_0 v1_1 (s_l1New_l1 p0 f1) false)
def s_l1New (p0 : List Int) : Option Cur :=
  s_l1New_l1 p0 fuel0 (IntKind.i64.wrap (160909 + (p0.length : Int))) 0
/- spec.l1Byte -/
def s_l1Byte (p0 : Cur) : Option (Int × Cur) :=
  bif decide (p0.i < (p0.b.length : Int)) then (bnd1 (idx p0.b p0.i) (fun x2 => some ((iand .i64 (IntKind.i64.wrap ((iand .i64 (ixor .i64 (ishr .i64 (IntKind.i64.wrap ((IntKind.i64.wrap (p0.h * 6364136223846793005)) + 1442695040888963407)) 33) (ishr .i64 (IntKind.i64.wrap ((IntKind.i64.wrap (p0.h * 6364136223846793005)) + 1442695040888963407)) 47)) 255) + (IntKind.i64.wrap x2))) 255), Cur.mk p0.b (IntKind.i64.wrap (p0.i + 1)) (IntKind.i64.wrap ((IntKind.i64.wrap (p0.h * 6364136223846793005)) + 1442695040888963407))))) else (some ((iand .i64 (ixor .i64 (ishr .i64 (IntKind.i64.wrap ((IntKind.i64.wrap (p0.h * 6364136223846793005)) + 1442695040888963407)) 33) (ishr .i64 (IntKind.i64.wrap ((IntKind.i64.wrap (p0.h * 6364136223846793005)) + 1442695040888963407)) 47)) 255), Cur.mk p0.b p0.i (IntKind.i64.wrap ((IntKind.i64.wrap (p0.h * 6364136223846793005)) + 1442695040888963407))))
/- spec.l1Below -/
def s_l1Below (p0 : Cur) (p1 : Int) : Option (Int × Cur) :=
  bif decide (p1 ≤ 0) then (some (0, p0)) else (bif decide (p1 ≤ 256) then (bnd2 (s_l1Byte p0) (fun x3 x4 => grd (p1 ≠ 0) (some ((Int.tmod x3 p1), x4)))) else (bnd2 (s_l1Byte p0) (fun x7 x8 => bnd2 (s_l1Byte x8) (fun x10 x11 => bnd2 (s_l1Byte x11) (fun x13 x14 => grd (i64 (x7 * 65536)) (grd (i64 (x10 * 256)) (grd (i64 ((x7 * 65536) + (x10 * 256))) (grd (i64 (((x7 * 65536) + (x10 * 256)) + x13)) (grd (p1 ≠ 0) (some ((Int.tmod (((x7 * 65536) + (x10 * 256)) + x13) p1), x14)))))))))))
/- spec.l1Int -/
def s_l1Int (p0 : Cur) (p1 : List Int) : Option (Int × Cur) :=
  bnd2 (s_l1Below p0 (p1.length : Int)) (fun x1 x2 => bnd1 (idx p1 x1) (fun x4 => some (x4, x2)))
/- spec.l10Start -/
def s_l10Start (p0 : ByteArray) (p1 : Int) : Option Rec :=
  some (Rec.mk p0 6 p1 (IntKind.i64.wrap (Int.tdiv p1 2)) (⟨#[]⟩ : ByteArray) (⟨#[]⟩ : ByteArray))
/- spec.l10Server -/
def s_l10Server (p0 : ByteArray) (p1 : ByteArray) (p2 : Int) : Option Rec :=
  some (Rec.mk p0 2 p2 0 p1 (⟨#[]⟩ : ByteArray))
/- spec.l10Addr -/
def s_l10Addr (p0 : ByteArray) (p1 : Int) (p2 : Int) : Option Rec :=
  some (Rec.mk p0 1 p2 p1 (⟨#[]⟩ : ByteArray) (⟨#[]⟩ : ByteArray))
/- spec.l1Once -/
def s_l1Once (p0 : Cur) (p1 : Int) : Option (Bool × Cur) :=
  bnd2 (s_l1Below p0 p1) (fun x1 x2 => some ((decide (x1 = 0)), x2))
/- spec.Labels -/
def s_Labels_j2 (p0 : ByteArray) (v0_0 : List ByteArray) (v0_1 : Int) (v0_2 : Int) (k0 : (List ByteArray) → Int → Int → Option (List ByteArray)) (j2_0 : Bool) : Option (List ByteArray) :=
  bif j2_0 then (grd (0 ≤ v0_1 ∧ v0_1 ≤ v0_2 ∧ v0_2 ≤ (p0.size : Int)) (grd ((v0_0 ++ [p0.extract v0_1.toNat v0_2.toNat]).length ≤ 1099511627776) (grd (i64 (v0_2 + 1)) (grd (i64 (v0_2 + 1)) (k0 (v0_0 ++ [p0.extract v0_1.toNat v0_2.toNat]) (v0_2 + 1) (v0_2 + 1)))))) else (grd (i64 (v0_2 + 1)) (k0 v0_0 v0_1 (v0_2 + 1)))
def s_Labels_j1 (p0 : ByteArray) (v0_0 : List ByteArray) (v0_1 : Int) (v0_2 : Int) (k0 : (List ByteArray) → Int → Int → Option (List ByteArray)) (j1_0 : Bool) : Option (List ByteArray) :=
  bif j1_0 then (bif decide (v0_2 = (p0.size : Int)) then (s_Labels_j2 p0 v0_0 v0_1 v0_2 (k0) true) else (bnd1 (sidx p0 v0_2) (fun x3 => s_Labels_j2 p0 v0_0 v0_1 v0_2 (k0) (decide (x3 = 46))))) else (some v0_0)
def s_Labels_l0 (p0 : ByteArray) : Nat → (List ByteArray) → Int → Int → Option (List ByteArray)
  | 0, _, _, _ => none
  | f0 + 1, v0_0, v0_1, v0_2 => bif decide (v0_2 ≤ (p0.size : Int)) then (s_Labels_j1 p0 v0_0 v0_1 v0_2 (s_Labels_l0 p0 f0) (!decide (p0 = (⟨#[]⟩ : ByteArray)))) else (s_Labels_j1 p0 v0_0 v0_1 v0_2 (s_Labels_l0 p0 f0) false)
def s_Labels (p0 : ByteArray) : Option (List ByteArray) :=
  s_Labels_l0 p0 fuel0 ([] : List ByteArray) 0 0
/- spec.LessName -/
def s_LessName_j0 (x1 : List ByteArray) (x3 : List ByteArray) : Option Bool :=
  some (decide ((x1.length : Int) < (x3.length : Int)))
def s_LessName_j2 (x1 : List ByteArray) (x3 : List ByteArray) (v1_0 : Int) (k1 : Int → Option Bool) (j2_0 : Bool) : Option Bool :=
  bif j2_0 then (grd (i64 ((x1.length : Int) - v1_0)) (bnd1 (idx x1 ((x1.length : Int) - v1_0)) (fun x7 => grd (i64 ((x3.length : Int) - v1_0)) (bnd1 (idx x3 ((x3.length : Int) - v1_0)) (fun x10 => bif !decide (x7 = x10) then (some (Op.bytesLess x7.toList x10.toList)) else (grd (i64 (v1_0 + 1)) (k1 (v1_0 + 1)))))))) else (s_LessName_j0 x1 x3)
def s_LessName_l1 (x1 : List ByteArray) (x3 : List ByteArray) : Nat → Int → Option Bool
  | 0, _ => none
  | f1 + 1, v1_0 => bif decide (v1_0 ≤ (x1.length : Int)) then (s_LessName_j2 x1 x3 v1_0 (s_LessName_l1 x1 x3 f1) (decide (v1_0 ≤ (x3.length : Int)))) else (s_LessName_j2 x1 x3 v1_0 (s_LessName_l1 x1 x3 f1) false)
def s_LessName (p0 : ByteArray) (p1 : ByteArray) : Option Bool :=
  bnd1 (s_Labels p0) (fun x1 => bnd1 (s_Labels p1) (fun x3 => s_LessName_l1 x1 x3 fuel0 1))
/- spec.LessRecord -/
def s_LessRecord (p0 : Rec) (p1 : Rec) : Option Bool :=
  bif !decide (p0.name = p1.name) then (bnd1 (s_LessName p0.name p1.name) (fun x2 => some x2)) else (bif !decide (p0.ty = p1.ty) then (some (decide (p0.ty < p1.ty))) else (bif !decide (p0.n = p1.n) then (some (decide (p0.n < p1.n))) else (bif !decide (p0.host = p1.host) then (bnd1 (s_LessName p0.host p1.host) (fun x7 => some x7)) else (bif !decide (p0.text = p1.text) then (some (Op.bytesLess p0.text.toList p1.text.toList)) else (some (decide (p0.ttl < p1.ttl)))))))
/- spec.SortRecords -/
def s_SortRecords_j1 (v0_0 : List Rec) (v0_1 : Nat) (e0 : Rec) (k0 : (List Rec) → Nat → Option (List Rec)) (j1_0 : Int) : Option (List Rec) :=
  grd ((0 : Int) ≤ ((0 : Nat) : Int) ∧ ((0 : Nat) : Int) ≤ j1_0 ∧ j1_0 ≤ (v0_0.length : Int)) (grd ((([] : List Rec) ++ ((v0_0.drop (0 + ((0 : Nat) : Int).toNat)).take (j1_0.toNat - ((0 : Nat) : Int).toNat))).length ≤ 1099511627776) (grd (((([] : List Rec) ++ ((v0_0.drop (0 + ((0 : Nat) : Int).toNat)).take (j1_0.toNat - ((0 : Nat) : Int).toNat))) ++ [e0]).length ≤ 1099511627776) (grd ((0 : Int) ≤ j1_0 ∧ j1_0 ≤ (v0_0.length : Int) ∧ (v0_0.length : Int) ≤ (v0_0.length : Int)) (grd ((((([] : List Rec) ++ ((v0_0.drop (0 + ((0 : Nat) : Int).toNat)).take (j1_0.toNat - ((0 : Nat) : Int).toNat))) ++ [e0]) ++ ((v0_0.drop (0 + j1_0.toNat)).take ((v0_0.length : Int).toNat - j1_0.toNat))).length ≤ 1099511627776) (k0 (((([] : List Rec) ++ ((v0_0.drop (0 + ((0 : Nat) : Int).toNat)).take (j1_0.toNat - ((0 : Nat) : Int).toNat))) ++ [e0]) ++ ((v0_0.drop (0 + j1_0.toNat)).take ((v0_0.length : Int).toNat - j1_0.toNat))) (v0_1 + 1))))))
def s_SortRecords_j3 (v0_0 : List Rec) (v0_1 : Nat) (e0 : Rec) (v2_0 : Int) (k0 : (List Rec) → Nat → Option (List Rec)) (k2 : Int → Option (List Rec)) (j3_0 : Bool) : Option (List Rec) :=
  bif j3_0 then (grd (i64 (v2_0 - 1)) (k2 (v2_0 - 1))) else (s_SortRecords_j1 v0_0 v0_1 e0 (k0) v2_0)
def s_SortRecords_l2 (v0_0 : List Rec) (v0_1 : Nat) (e0 : Rec) (k0 : (List Rec) → Nat → Option (List Rec)) : Nat → Int → Option (List Rec)
  | 0, _ => none
  | f2 + 1, v2_0 => bif decide (0 < v2_0) then (grd (i64 (v2_0 - 1)) (bnd1 (idx v0_0 (v2_0 - 1)) (fun x4 => bnd1 (s_LessRecord e0 x4) (fun x6 => s_SortRecords_j3 v0_0 v0_1 e0 v2_0 (k0) (s_SortRecords_l2 v0_0 v0_1 e0 k0 f2) x6)))) else (s_SortRecords_j3 v0_0 v0_1 e0 v2_0 (k0) (s_SortRecords_l2 v0_0 v0_1 e0 k0 f2) false)
def s_SortRecords_l0  : List Rec → (List Rec) → Nat → Option (List Rec)
  | [], v0_0, v0_1 => some v0_0
  | e0 :: rs0, v0_0, v0_1 => s_SortRecords_l2 v0_0 v0_1 e0 (s_SortRecords_l0 rs0) fuel0 (v0_0.length : Int)
def s_SortRecords (p0 : List Rec) : Option (List Rec) :=
  s_SortRecords_l0 p0 ([] : List Rec) 0
/- spec.l10Uniq -/
def s_l10Uniq_j1 (v0_0 : List Rec) (v0_1 : Nat) (e0 : Rec) (k0 : (List Rec) → Nat → Option (List Rec)) (j1_0 : Int) : Option (List Rec) :=
  grd ((v0_0 ++ [Rec.mk e0.name e0.ty j1_0 e0.n e0.host e0.text]).length ≤ 1099511627776) (k0 (v0_0 ++ [Rec.mk e0.name e0.ty j1_0 e0.n e0.host e0.text]) (v0_1 + 1))
def s_l10Uniq_j2 (v0_0 : List Rec) (v0_1 : Nat) (e0 : Rec) (k0 : (List Rec) → Nat → Option (List Rec)) (j2_0 : Bool) : Option (List Rec) :=
  bif j2_0 then (grd (i64 ((v0_0.length : Int) - 1)) (bnd1 (idx v0_0 ((v0_0.length : Int) - 1)) (fun x6 => grd (i64 ((v0_0.length : Int) - 1)) (bif (decide (x6.name = e0.name) && (decide (x6.ty = e0.ty) && (decide (x6.ttl = x6.ttl) && (decide (x6.n = e0.n) && (decide (x6.host = e0.host) && (decide (x6.text = e0.text) && true)))))) then (k0 v0_0 (v0_1 + 1)) else (s_l10Uniq_j1 v0_0 v0_1 e0 (k0) x6.ttl))))) else (s_l10Uniq_j1 v0_0 v0_1 e0 (k0) e0.ttl)
def s_l10Uniq_l0  : List Rec → (List Rec) → Nat → Option (List Rec)
  | [], v0_0, v0_1 => some v0_0
  | e0 :: rs0, v0_0, v0_1 => bif decide (0 < (v0_0.length : Int)) then (grd (i64 ((v0_0.length : Int) - 1)) (bnd1 (idx v0_0 ((v0_0.length : Int) - 1)) (fun x6 => bif decide (x6.name = e0.name) then (grd (i64 ((v0_0.length : Int) - 1)) (s_l10Uniq_j2 v0_0 v0_1 e0 (s_l10Uniq_l0 rs0) (decide (x6.ty = e0.ty)))) else (s_l10Uniq_j2 v0_0 v0_1 e0 (s_l10Uniq_l0 rs0) false)))) else (s_l10Uniq_j2 v0_0 v0_1 e0 (s_l10Uniq_l0 rs0) false)
def s_l10Uniq (p0 : List Rec) : Option (List Rec) :=
  bnd1 (s_SortRecords p0) (fun x1 => s_l10Uniq_l0 x1 ([] : List Rec) 0)
/- spec.l10Zone -/
def s_l10Zone_j2  (j2_0 : List Int) (j2_1 : Int) (j2_2 : Int) (j2_3 : List Rec) : Option (MZone × Cur) :=
  bnd1 (s_l10Uniq j2_3) (fun x10 => some ((MZone.mk (⟨#[99, 111, 109]⟩ : ByteArray) x10), Cur.mk j2_0 j2_1 j2_2))
def s_l10Zone_j1  (j1_0 : List Int) (j1_1 : Int) (j1_2 : Int) (j1_3 : List Rec) : Option (MZone × Cur) :=
  bnd2 (s_l1Once (Cur.mk j1_0 j1_1 j1_2) 2) (fun x10 x11 => bif x10 then (bnd1 (s_l10Addr (⟨#[98, 46, 97, 46, 99, 111, 109]⟩ : ByteArray) 8 9) (fun x14 => grd ((j1_3 ++ ([Rec.mk (⟨#[116, 46, 99, 111, 109]⟩ : ByteArray) 16 7 0 (⟨#[]⟩ : ByteArray) (⟨#[104, 105]⟩ : ByteArray), x14])).length ≤ 1099511627776) (s_l10Zone_j2 x11.b x11.i x11.h (j1_3 ++ ([Rec.mk (⟨#[116, 46, 99, 111, 109]⟩ : ByteArray) 16 7 0 (⟨#[]⟩ : ByteArray) (⟨#[104, 105]⟩ : ByteArray), x14]))))) else (s_l10Zone_j2 x11.b x11.i x11.h j1_3))
def s_l10Zone_j0  (j0_0 : List Int) (j0_1 : Int) (j0_2 : Int) (j0_3 : List Rec) : Option (MZone × Cur) :=
  bnd2 (s_l1Once (Cur.mk j0_0 j0_1 j0_2) 2) (fun x10 x11 => bif x10 then (grd ((j0_3 ++ ([Rec.mk (⟨#[119, 119, 119, 46, 99, 111, 109]⟩ : ByteArray) 5 9 0 (⟨#[97, 46, 111, 114, 103]⟩ : ByteArray) (⟨#[]⟩ : ByteArray)])).length ≤ 1099511627776) (s_l10Zone_j1 x11.b x11.i x11.h (j0_3 ++ ([Rec.mk (⟨#[119, 119, 119, 46, 99, 111, 109]⟩ : ByteArray) 5 9 0 (⟨#[97, 46, 111, 114, 103]⟩ : ByteArray) (⟨#[]⟩ : ByteArray)])))) else (s_l10Zone_j1 x11.b x11.i x11.h j0_3))
def s_l10Zone (p0 : Cur) : Option (MZone × Cur) :=
  bnd2 (s_l1Int p0 [5, 60, 300]) (fun x1 x2 => bnd1 (s_l10Start (⟨#[99, 111, 109]⟩ : ByteArray) x1) (fun x4 => bnd1 (s_l10Server (⟨#[99, 111, 109]⟩ : ByteArray) (⟨#[110, 115, 46, 99, 111, 109]⟩ : ByteArray) x1) (fun x6 => bnd1 (s_l10Addr (⟨#[110, 115, 46, 99, 111, 109]⟩ : ByteArray) 2 x1) (fun x8 => bnd2 (s_l1Once x2 2) (fun x10 x11 => bif x10 then (bnd1 (s_l10Server (⟨#[101, 120, 46, 99, 111, 109]⟩ : ByteArray) (⟨#[110, 115, 46, 101, 120, 46, 99, 111, 109]⟩ : ByteArray) x1) (fun x14 => bnd1 (s_l10Addr (⟨#[110, 115, 46, 101, 120, 46, 99, 111, 109]⟩ : ByteArray) 3 x1) (fun x16 => grd (([x4, x6, x8] ++ [x14, x16]).length ≤ 1099511627776) (s_l10Zone_j0 x11.b x11.i x11.h ([x4, x6, x8] ++ [x14, x16]))))) else (s_l10Zone_j0 x11.b x11.i x11.h [x4, x6, x8]))))))
/- spec.l1Str -/
def s_l1Str (p0 : Cur) (p1 : List ByteArray) : Option (ByteArray × Cur) :=
  bnd2 (s_l1Below p0 (p1.length : Int)) (fun x1 x2 => bnd1 (idx p1 x1) (fun x4 => some (x4, x2)))
/- spec.l3Name -/
def s_l3Name (p0 : Cur) : Option (ByteArray × Cur) :=
  bnd2 (s_l1Str p0 ([(⟨#[]⟩ : ByteArray), (⟨#[99, 111, 109]⟩ : ByteArray), (⟨#[101, 120, 46, 99, 111, 109]⟩ : ByteArray), (⟨#[119, 119, 119, 46, 101, 120, 46, 99, 111, 109]⟩ : ByteArray), (⟨#[110, 115, 46, 101, 120, 46, 99, 111, 109]⟩ : ByteArray), (⟨#[111, 114, 103]⟩ : ByteArray), (⟨#[97, 46, 111, 114, 103]⟩ : ByteArray), (⟨#[98, 46, 97, 46, 111, 114, 103]⟩ : ByteArray), (⟨#[110, 115, 49, 46, 111, 114, 103]⟩ : ByteArray), (⟨#[120, 46, 121, 46, 122, 46, 101, 120, 46, 99, 111, 109]⟩ : ByteArray)])) (fun x1 x2 => some (x1, x2))
/- spec.l5Type -/
def s_l5Type (p0 : Cur) : Option (Int × Cur) :=
  bnd2 (s_l1Int p0 [1, 1, 1, 2, 2, 5, 6, 16]) (fun x1 x2 => some (x1, x2))
/- spec.l5Draw -/
def s_l5Draw_j0 (x1 : ByteArray) (x4 : Int) (x7 : Int) (x8 : Cur) (j0_0 : Bool) : Option (Rec × Cur) :=
  bif j0_0 then (bnd2 (s_l3Name x8) (fun x16 x17 => some ((Rec.mk x1 x4 x7 0 x16 (⟨#[]⟩ : ByteArray)), x17))) else (bif decide (x4 = 6) then (bnd2 (s_l3Name x8) (fun x20 x21 => bnd2 (s_l1Int x21 [0, 5, 60]) (fun x23 x24 => some ((Rec.mk x1 x4 x7 x23 x20 (⟨#[]⟩ : ByteArray)), x24)))) else (bif decide (x4 = 16) then (bnd2 (s_l1Str x8 ([(⟨#[]⟩ : ByteArray), (⟨#[104, 105]⟩ : ByteArray), (⟨#[116, 119, 101, 108, 118, 101, 98, 121, 116, 101, 115, 33]⟩ : ByteArray)])) (fun x27 x28 => some ((Rec.mk x1 x4 x7 0 (⟨#[]⟩ : ByteArray) x27), x28))) else (some ((Rec.mk x1 x4 x7 0 (⟨#[]⟩ : ByteArray) (⟨#[]⟩ : ByteArray)), x8))))
def s_l5Draw (p0 : Cur) : Option (Rec × Cur) :=
  bnd2 (s_l3Name p0) (fun x1 x2 => bnd2 (s_l5Type x2) (fun x4 x5 => bnd2 (s_l1Int x5 [0, 1, 5, 60, 300, 100000]) (fun x7 x8 => bif decide (x4 = 1) then (bnd2 (s_l1Below x8 9) (fun x11 x12 => grd (i64 (1 + x11)) (some ((Rec.mk x1 x4 x7 (1 + x11) (⟨#[]⟩ : ByteArray) (⟨#[]⟩ : ByteArray)), x12)))) else (bif decide (x4 = 2) then (s_l5Draw_j0 x1 x4 x7 x8 (decide (x4 = 2))) else (s_l5Draw_j0 x1 x4 x7 x8 (decide (x4 = 5)))))))
/- spec.l10Any -/
def s_l10Any (p0 : Cur) : Option (MZone × Cur) :=
  bnd2 (s_l10Zone p0) (fun x1 x2 => bnd2 (s_l1Below x2 12) (fun x4 x5 => bif decide (x4 = 0) then (bnd2 (s_l1Str x5 ([(⟨#[]⟩ : ByteArray), (⟨#[111, 114, 103]⟩ : ByteArray), (⟨#[101, 120, 46, 99, 111, 109]⟩ : ByteArray), (⟨#[65]⟩ : ByteArray)])) (fun x8 x9 => some ((MZone.mk x8 x1.l), x9))) else (bif decide (x4 = 1) then (bnd2 (s_l5Draw x5) (fun x12 x13 => grd ((x1.l ++ [x12]).length ≤ 1099511627776) (some ((MZone.mk x1.apex (x1.l ++ [x12])), x13)))) else (bif decide (x4 = 2) then (grd ((0 : Int) ≤ 1 ∧ 1 ≤ (x1.l.length : Int) ∧ (x1.l.length : Int) ≤ (x1.l.length : Int)) (some ((MZone.mk x1.apex ((x1.l.drop (0 + (1 : Int).toNat)).take ((x1.l.length : Int).toNat - (1 : Int).toNat))), x5))) else (bif decide (x4 = 3) then (grd ((x1.l ++ ([Rec.mk (⟨#[120, 46, 101, 120, 46, 99, 111, 109]⟩ : ByteArray) 16 0 0 (⟨#[]⟩ : ByteArray) (⟨#[110, 111]⟩ : ByteArray)])).length ≤ 1099511627776) (bnd1 (s_l10Uniq (x1.l ++ ([Rec.mk (⟨#[120, 46, 101, 120, 46, 99, 111, 109]⟩ : ByteArray) 16 0 0 (⟨#[]⟩ : ByteArray) (⟨#[110, 111]⟩ : ByteArray)]))) (fun x20 => some ((MZone.mk x1.apex x20), x5)))) else (bif decide (x4 = 4) then (grd ((x1.l ++ ([Rec.mk (⟨#[116, 46, 99, 111, 109]⟩ : ByteArray) 5 0 0 (⟨#[99, 111, 109]⟩ : ByteArray) (⟨#[]⟩ : ByteArray)])).length ≤ 1099511627776) (bnd1 (s_l10Uniq (x1.l ++ ([Rec.mk (⟨#[116, 46, 99, 111, 109]⟩ : ByteArray) 5 0 0 (⟨#[99, 111, 109]⟩ : ByteArray) (⟨#[]⟩ : ByteArray)]))) (fun x24 => some ((MZone.mk x1.apex x24), x5)))) else (bif decide (x4 = 5) then (bnd1 (s_l10Start (⟨#[97, 46, 99, 111, 109]⟩ : ByteArray) 5) (fun x27 => grd ((x1.l ++ [x27]).length ≤ 1099511627776) (bnd1 (s_l10Uniq (x1.l ++ [x27])) (fun x30 => some ((MZone.mk x1.apex x30), x5))))) else (bif decide (x4 = 6) then (bnd1 (idx x1.l 0) (fun x33 => grd (i64 (x33.ttl + 1)) (some ((MZone.mk x1.apex (x1.l.set (0 : Int).toNat (Rec.mk x33.name x33.ty (x33.ttl + 1) x33.n x33.host x33.text))), x5)))) else (some (x1, x5))))))))))
/- spec.DrawZoneOk -/
def s_DrawZoneOk (p0 : List Int) : Option MZone :=
  bnd1 (s_l1New p0) (fun x1 => bnd2 (s_l10Any x1) (fun x3 x4 => some x3))
/- spec.l10Name -/
def s_l10Name (p0 : Cur) : Option (ByteArray × Cur) :=
  bnd2 (s_l1Str p0 ([(⟨#[]⟩ : ByteArray), (⟨#[99, 111, 109]⟩ : ByteArray), (⟨#[110, 115, 46, 99, 111, 109]⟩ : ByteArray), (⟨#[101, 120, 46, 99, 111, 109]⟩ : ByteArray), (⟨#[119, 119, 119, 46, 101, 120, 46, 99, 111, 109]⟩ : ByteArray), (⟨#[110, 115, 46, 101, 120, 46, 99, 111, 109]⟩ : ByteArray), (⟨#[119, 119, 119, 46, 99, 111, 109]⟩ : ByteArray), (⟨#[116, 46, 99, 111, 109]⟩ : ByteArray), (⟨#[97, 46, 99, 111, 109]⟩ : ByteArray), (⟨#[98, 46, 97, 46, 99, 111, 109]⟩ : ByteArray), (⟨#[110, 111, 46, 99, 111, 109]⟩ : ByteArray), (⟨#[111, 114, 103]⟩ : ByteArray)])) (fun x1 x2 => some (x1, x2))
/- spec.DrawCutOf -/
def s_DrawCutOf (p0 : List Int) : Option (MZone × ByteArray) :=
  bnd1 (s_l1New p0) (fun x1 => bnd2 (s_l10Any x1) (fun x3 x4 => bnd2 (s_l10Name x4) (fun x6 x7 => some (x3, x6))))
/- stringslite.IndexByte -/
def internal_stringslite_IndexByte (p0 : ByteArray) (p1 : Int) : Option Int :=
  some (Lib.indexByte p0.data.toList p1.toNat.toUInt8)
/- stringslite.Index -/
def internal_stringslite_Index_j0 (p0 : ByteArray) (p1 : ByteArray) (j0_0 : Bool) : Option Int :=
  bif j0_0 then (some 0) else (bif decide ((p1.size : Int) = 1) then (bnd1 (sidx p1 0) (fun x3 => bnd1 (internal_stringslite_IndexByte p0 x3) (fun x5 => some x5))) else (bif decide ((p0.size : Int) ≤ (p1.size : Int)) then (some (-1)) else (none)))
def internal_stringslite_Index (p0 : ByteArray) (p1 : ByteArray) : Option Int :=
  bif decide ((p1.size : Int) = 0) then (internal_stringslite_Index_j0 p0 p1 true) else (internal_stringslite_Index_j0 p0 p1 (decide (p1 = p0)))
/- strings.Index -/
def strings_Index (p0 : ByteArray) (p1 : ByteArray) : Option Int :=
  bnd1 (internal_stringslite_Index p0 p1) (fun x1 => some x1)
/- strings.Count -/
def strings_Count_l0 (p1 : ByteArray) : Nat → ByteArray → Int → Option Int
  | 0, _, _ => none
  | f0 + 1, v0_0, v0_1 => bnd1 (strings_Index v0_0 p1) (fun x5 => bif decide (x5 = (-1)) then (some v0_1) else (grd (i64 (v0_1 + 1)) (grd (i64 (x5 + (p1.size : Int))) (grd (0 ≤ x5 + (p1.size : Int) ∧ x5 + (p1.size : Int) ≤ (v0_0.size : Int) ∧ (v0_0.size : Int) ≤ (v0_0.size : Int)) (strings_Count_l0 p1 f0 (v0_0.extract (x5 + (p1.size : Int)).toNat (v0_0.size : Int).toNat) (v0_1 + 1))))))
def strings_Count (p0 : ByteArray) (p1 : ByteArray) : Option Int :=
  bif decide ((p1.size : Int) = 0) then (none) else (bif decide ((p1.size : Int) = 1) then (bnd1 (sidx p1 0) (fun x3 => some (Lib.countByte p0.data.toList x3.toNat.toUInt8 : Int))) else (strings_Count_l0 p1 fuel0 p0 0))
/- strings.genSplit -/
def strings_genSplit_j1  (j1_0 : ByteArray) (j1_1 : List ByteArray) (j1_2 : Int) : Option (List ByteArray) :=
  bnd1 (idx j1_1 j1_2) (fun x6 => grd (i64 (j1_2 + 1)) (grd ((0 : Int) ≤ ((0 : Nat) : Int) ∧ ((0 : Nat) : Int) ≤ j1_2 + 1 ∧ j1_2 + 1 ≤ (j1_1.length : Int)) (some (((j1_1.set j1_2.toNat j1_0).drop (0 + ((0 : Nat) : Int).toNat)).take ((j1_2 + 1).toNat - ((0 : Nat) : Int).toNat)))))
def strings_genSplit_l2 (p0 : ByteArray) (p1 : ByteArray) (p2 : Int) (j0_0 : Int) : Nat → ByteArray → (List ByteArray) → Int → Option (List ByteArray)
  | 0, _, _, _ => none
  | f2 + 1, v2_0, v2_1, v2_2 => bif decide (v2_2 < (if (p0.size : Int) + 1 < j0_0 then (p0.size : Int) + 1 else j0_0) - 1) then (bnd1 (strings_Index v2_0 p1) (fun x7 => bif decide (x7 < 0) then (strings_genSplit_j1 v2_0 v2_1 v2_2) else (grd (i64 (x7 + p2)) (grd (0 ≤ ((0 : Nat) : Int) ∧ ((0 : Nat) : Int) ≤ x7 + p2 ∧ x7 + p2 ≤ (v2_0.size : Int)) (bnd1 (idx v2_1 v2_2) (fun x12 => grd (i64 (x7 + (p1.size : Int))) (grd (0 ≤ x7 + (p1.size : Int) ∧ x7 + (p1.size : Int) ≤ (v2_0.size : Int) ∧ (v2_0.size : Int) ≤ (v2_0.size : Int)) (grd (i64 (v2_2 + 1)) (strings_genSplit_l2 p0 p1 p2 j0_0 f2 (v2_0.extract (x7 + (p1.size : Int)).toNat (v2_0.size : Int).toNat) (v2_1.set v2_2.toNat (v2_0.extract ((0 : Nat) : Int).toNat (x7 + p2).toNat)) (v2_2 + 1)))))))))) else (strings_genSplit_j1 v2_0 v2_1 v2_2)
def strings_genSplit_j0 (p0 : ByteArray) (p1 : ByteArray) (p2 : Int) (j0_0 : Int) : Option (List ByteArray) :=
  grd (i64 ((p0.size : Int) + 1)) (grd (0 ≤ (if (p0.size : Int) + 1 < j0_0 then (p0.size : Int) + 1 else j0_0) ∧ (if (p0.size : Int) + 1 < j0_0 then (p0.size : Int) + 1 else j0_0).toNat ≤ 1099511627776) (grd (i64 ((if (p0.size : Int) + 1 < j0_0 then (p0.size : Int) + 1 else j0_0) - 1)) (strings_genSplit_l2 p0 p1 p2 j0_0 fuel0 p0 (List.replicate (if (p0.size : Int) + 1 < j0_0 then (p0.size : Int) + 1 else j0_0).toNat (⟨#[]⟩ : ByteArray)) 0)))
def strings_genSplit (p0 : ByteArray) (p1 : ByteArray) (p2 : Int) (p3 : Int) : Option (List ByteArray) :=
  bif decide (p3 = 0) then (some ([] : List ByteArray)) else (bif decide (p1 = (⟨#[]⟩ : ByteArray)) then (none) else (bif decide (p3 < 0) then (bnd1 (strings_Count p0 p1) (fun x4 => grd (i64 (x4 + 1)) (strings_genSplit_j0 p0 p1 p2 (x4 + 1)))) else (strings_genSplit_j0 p0 p1 p2 p3)))
/- strings.Split -/
def strings_Split (p0 : ByteArray) (p1 : ByteArray) : Option (List ByteArray) :=
  bnd1 (strings_genSplit p0 p1 0 (-1)) (fun x1 => some x1)
/- impl.Labels -/
def i_Labels (p0 : ByteArray) : Option (List ByteArray) :=
  bif decide (p0 = (⟨#[]⟩ : ByteArray)) then (some ([] : List ByteArray)) else (bnd1 (strings_Split p0 (⟨#[46]⟩ : ByteArray)) (fun x2 => some x2))
/- slices.Equal[[]string,string] -/
def slices_Equal_string_l0 (p1 : List ByteArray) : List ByteArray → Nat → Option Bool
  | [], v0_0 => some true
  | e0 :: rs0, v0_0 => bnd1 (idx p1 (v0_0 : Int)) (fun x3 => bif !decide (e0 = x3) then (some false) else (slices_Equal_string_l0 p1 rs0 (v0_0 + 1)))
def slices_Equal_string (p0 : List ByteArray) (p1 : List ByteArray) : Option Bool :=
  bif !decide ((p0.length : Int) = (p1.length : Int)) then (some false) else (slices_Equal_string_l0 p1 p0 0)
/- impl.Under -/
def i_Under (p0 : ByteArray) (p1 : ByteArray) : Option Bool :=
  bnd1 (i_Labels p0) (fun x1 => bnd1 (i_Labels p1) (fun x3 => bif decide ((x3.length : Int) ≤ (x1.length : Int)) then (grd (i64 ((x1.length : Int) - (x3.length : Int))) (grd ((0 : Int) ≤ (x1.length : Int) - (x3.length : Int) ∧ (x1.length : Int) - (x3.length : Int) ≤ (x1.length : Int) ∧ (x1.length : Int) ≤ (x1.length : Int)) (bnd1 (slices_Equal_string ((x1.drop (0 + ((x1.length : Int) - (x3.length : Int)).toNat)).take ((x1.length : Int).toNat - ((x1.length : Int) - (x3.length : Int)).toNat)) x3) (fun x8 => some x8)))) else (some false)))
/- slices.Index[[]string,string] -/
def slices_Index_string_l0 (p1 : ByteArray) : List ByteArray → Nat → Option Int
  | [], v0_0 => some (-1)
  | e0 :: rs0, v0_0 => bif decide (p1 = e0) then (some (v0_0 : Int)) else (slices_Index_string_l0 p1 rs0 (v0_0 + 1))
def slices_Index_string (p0 : List ByteArray) (p1 : ByteArray) : Option Int :=
  slices_Index_string_l0 p1 p0 0
/- slices.Contains[[]string,string] -/
def slices_Contains_string (p0 : List ByteArray) (p1 : ByteArray) : Option Bool :=
  bnd1 (slices_Index_string p0 p1) (fun x1 => some (decide (0 ≤ x1)))
/- impl.CutsOf -/
def i_CutsOf_j1 (v0_0 : List ByteArray) (v0_1 : Nat) (e0 : Rec) (k0 : (List ByteArray) → Nat → Option (List ByteArray)) (j1_0 : Bool) : Option (List ByteArray) :=
  bif j1_0 then (grd ((v0_0 ++ [e0.name]).length ≤ 1099511627776) (k0 (v0_0 ++ [e0.name]) (v0_1 + 1))) else (k0 v0_0 (v0_1 + 1))
def i_CutsOf_l0 (p0 : MZone) : List Rec → (List ByteArray) → Nat → Option (List ByteArray)
  | [], v0_0, v0_1 => some v0_0
  | e0 :: rs0, v0_0, v0_1 => bif decide (e0.ty = 2) then (bif !decide (e0.name = p0.apex) then (bnd1 (i_Under e0.name p0.apex) (fun x4 => bif x4 then (bnd1 (slices_Contains_string v0_0 e0.name) (fun x7 => i_CutsOf_j1 v0_0 v0_1 e0 (i_CutsOf_l0 p0 rs0) (!x7))) else (i_CutsOf_j1 v0_0 v0_1 e0 (i_CutsOf_l0 p0 rs0) false))) else (i_CutsOf_j1 v0_0 v0_1 e0 (i_CutsOf_l0 p0 rs0) false)) else (i_CutsOf_j1 v0_0 v0_1 e0 (i_CutsOf_l0 p0 rs0) false)
def i_CutsOf (p0 : MZone) : Option (List ByteArray) :=
  i_CutsOf_l0 p0 p0.l ([] : List ByteArray) 0
/- impl.CutOf -/
def i_CutOf_l0 (p1 : ByteArray) : List ByteArray → Nat → Option (ByteArray × Bool)
  | [], v0_0 => some ((⟨#[]⟩ : ByteArray), false)
  | e0 :: rs0, v0_0 => bnd1 (i_Under p1 e0) (fun x4 => bif x4 then (some (e0, true)) else (i_CutOf_l0 p1 rs0 (v0_0 + 1)))
def i_CutOf (p0 : MZone) (p1 : ByteArray) : Option (ByteArray × Bool) :=
  bnd1 (i_CutsOf p0) (fun x1 => i_CutOf_l0 p1 x1 0)
/- spec.Under -/
def s_Under_l0 (x1 : List ByteArray) (x3 : List ByteArray) : Nat → Int → Option Bool
  | 0, _ => none
  | f0 + 1, v0_0 => bif decide (v0_0 ≤ (x3.length : Int)) then (grd (i64 ((x1.length : Int) - v0_0)) (bnd1 (idx x1 ((x1.length : Int) - v0_0)) (fun x8 => grd (i64 ((x3.length : Int) - v0_0)) (bnd1 (idx x3 ((x3.length : Int) - v0_0)) (fun x11 => bif !decide (x8 = x11) then (some false) else (grd (i64 (v0_0 + 1)) (s_Under_l0 x1 x3 f0 (v0_0 + 1)))))))) else (some true)
def s_Under (p0 : ByteArray) (p1 : ByteArray) : Option Bool :=
  bnd1 (s_Labels p0) (fun x1 => bnd1 (s_Labels p1) (fun x3 => bif decide ((x1.length : Int) < (x3.length : Int)) then (some false) else (s_Under_l0 x1 x3 fuel0 1)))
/- spec.l9Has -/
def s_l9Has_l0 (p1 : ByteArray) : List ByteArray → Nat → Option Bool
  | [], v0_0 => some false
  | e0 :: rs0, v0_0 => bif decide (e0 = p1) then (some true) else (s_l9Has_l0 p1 rs0 (v0_0 + 1))
def s_l9Has (p0 : List ByteArray) (p1 : ByteArray) : Option Bool :=
  s_l9Has_l0 p1 p0 0
/- spec.CutsOf -/
def s_CutsOf_j1 (v0_0 : List ByteArray) (v0_1 : Nat) (e0 : Rec) (k0 : (List ByteArray) → Nat → Option (List ByteArray)) (j1_0 : Bool) : Option (List ByteArray) :=
  bif j1_0 then (grd ((v0_0 ++ [e0.name]).length ≤ 1099511627776) (k0 (v0_0 ++ [e0.name]) (v0_1 + 1))) else (k0 v0_0 (v0_1 + 1))
def s_CutsOf_l0 (p0 : MZone) : List Rec → (List ByteArray) → Nat → Option (List ByteArray)
  | [], v0_0, v0_1 => some v0_0
  | e0 :: rs0, v0_0, v0_1 => bif decide (e0.ty = 2) then (bif !decide (e0.name = p0.apex) then (bnd1 (s_Under e0.name p0.apex) (fun x4 => bif x4 then (bnd1 (s_l9Has v0_0 e0.name) (fun x7 => s_CutsOf_j1 v0_0 v0_1 e0 (s_CutsOf_l0 p0 rs0) (!x7))) else (s_CutsOf_j1 v0_0 v0_1 e0 (s_CutsOf_l0 p0 rs0) false))) else (s_CutsOf_j1 v0_0 v0_1 e0 (s_CutsOf_l0 p0 rs0) false)) else (s_CutsOf_j1 v0_0 v0_1 e0 (s_CutsOf_l0 p0 rs0) false)
def s_CutsOf (p0 : MZone) : Option (List ByteArray) :=
  s_CutsOf_l0 p0 p0.l ([] : List ByteArray) 0
/- spec.CutOf -/
def s_CutOf_l0 (p1 : ByteArray) : List ByteArray → Nat → Option (ByteArray × Bool)
  | [], v0_0 => some ((⟨#[]⟩ : ByteArray), false)
  | e0 :: rs0, v0_0 => bnd1 (s_Under p1 e0) (fun x4 => bif x4 then (some (e0, true)) else (s_CutOf_l0 p1 rs0 (v0_0 + 1)))
def s_CutOf (p0 : MZone) (p1 : ByteArray) : Option (ByteArray × Bool) :=
  bnd1 (s_CutsOf p0) (fun x1 => s_CutOf_l0 p1 x1 0)
/- spec.DrawExists -/
def s_DrawExists (p0 : List Int) : Option (MZone × ByteArray) :=
  bnd1 (s_l1New p0) (fun x1 => bnd2 (s_l10Any x1) (fun x3 x4 => bnd2 (s_l10Name x4) (fun x6 x7 => some (x3, x6))))
/- spec.Hosts -/
def s_Hosts_j1 (v0_0 : List ByteArray) (v0_1 : Nat) (e0 : Rec) (k0 : (List ByteArray) → Nat → Option (List ByteArray)) (j1_0 : Bool) : Option (List ByteArray) :=
  bif j1_0 then (grd ((v0_0 ++ [e0.host]).length ≤ 1099511627776) (k0 (v0_0 ++ [e0.host]) (v0_1 + 1))) else (k0 v0_0 (v0_1 + 1))
def s_Hosts_l0  : List Rec → (List ByteArray) → Nat → Option (List ByteArray)
  | [], v0_0, v0_1 => some v0_0
  | e0 :: rs0, v0_0, v0_1 => bif decide (e0.ty = 2) then (bnd1 (s_l9Has v0_0 e0.host) (fun x3 => s_Hosts_j1 v0_0 v0_1 e0 (s_Hosts_l0 rs0) (!x3))) else (s_Hosts_j1 v0_0 v0_1 e0 (s_Hosts_l0 rs0) false)
def s_Hosts (p0 : List Rec) : Option (List ByteArray) :=
  s_Hosts_l0 p0 ([] : List ByteArray) 0
/- spec.DrawGlue -/
def s_DrawGlue (p0 : List Int) : Option (MZone × (List ByteArray)) :=
  bnd1 (s_l1New p0) (fun x1 => bnd2 (s_l10Any x1) (fun x3 x4 => bnd2 (s_l1Once x4 2) (fun x6 x7 => bif x6 then (bnd1 (s_Hosts x3.l) (fun x10 => some (x3, x10))) else (bnd2 (s_l10Name x7) (fun x12 x13 => bnd2 (s_l10Name x13) (fun x15 x16 => some (x3, [x12, x15])))))))
/- slices.IndexFunc[[]string,string] -/
def slices_IndexFunc_string_l0 (p1 : ByteArray → Option Bool) : List ByteArray → Nat → Option Int
  | [], v0_0 => some (-1)
  | e0 :: rs0, v0_0 => bnd1 (p1 e0) (fun x2 => bif x2 then (some (v0_0 : Int)) else (slices_IndexFunc_string_l0 p1 rs0 (v0_0 + 1)))
def slices_IndexFunc_string (p0 : List ByteArray) (p1 : ByteArray → Option Bool) : Option Int :=
  slices_IndexFunc_string_l0 p1 p0 0
/- slices.ContainsFunc[[]string,string] -/
def slices_ContainsFunc_string (p0 : List ByteArray) (p1 : ByteArray → Option Bool) : Option Bool :=
  bnd1 (slices_IndexFunc_string p0 p1) (fun x1 => some (decide (0 ≤ x1)))
/- impl.LabelOk -/
def i_LabelOk_j0 (p0 : ByteArray) : Option Bool :=
  bif decide (1 ≤ (p0.size : Int)) then (some (decide ((p0.size : Int) ≤ 12))) else (some false)
def i_LabelOk_j2 (v1_0 : Int) (k1 : Int → Option Bool) (j2_0 : Bool) : Option Bool :=
  bif j2_0 then (some false) else (grd (i64 (v1_0 + 1)) (k1 (v1_0 + 1)))
def i_LabelOk_l1 (p0 : ByteArray) : Nat → Int → Option Bool
  | 0, _ => none
  | f1 + 1, v1_0 => bif decide (v1_0 < (p0.size : Int)) then (bnd1 (sidx p0 v1_0) (fun x2 => bif decide (x2 < 97) then (bif decide (x2 < 48) then (bif !decide (x2 = 45) then (i_LabelOk_j2 v1_0 (i_LabelOk_l1 p0 f1) (!decide (x2 = 95))) else (i_LabelOk_j2 v1_0 (i_LabelOk_l1 p0 f1) false)) else (bif decide (57 < x2) then (bif !decide (x2 = 45) then (i_LabelOk_j2 v1_0 (i_LabelOk_l1 p0 f1) (!decide (x2 = 95))) else (i_LabelOk_j2 v1_0 (i_LabelOk_l1 p0 f1) false)) else (i_LabelOk_j2 v1_0 (i_LabelOk_l1 p0 f1) false))) else (bif decide (122 < x2) then (bif decide (x2 < 48) then (bif !decide (x2 = 45) then (i_LabelOk_j2 v1_0 (i_LabelOk_l1 p0 f1) (!decide (x2 = 95))) else (i_LabelOk_j2 v1_0 (i_LabelOk_l1 p0 f1) false)) else (bif decide (57 < x2) then (bif !decide (x2 = 45) then (i_LabelOk_j2 v1_0 (i_LabelOk_l1 p0 f1) (!decide (x2 = 95))) else (i_LabelOk_j2 v1_0 (i_LabelOk_l1 p0 f1) false)) else (i_LabelOk_j2 v1_0 (i_LabelOk_l1 p0 f1) false))) else (i_LabelOk_j2 v1_0 (i_LabelOk_l1 p0 f1) false)))) else (i_LabelOk_j0 p0)
def i_LabelOk (p0 : ByteArray) : Option Bool :=
  i_LabelOk_l1 p0 fuel0 0
/- impl.NameOk$1 -/
def i_NameOk_1 (p0 : ByteArray) : Option Bool :=
  bnd1 (i_LabelOk p0) (fun x1 => some (!x1))
/- impl.NameOk -/
def i_NameOk (p0 : ByteArray) : Option Bool :=
  bnd1 (i_Labels p0) (fun x1 => bif decide ((p0.size : Int) ≤ 50) then (bif decide ((x1.length : Int) ≤ 6) then (bnd1 (slices_ContainsFunc_string x1 (fun a0 => i_NameOk_1 a0)) (fun x5 => some (!x5))) else (some false)) else (some false))
/- impl.Record] -/
def slices_IndexFunc_Record_l0 (p1 : Rec → Option Bool) : List Rec → Nat → Option Int
  | [], v0_0 => some (-1)
  | e0 :: rs0, v0_0 => bnd1 (p1 e0) (fun x2 => bif x2 then (some (v0_0 : Int)) else (slices_IndexFunc_Record_l0 p1 rs0 (v0_0 + 1)))
def slices_IndexFunc_Record (p0 : List Rec) (p1 : Rec → Option Bool) : Option Int :=
  slices_IndexFunc_Record_l0 p1 p0 0
/- impl.Record] -/
def slices_ContainsFunc_Record (p0 : List Rec) (p1 : Rec → Option Bool) : Option Bool :=
  bnd1 (slices_IndexFunc_Record p0 p1) (fun x1 => some (decide (0 ≤ x1)))
/- impl.isTtl -/
def i_isTtl (p0 : Int) : Option Bool :=
  bif decide (0 ≤ p0) then (some (decide (p0 ≤ 100000))) else (some false)
/- impl.isFour -/
def i_isFour (p0 : Int) : Option Bool :=
  bif decide (0 ≤ p0) then (some (decide (p0 ≤ 2147483647))) else (some false)
/- impl.isText -/
def i_isText_j0 (p0 : ByteArray) : Option Bool :=
  some (decide ((p0.size : Int) ≤ 12))
def i_isText_j2 (v1_0 : Int) (k1 : Int → Option Bool) (j2_0 : Bool) : Option Bool :=
  bif j2_0 then (some false) else (grd (i64 (v1_0 + 1)) (k1 (v1_0 + 1)))
def i_isText_l1 (p0 : ByteArray) : Nat → Int → Option Bool
  | 0, _ => none
  | f1 + 1, v1_0 => bif decide (v1_0 < (p0.size : Int)) then (bnd1 (sidx p0 v1_0) (fun x2 => bif decide (x2 < 33) then (i_isText_j2 v1_0 (i_isText_l1 p0 f1) true) else (bnd1 (sidx p0 v1_0) (fun x5 => i_isText_j2 v1_0 (i_isText_l1 p0 f1) (decide (126 < x5)))))) else (i_isText_j0 p0)
def i_isText (p0 : ByteArray) : Option Bool :=
  i_isText_l1 p0 fuel0 0
/- impl.RecordOk -/
def i_RecordOk_j1 (p0 : Rec) (j1_0 : Bool) : Option Bool :=
  bif j1_0 then (bif decide (p0.n = 0) then (bnd1 (i_NameOk p0.host) (fun x9 => bif x9 then (some (decide (p0.text = (⟨#[]⟩ : ByteArray)))) else (some false))) else (some false)) else (bif decide (p0.ty = 6) then (bnd1 (i_isTtl p0.n) (fun x13 => bif x13 then (bnd1 (i_NameOk p0.host) (fun x16 => bif x16 then (some (decide (p0.text = (⟨#[]⟩ : ByteArray)))) else (some false))) else (some false))) else (bif decide (p0.ty = 16) then (bif decide (p0.n = 0) then (bif decide (p0.host = (⟨#[]⟩ : ByteArray)) then (bnd1 (i_isText p0.text) (fun x22 => some x22)) else (some false)) else (some false)) else (some false)))
def i_RecordOk_j0 (p0 : Rec) (j0_0 : Bool) : Option Bool :=
  bif j0_0 then (some false) else (bif decide (p0.ty = 1) then (bnd1 (i_isFour p0.n) (fun x3 => bif x3 then (bif decide (p0.host = (⟨#[]⟩ : ByteArray)) then (some (decide (p0.text = (⟨#[]⟩ : ByteArray)))) else (some false)) else (some false))) else (bif decide (p0.ty = 2) then (i_RecordOk_j1 p0 (decide (p0.ty = 2))) else (i_RecordOk_j1 p0 (decide (p0.ty = 5)))))
def i_RecordOk (p0 : Rec) : Option Bool :=
  bnd1 (i_NameOk p0.name) (fun x1 => bif !x1 then (i_RecordOk_j0 p0 true) else (bnd1 (i_isTtl p0.ttl) (fun x4 => i_RecordOk_j0 p0 (!x4))))
/- impl.allOk$1 -/
def i_allOk_1 (p0 : Rec) : Option Bool :=
  bnd1 (i_RecordOk p0) (fun x1 => some (!x1))
/- impl.allOk -/
def i_allOk (p0 : List Rec) (p1 : Int) : Option Bool :=
  bif decide ((p0.length : Int) ≤ p1) then (bnd1 (slices_ContainsFunc_Record p0 (fun a0 => i_allOk_1 a0)) (fun x2 => some (!x2))) else (some false)
/- slices.Reverse[[]string,string] -/
def slices_Reverse_string_l0  : Nat → (List ByteArray) → Int → Int → Option (List ByteArray)
  | 0, _, _, _ => none
  | f0 + 1, v0_0, v0_1, v0_2 => bif decide (v0_1 < v0_2) then (bnd1 (idx v0_0 v0_2) (fun x3 => bnd1 (idx v0_0 v0_1) (fun x5 => bnd1 (idx (v0_0.set v0_1.toNat x3) v0_2) (fun x7 => grd (i64 (v0_1 + 1)) (grd (i64 (v0_2 - 1)) (slices_Reverse_string_l0 f0 ((v0_0.set v0_1.toNat x3).set v0_2.toNat x5) (v0_1 + 1) (v0_2 - 1))))))) else (some v0_0)
def slices_Reverse_string (p0 : List ByteArray) : Option (List ByteArray) :=
  grd (i64 ((p0.length : Int) - 1)) (slices_Reverse_string_l0 fuel0 p0 0 ((p0.length : Int) - 1))
/- cmp.isNaN[string] -/
def cmp_isNaN_string (p0 : ByteArray) : Option Bool :=
  some (!decide (p0 = p0))
/- cmp.Compare[string] -/
def cmp_Compare_string (p0 : ByteArray) (p1 : ByteArray) : Option Int :=
  bnd1 (cmp_isNaN_string p0) (fun x1 => bnd1 (cmp_isNaN_string p1) (fun x3 => bif x1 then (bif x3 then (some 0) else (some (-1))) else (bif x3 then (some 1) else (bif Op.bytesLess p0.toList p1.toList then (some (-1)) else (bif (!Op.bytesLess p0.toList p1.toList && !(p0.toList == p1.toList)) then (some 1) else (some 0))))))
/- slices.Compare[[]string,string] -/
def slices_Compare_string_j0 (p0 : List ByteArray) (p1 : List ByteArray) : Option Int :=
  bif decide ((p0.length : Int) < (p1.length : Int)) then (some (-1)) else (some 0)
def slices_Compare_string_l1 (p0 : List ByteArray) (p1 : List ByteArray) : List ByteArray → Nat → Option Int
  | [], v1_0 => slices_Compare_string_j0 p0 p1
  | e1 :: rs1, v1_0 => bif decide ((p1.length : Int) ≤ (v1_0 : Int)) then (some 1) else (bnd1 (idx p1 (v1_0 : Int)) (fun x3 => bnd1 (cmp_Compare_string e1 x3) (fun x5 => bif !decide (x5 = 0) then (some x5) else (slices_Compare_string_l1 p0 p1 rs1 (v1_0 + 1)))))
def slices_Compare_string (p0 : List ByteArray) (p1 : List ByteArray) : Option Int :=
  slices_Compare_string_l1 p0 p1 p0 0
/- impl.LessName -/
def i_LessName (p0 : ByteArray) (p1 : ByteArray) : Option Bool :=
  bnd1 (i_Labels p0) (fun x1 => bnd1 (i_Labels p1) (fun x3 => bnd1 (slices_Reverse_string x1) (fun x5 => grd (x5.length = x1.length) (bnd1 (slices_Reverse_string x3) (fun x8 => grd (x8.length = x3.length) (bnd1 (slices_Compare_string x5 x8) (fun x11 => some (decide (x11 < 0)))))))))
/- impl.byName -/
def i_byName (p0 : ByteArray) (p1 : ByteArray) : Option Int :=
  bnd1 (i_LessName p0 p1) (fun x1 => bif x1 then (some (-1)) else (bnd1 (i_LessName p1 p0) (fun x4 => bif x4 then (some 1) else (some 0))))
/- cmp.isNaN[int] -/
def cmp_isNaN_int (p0 : Int) : Option Bool :=
  some (!decide (p0 = p0))
/- cmp.Compare[int] -/
def cmp_Compare_int (p0 : Int) (p1 : Int) : Option Int :=
  bnd1 (cmp_isNaN_int p0) (fun x1 => bnd1 (cmp_isNaN_int p1) (fun x3 => bif x1 then (bif x3 then (some 0) else (some (-1))) else (bif x3 then (some 1) else (bif decide (p0 < p1) then (some (-1)) else (bif decide (p1 < p0) then (some 1) else (some 0))))))
/- cmp.Or[int] -/
def cmp_Or_int_l0  : List Int → Nat → Option Int
  | [], v0_0 => some 0
  | e0 :: rs0, v0_0 => bif !decide (e0 = 0) then (some e0) else (cmp_Or_int_l0 rs0 (v0_0 + 1))
def cmp_Or_int (p0 : List Int) : Option Int :=
  cmp_Or_int_l0 p0 0
/- impl.byRecord -/
def i_byRecord (p0 : Rec) (p1 : Rec) : Option Int :=
  bnd1 (i_byName p0.name p1.name) (fun x1 => bnd1 (cmp_Compare_int p0.ty p1.ty) (fun x3 => bnd1 (cmp_Compare_int p0.n p1.n) (fun x5 => bnd1 (i_byName p0.host p1.host) (fun x7 => bnd1 (cmp_Compare_string p0.text p1.text) (fun x9 => bnd1 (cmp_Compare_int p0.ttl p1.ttl) (fun x11 => bnd1 (cmp_Or_int [x1, x3, x5, x7, x9, x11]) (fun x13 => some x13)))))))
/- impl.LessRecord -/
def i_LessRecord (p0 : Rec) (p1 : Rec) : Option Bool :=
  bnd1 (i_byRecord p0 p1) (fun x1 => some (decide (x1 < 0)))
/- impl.SetOf -/
def i_SetOf_j1 (v0_0 : List Rec) (v0_1 : Nat) (e0 : Rec) (k0 : (List Rec) → Nat → Option (List Rec)) (j1_0 : Bool) : Option (List Rec) :=
  bif j1_0 then (grd ((v0_0 ++ [e0]).length ≤ 1099511627776) (k0 (v0_0 ++ [e0]) (v0_1 + 1))) else (k0 v0_0 (v0_1 + 1))
def i_SetOf_l0 (p1 : ByteArray) (p2 : Int) : List Rec → (List Rec) → Nat → Option (List Rec)
  | [], v0_0, v0_1 => some v0_0
  | e0 :: rs0, v0_0, v0_1 => bif decide (e0.name = p1) then (i_SetOf_j1 v0_0 v0_1 e0 (i_SetOf_l0 p1 p2 rs0) (decide (e0.ty = p2))) else (i_SetOf_j1 v0_0 v0_1 e0 (i_SetOf_l0 p1 p2 rs0) false)
def i_SetOf (p0 : List Rec) (p1 : ByteArray) (p2 : Int) : Option (List Rec) :=
  i_SetOf_l0 p1 p2 p0 ([] : List Rec) 0
/- impl.ZoneOk -/
def i_ZoneOk_j1 (p0 : MZone) (j1_0 : Int) : Option Bool :=
  bif decide (j1_0 = 1) then (bnd1 (i_SetOf p0.l p0.apex 2) (fun x3 => some (decide (0 < (x3.length : Int))))) else (some false)
def i_ZoneOk_j10 (v9_0 : Nat) (k9 : Nat → Option Bool) (j10_0 : Bool) : Option Bool :=
  bif j10_0 then (some false) else (k9 (v9_0 + 1))
def i_ZoneOk_l9 (v2_1 : Nat) (e2 : Rec) (j7_0 : Int) (k2 : Int → Nat → Option Bool) : List ByteArray → Nat → Option Bool
  | [], v9_0 => k2 j7_0 (v2_1 + 1)
  | e9 :: rs9, v9_0 => bnd1 (i_Under e2.name e9) (fun x7 => bif x7 then (bif !decide (e2.ty = 1) then (bif decide (e2.ty = 2) then (i_ZoneOk_j10 v9_0 (i_ZoneOk_l9 v2_1 e2 j7_0 k2 rs9) (!(decide (e2.name = e9)))) else (i_ZoneOk_j10 v9_0 (i_ZoneOk_l9 v2_1 e2 j7_0 k2 rs9) true)) else (i_ZoneOk_j10 v9_0 (i_ZoneOk_l9 v2_1 e2 j7_0 k2 rs9) false)) else (i_ZoneOk_j10 v9_0 (i_ZoneOk_l9 v2_1 e2 j7_0 k2 rs9) false))
def i_ZoneOk_j7 (p0 : MZone) (v2_1 : Nat) (e2 : Rec) (k2 : Int → Nat → Option Bool) (j7_0 : Int) : Option Bool :=
  bnd1 (i_CutsOf p0) (fun x4 => i_ZoneOk_l9 v2_1 e2 j7_0 (k2) x4 0)
def i_ZoneOk_j8 (p0 : MZone) (v2_0 : Int) (v2_1 : Nat) (e2 : Rec) (k2 : Int → Nat → Option Bool) (j8_0 : Bool) : Option Bool :=
  bif j8_0 then (some false) else (bif decide (e2.ty = 6) then (grd (i64 (v2_0 + 1)) (i_ZoneOk_j7 p0 v2_1 e2 (k2) (v2_0 + 1))) else (i_ZoneOk_j7 p0 v2_1 e2 (k2) v2_0))
def i_ZoneOk_j4 (p0 : MZone) (v2_0 : Int) (v2_1 : Nat) (e2 : Rec) (k2 : Int → Nat → Option Bool) : Option Bool :=
  bif decide (e2.ty = 6) then (bif !decide (e2.name = p0.apex) then (i_ZoneOk_j8 p0 v2_0 v2_1 e2 (k2) true) else (bif decide (e2.ty = 5) then (i_ZoneOk_j8 p0 v2_0 v2_1 e2 (k2) (decide (e2.name = p0.apex))) else (i_ZoneOk_j8 p0 v2_0 v2_1 e2 (k2) false))) else (bif decide (e2.ty = 5) then (i_ZoneOk_j8 p0 v2_0 v2_1 e2 (k2) (decide (e2.name = p0.apex))) else (i_ZoneOk_j8 p0 v2_0 v2_1 e2 (k2) false))
def i_ZoneOk_j6 (v5_0 : Nat) (k5 : Nat → Option Bool) (j6_0 : Bool) : Option Bool :=
  bif j6_0 then (some false) else (k5 (v5_0 + 1))
def i_ZoneOk_l5 (p0 : MZone) (v2_0 : Int) (v2_1 : Nat) (e2 : Rec) (k2 : Int → Nat → Option Bool) : List Rec → Nat → Option Bool
  | [], v5_0 => i_ZoneOk_j4 p0 v2_0 v2_1 e2 (k2)
  | e5 :: rs5, v5_0 => bif !decide (e5.name = e2.name) then (i_ZoneOk_l5 p0 v2_0 v2_1 e2 k2 rs5 (v5_0 + 1)) else (bif decide (e5.ty = e2.ty) then (bif !decide (e5.ttl = e2.ttl) then (i_ZoneOk_j6 v5_0 (i_ZoneOk_l5 p0 v2_0 v2_1 e2 k2 rs5) true) else (bif decide (e2.ty = 5) then (i_ZoneOk_j6 v5_0 (i_ZoneOk_l5 p0 v2_0 v2_1 e2 k2 rs5) (!(decide (e5.name = e2.name) && (decide (e5.ty = e2.ty) && (decide (e5.ttl = e2.ttl) && (decide (e5.n = e2.n) && (decide (e5.host = e2.host) && (decide (e5.text = e2.text) && true)))))))) else (i_ZoneOk_j6 v5_0 (i_ZoneOk_l5 p0 v2_0 v2_1 e2 k2 rs5) false))) else (bif decide (e2.ty = 5) then (i_ZoneOk_j6 v5_0 (i_ZoneOk_l5 p0 v2_0 v2_1 e2 k2 rs5) (!(decide (e5.name = e2.name) && (decide (e5.ty = e2.ty) && (decide (e5.ttl = e2.ttl) && (decide (e5.n = e2.n) && (decide (e5.host = e2.host) && (decide (e5.text = e2.text) && true)))))))) else (i_ZoneOk_j6 v5_0 (i_ZoneOk_l5 p0 v2_0 v2_1 e2 k2 rs5) false)))
def i_ZoneOk_j3 (p0 : MZone) (v2_0 : Int) (v2_1 : Nat) (e2 : Rec) (k2 : Int → Nat → Option Bool) (j3_0 : Bool) : Option Bool :=
  bif j3_0 then (some false) else (i_ZoneOk_l5 p0 v2_0 v2_1 e2 (k2) p0.l 0)
def i_ZoneOk_l2 (p0 : MZone) : List Rec → Int → Nat → Option Bool
  | [], v2_0, v2_1 => i_ZoneOk_j1 p0 v2_0
  | e2 :: rs2, v2_0, v2_1 => bnd1 (i_Under e2.name p0.apex) (fun x3 => bif !x3 then (i_ZoneOk_j3 p0 v2_0 v2_1 e2 (i_ZoneOk_l2 p0 rs2) true) else (bif decide (0 < (v2_1 : Int)) then (grd (i64 ((v2_1 : Int) - 1)) (bnd1 (idx p0.l ((v2_1 : Int) - 1)) (fun x8 => bnd1 (i_LessRecord x8 e2) (fun x10 => i_ZoneOk_j3 p0 v2_0 v2_1 e2 (i_ZoneOk_l2 p0 rs2) (!x10))))) else (i_ZoneOk_j3 p0 v2_0 v2_1 e2 (i_ZoneOk_l2 p0 rs2) false)))
def i_ZoneOk_j0 (p0 : MZone) (j0_0 : Bool) : Option Bool :=
  bif j0_0 then (some false) else (i_ZoneOk_l2 p0 p0.l 0 0)
def i_ZoneOk (p0 : MZone) : Option Bool :=
  bnd1 (i_NameOk p0.apex) (fun x1 => bif !x1 then (i_ZoneOk_j0 p0 true) else (bnd1 (i_allOk p0.l 20) (fun x4 => i_ZoneOk_j0 p0 (!x4))))
/- spec.l1In -/
def s_l1In (p0 : Int) (p1 : Int) (p2 : Int) : Option Bool :=
  bif decide (p1 ≤ p0) then (some (decide (p0 ≤ p2))) else (some false)
/- spec.l2Byte -/
def s_l2Byte (p0 : Int) : Option Bool :=
  bnd1 (s_l1In (IntKind.i64.wrap p0) 97 122) (fun x1 => bif x1 then (some true) else (bnd1 (s_l1In (IntKind.i64.wrap p0) 48 57) (fun x4 => bif x4 then (some true) else (bif decide (p0 = 45) then (some true) else (some (decide (p0 = 95)))))))
/- spec.LabelOk -/
def s_LabelOk_j0 (p0 : ByteArray) : Option Bool :=
  bnd1 (s_l1In (p0.size : Int) 1 12) (fun x1 => some x1)
def s_LabelOk_l1 (p0 : ByteArray) : Nat → Int → Option Bool
  | 0, _ => none
  | f1 + 1, v1_0 => bif decide (v1_0 < (p0.size : Int)) then (bnd1 (sidx p0 v1_0) (fun x2 => bnd1 (s_l2Byte x2) (fun x4 => bif !x4 then (some false) else (grd (i64 (v1_0 + 1)) (s_LabelOk_l1 p0 f1 (v1_0 + 1)))))) else (s_LabelOk_j0 p0)
def s_LabelOk (p0 : ByteArray) : Option Bool :=
  s_LabelOk_l1 p0 fuel0 0
/- spec.NameOk -/
def s_NameOk_j0 (p0 : ByteArray) (x1 : List ByteArray) : Option Bool :=
  bif decide ((p0.size : Int) ≤ 50) then (some (decide ((x1.length : Int) ≤ 6))) else (some false)
def s_NameOk_l1 (p0 : ByteArray) (x1 : List ByteArray) : List ByteArray → Nat → Option Bool
  | [], v1_0 => s_NameOk_j0 p0 x1
  | e1 :: rs1, v1_0 => bnd1 (s_LabelOk e1) (fun x4 => bif !x4 then (some false) else (s_NameOk_l1 p0 x1 rs1 (v1_0 + 1)))
def s_NameOk (p0 : ByteArray) : Option Bool :=
  bnd1 (s_Labels p0) (fun x1 => s_NameOk_l1 p0 x1 x1 0)
/- spec.l5Text -/
def s_l5Text_j0 (p0 : ByteArray) : Option Bool :=
  some (decide ((p0.size : Int) ≤ 12))
def s_l5Text_l1 (p0 : ByteArray) : Nat → Int → Option Bool
  | 0, _ => none
  | f1 + 1, v1_0 => bif decide (v1_0 < (p0.size : Int)) then (bnd1 (sidx p0 v1_0) (fun x2 => bnd1 (s_l1In (IntKind.i64.wrap x2) 33 126) (fun x4 => bif !x4 then (some false) else (grd (i64 (v1_0 + 1)) (s_l5Text_l1 p0 f1 (v1_0 + 1)))))) else (s_l5Text_j0 p0)
def s_l5Text (p0 : ByteArray) : Option Bool :=
  s_l5Text_l1 p0 fuel0 0
/- spec.RecordOk -/
def s_RecordOk_j1 (p0 : Rec) (j1_0 : Bool) : Option Bool :=
  bif j1_0 then (bif decide (p0.n = 0) then (bnd1 (s_NameOk p0.host) (fun x9 => bif x9 then (some (decide (p0.text = (⟨#[]⟩ : ByteArray)))) else (some false))) else (some false)) else (bif decide (p0.ty = 6) then (bnd1 (s_l1In p0.n 0 100000) (fun x13 => bif x13 then (bnd1 (s_NameOk p0.host) (fun x16 => bif x16 then (some (decide (p0.text = (⟨#[]⟩ : ByteArray)))) else (some false))) else (some false))) else (bif decide (p0.ty = 16) then (bif decide (p0.n = 0) then (bif decide (p0.host = (⟨#[]⟩ : ByteArray)) then (bnd1 (s_l5Text p0.text) (fun x22 => some x22)) else (some false)) else (some false)) else (some false)))
def s_RecordOk_j0 (p0 : Rec) (j0_0 : Bool) : Option Bool :=
  bif j0_0 then (some false) else (bif decide (p0.ty = 1) then (bnd1 (s_l1In p0.n 0 2147483647) (fun x3 => bif x3 then (bif decide (p0.host = (⟨#[]⟩ : ByteArray)) then (some (decide (p0.text = (⟨#[]⟩ : ByteArray)))) else (some false)) else (some false))) else (bif decide (p0.ty = 2) then (s_RecordOk_j1 p0 (decide (p0.ty = 2))) else (s_RecordOk_j1 p0 (decide (p0.ty = 5)))))
def s_RecordOk (p0 : Rec) : Option Bool :=
  bnd1 (s_NameOk p0.name) (fun x1 => bif !x1 then (s_RecordOk_j0 p0 true) else (bnd1 (s_l1In p0.ttl 0 100000) (fun x4 => s_RecordOk_j0 p0 (!x4))))
/- spec.l10Record -/
def s_l10Record_j4 (p0 : MZone) (x1 : Rec) : Option Bool :=
  bnd2 (s_CutOf p0 x1.name) (fun x5 x6 => bif !x6 then (some true) else (bif decide (x1.ty = 1) then (some true) else (bif decide (x1.ty = 2) then (some (decide (x1.name = x5))) else (some false))))
def s_l10Record_j6 (v5_0 : Nat) (k5 : Nat → Option Bool) (j6_0 : Bool) : Option Bool :=
  bif j6_0 then (some false) else (k5 (v5_0 + 1))
def s_l10Record_l5 (p0 : MZone) (p1 : Int) (x1 : Rec) : List Rec → Nat → Option Bool
  | [], v5_0 => s_l10Record_j4 p0 x1
  | e5 :: rs5, v5_0 => bif decide (x1.ty = 5) then (bif !decide ((v5_0 : Int) = p1) then (s_l10Record_j6 v5_0 (s_l10Record_l5 p0 p1 x1 rs5) (decide (e5.name = x1.name))) else (s_l10Record_j6 v5_0 (s_l10Record_l5 p0 p1 x1 rs5) false)) else (s_l10Record_j6 v5_0 (s_l10Record_l5 p0 p1 x1 rs5) false)
def s_l10Record_j3 (p0 : MZone) (p1 : Int) (x1 : Rec) (j3_0 : Bool) : Option Bool :=
  bif j3_0 then (some false) else (s_l10Record_l5 p0 p1 x1 p0.l 0)
def s_l10Record_j1 (p0 : MZone) (p1 : Int) (x1 : Rec) : Option Bool :=
  bif decide (x1.ty = 6) then (bif !decide (x1.name = p0.apex) then (s_l10Record_j3 p0 p1 x1 true) else (bif decide (x1.ty = 5) then (s_l10Record_j3 p0 p1 x1 (decide (x1.name = p0.apex))) else (s_l10Record_j3 p0 p1 x1 false))) else (bif decide (x1.ty = 5) then (s_l10Record_j3 p0 p1 x1 (decide (x1.name = p0.apex))) else (s_l10Record_j3 p0 p1 x1 false))
def s_l10Record_j2 (p0 : MZone) (p1 : Int) (x1 : Rec) (j2_0 : Bool) : Option Bool :=
  bif j2_0 then (some false) else (s_l10Record_j1 p0 p1 x1)
def s_l10Record_j0 (p0 : MZone) (p1 : Int) (x1 : Rec) (j0_0 : Bool) : Option Bool :=
  bif j0_0 then (some false) else (bif decide (0 < p1) then (grd (i64 (p1 - 1)) (bnd1 (idx p0.l (p1 - 1)) (fun x6 => bnd1 (s_LessRecord x6 x1) (fun x8 => bif !x8 then (s_l10Record_j2 p0 p1 x1 true) else (bif decide (x6.name = x1.name) then (bif decide (x6.ty = x1.ty) then (s_l10Record_j2 p0 p1 x1 (!decide (x6.ttl = x1.ttl))) else (s_l10Record_j2 p0 p1 x1 false)) else (s_l10Record_j2 p0 p1 x1 false)))))) else (s_l10Record_j1 p0 p1 x1))
def s_l10Record (p0 : MZone) (p1 : Int) : Option Bool :=
  bnd1 (idx p0.l p1) (fun x1 => bnd1 (s_RecordOk x1) (fun x3 => bif !x3 then (s_l10Record_j0 p0 p1 x1 true) else (bnd1 (s_Under x1.name p0.apex) (fun x6 => s_l10Record_j0 p0 p1 x1 (!x6)))))
/- spec.ZoneOk -/
def s_ZoneOk_j1  (j1_0 : Int) (j1_1 : Int) : Option Bool :=
  bif decide (j1_0 = 1) then (some (decide (0 < j1_1))) else (some false)
def s_ZoneOk_j4 (v2_1 : Int) (v2_2 : Nat) (j3_0 : Int) (k2 : Int → Int → Nat → Option Bool) (j4_0 : Bool) : Option Bool :=
  bif j4_0 then (grd (i64 (v2_1 + 1)) (k2 j3_0 (v2_1 + 1) (v2_2 + 1))) else (k2 j3_0 v2_1 (v2_2 + 1))
def s_ZoneOk_j3 (p0 : MZone) (v2_1 : Int) (v2_2 : Nat) (e2 : Rec) (k2 : Int → Int → Nat → Option Bool) (j3_0 : Int) : Option Bool :=
  bif decide (e2.ty = 2) then (s_ZoneOk_j4 v2_1 v2_2 j3_0 (k2) (decide (e2.name = p0.apex))) else (s_ZoneOk_j4 v2_1 v2_2 j3_0 (k2) false)
def s_ZoneOk_l2 (p0 : MZone) : List Rec → Int → Int → Nat → Option Bool
  | [], v2_0, v2_1, v2_2 => s_ZoneOk_j1 v2_0 v2_1
  | e2 :: rs2, v2_0, v2_1, v2_2 => bnd1 (s_l10Record p0 (v2_2 : Int)) (fun x3 => bif !x3 then (some false) else (bif decide (e2.ty = 6) then (grd (i64 (v2_0 + 1)) (s_ZoneOk_j3 p0 v2_1 v2_2 e2 (s_ZoneOk_l2 p0 rs2) (v2_0 + 1))) else (s_ZoneOk_j3 p0 v2_1 v2_2 e2 (s_ZoneOk_l2 p0 rs2) v2_0)))
def s_ZoneOk_j0 (p0 : MZone) (j0_0 : Bool) : Option Bool :=
  bif j0_0 then (some false) else (s_ZoneOk_l2 p0 p0.l 0 0 0)
def s_ZoneOk (p0 : MZone) : Option Bool :=
  bnd1 (s_NameOk p0.apex) (fun x1 => bif !x1 then (s_ZoneOk_j0 p0 true) else (s_ZoneOk_j0 p0 (decide (20 < (p0.l.length : Int)))))
/- impl.Exists$1 -/
def i_Exists_1 (p0 : Rec) (p1 : ByteArray) : Option Bool :=
  bnd1 (i_Under p0.name p1) (fun x1 => some x1)
/- impl.Exists -/
def i_Exists (p0 : MZone) (p1 : ByteArray) : Option Bool :=
  bnd1 (slices_ContainsFunc_Record p0.l (fun a0 => i_Exists_1 a0 p1)) (fun x1 => some x1)
/- spec.Exists -/
def s_Exists_l0 (p1 : ByteArray) : List Rec → Nat → Option Bool
  | [], v0_0 => some false
  | e0 :: rs0, v0_0 => bnd1 (s_Under e0.name p1) (fun x2 => bif x2 then (some true) else (s_Exists_l0 p1 rs0 (v0_0 + 1)))
def s_Exists (p0 : MZone) (p1 : ByteArray) : Option Bool :=
  s_Exists_l0 p1 p0.l 0
/- impl.Glue -/
def i_Glue_l0 (p0 : MZone) : List ByteArray → (List Rec) → Nat → Option (List Rec)
  | [], v0_0, v0_1 => some v0_0
  | e0 :: rs0, v0_0, v0_1 => bnd1 (i_SetOf p0.l e0 1) (fun x2 => grd ((v0_0 ++ x2).length ≤ 1099511627776) (i_Glue_l0 p0 rs0 (v0_0 ++ x2) (v0_1 + 1)))
def i_Glue (p0 : MZone) (p1 : List ByteArray) : Option (List Rec) :=
  i_Glue_l0 p0 p1 ([] : List Rec) 0
/- spec.SetOf -/
def s_SetOf_j1 (v0_0 : List Rec) (v0_1 : Nat) (e0 : Rec) (k0 : (List Rec) → Nat → Option (List Rec)) (j1_0 : Bool) : Option (List Rec) :=
  bif j1_0 then (grd ((v0_0 ++ [e0]).length ≤ 1099511627776) (k0 (v0_0 ++ [e0]) (v0_1 + 1))) else (k0 v0_0 (v0_1 + 1))
def s_SetOf_l0 (p1 : ByteArray) (p2 : Int) : List Rec → (List Rec) → Nat → Option (List Rec)
  | [], v0_0, v0_1 => some v0_0
  | e0 :: rs0, v0_0, v0_1 => bif decide (e0.name = p1) then (s_SetOf_j1 v0_0 v0_1 e0 (s_SetOf_l0 p1 p2 rs0) (decide (e0.ty = p2))) else (s_SetOf_j1 v0_0 v0_1 e0 (s_SetOf_l0 p1 p2 rs0) false)
def s_SetOf (p0 : List Rec) (p1 : ByteArray) (p2 : Int) : Option (List Rec) :=
  s_SetOf_l0 p1 p2 p0 ([] : List Rec) 0
/- spec.Glue -/
def s_Glue_l0 (p0 : MZone) : List ByteArray → (List Rec) → Nat → Option (List Rec)
  | [], v0_0, v0_1 => some v0_0
  | e0 :: rs0, v0_0, v0_1 => bnd1 (s_SetOf p0.l e0 1) (fun x2 => grd ((v0_0 ++ x2).length ≤ 1099511627776) (s_Glue_l0 p0 rs0 (v0_0 ++ x2) (v0_1 + 1)))
def s_Glue (p0 : MZone) (p1 : List ByteArray) : Option (List Rec) :=
  s_Glue_l0 p0 p1 ([] : List Rec) 0
/- laws.sameRecs -/
def w_sameRecs_l0 (p1 : List Rec) : List Rec → Nat → Option Bool
  | [], v0_0 => some true
  | e0 :: rs0, v0_0 => bnd1 (idx p1 (v0_0 : Int)) (fun x3 => bif !(decide (e0.name = x3.name) && (decide (e0.ty = x3.ty) && (decide (e0.ttl = x3.ttl) && (decide (e0.n = x3.n) && (decide (e0.host = x3.host) && (decide (e0.text = x3.text) && true)))))) then (some false) else (w_sameRecs_l0 p1 rs0 (v0_0 + 1)))
def w_sameRecs (p0 : List Rec) (p1 : List Rec) : Option Bool :=
  bif !decide ((p0.length : Int) = (p1.length : Int)) then (some false) else (w_sameRecs_l0 p1 p0 0)
/- laws.sameStrs -/
def w_sameStrs_l0 (p1 : List ByteArray) : List ByteArray → Nat → Option Bool
  | [], v0_0 => some true
  | e0 :: rs0, v0_0 => bnd1 (idx p1 (v0_0 : Int)) (fun x3 => bif !decide (e0 = x3) then (some false) else (w_sameStrs_l0 p1 rs0 (v0_0 + 1)))
def w_sameStrs (p0 : List ByteArray) (p1 : List ByteArray) : Option Bool :=
  bif !decide ((p0.length : Int) = (p1.length : Int)) then (some false) else (w_sameStrs_l0 p1 p0 0)
/- impl.InZone -/
def i_InZone (p0 : MZone) (p1 : ByteArray) : Option Bool :=
  bnd2 (i_CutOf p0 p1) (fun x1 x2 => bnd1 (i_Under p1 p0.apex) (fun x4 => bif x4 then (some (!x2)) else (some false)))
/- spec.InZone -/
def s_InZone (p0 : MZone) (p1 : ByteArray) : Option Bool :=
  bnd2 (s_CutOf p0 p1) (fun x1 x2 => bnd1 (s_Under p1 p0.apex) (fun x4 => bif x4 then (some (!x2)) else (some false)))
/- laws.FnZonesBent -/
def w_FnZonesBent_j0 (x4 : MZone) (j0_0 : Bool) : Option Bool :=
  bif j0_0 then (some false) else (bnd1 (i_ZoneOk x4) (fun x22 => bif !x22 then (some true) else (bif decide (2 ≤ (x4.l.length : Int)) then (some (decide ((x4.l.length : Int) ≤ 20))) else (some false))))
def w_FnZonesBent (p0 : List Int) : Option Bool :=
  bnd1 (w_big p0) (fun x1 => bif x1 then (some true) else (bnd1 (s_DrawZoneOk p0) (fun x4 => bnd2 (s_DrawCutOf p0) (fun x6 x7 => bnd2 (i_CutOf x6 x7) (fun x9 x10 => bnd2 (s_CutOf x6 x7) (fun x12 x13 => bnd2 (s_DrawExists p0) (fun x15 x16 => bnd2 (s_DrawGlue p0) (fun x18 x19 => bnd1 (i_ZoneOk x4) (fun x21 => bnd1 (s_ZoneOk x4) (fun x23 => bif !(x21 == x23) then (w_FnZonesBent_j0 x4 true) else (bif !decide (x9 = x12) then (w_FnZonesBent_j0 x4 true) else (bif !(x10 == x13) then (w_FnZonesBent_j0 x4 true) else (bnd1 (i_Exists x15 x16) (fun x28 => bnd1 (s_Exists x15 x16) (fun x30 => bif !(x28 == x30) then (w_FnZonesBent_j0 x4 true) else (bnd1 (i_Glue x18 x19) (fun x33 => bnd1 (s_Glue x18 x19) (fun x35 => bnd1 (w_sameRecs x33 x35) (fun x37 => bif !x37 then (w_FnZonesBent_j0 x4 true) else (bnd1 (i_CutsOf x4) (fun x40 => bnd1 (s_CutsOf x4) (fun x42 => bnd1 (w_sameStrs x40 x42) (fun x44 => bif !x44 then (w_FnZonesBent_j0 x4 true) else (bnd1 (i_InZone x15 x16) (fun x47 => bnd1 (s_InZone x15 x16) (fun x49 => w_FnZonesBent_j0 x4 (!(x47 == x49))))))))))))))))))))))))))))
end Go.Abs.M
