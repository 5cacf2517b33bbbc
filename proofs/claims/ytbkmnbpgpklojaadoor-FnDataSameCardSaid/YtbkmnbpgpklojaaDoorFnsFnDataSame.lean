/- The functions that the law of FnDataSame reaches, as pure functions that may fail. -/
import Derived.Test.YtbkmnbpgpklojaaDoorAbsA37
namespace Go.Abs.M
open Go Go.Abs
structure Cur where
  b : List Int
  i : Int
  h : Int
  deriving DecidableEq
def curV (r : Cur) : List V := [.lst 1 (List.map byteV r.b), .sc (.int .i64 r.i), .sc (.int .i64 r.h)]
theorem curV_free (r : Cur) : (curV r).all (·.free) = true := rfl
theorem curV_len (r : Cur) : (curV r).length = 3 := rfl
def Cur.ok (r : Cur) : Prop := (r.b.length ≤ 9223372036854775807 ∧ ∀ q, q ∈ r.b → True) ∧ i64 r.i ∧ i64 r.h
structure Rec where
  name : ByteArray
  ty : Int
  ttl : Int
  n : Int
  host : ByteArray
  text : ByteArray
  deriving DecidableEq
def recV (r : Rec) : List V := [.sc (.string r.name), .sc (.int .i64 r.ty), .sc (.int .i64 r.ttl), .sc (.int .i64 r.n), .sc (.string r.host), .sc (.string r.text)]
theorem recV_free (r : Rec) : (recV r).all (·.free) = true := rfl
theorem recV_len (r : Rec) : (recV r).length = 6 := rfl
def Rec.ok (r : Rec) : Prop := r.name.size ≤ 9223372036854775807 ∧ i64 r.ty ∧ i64 r.ttl ∧ i64 r.n ∧ r.host.size ≤ 9223372036854775807 ∧ r.text.size ≤ 9223372036854775807
theorem recV_sc (r : Rec) : (recV r).all isScN = true := rfl
/- laws.big -/
def w_big (p0 : List Int) : Option Bool :=
  some (decide (1048576 < (p0.length : Int)))
/- spec.l1New -/
def s_l1New_j0 (p0 : List Int) (j0_0 : Int) : Option Cur :=
  some (Cur.mk p0 0 j0_0)
def s_l1New_j2 (p0 : List Int) (v1_0 : Int) (v1_1 : Int) (k1 : Int → Int → Option Cur) (j2_0 : Bool) : Option Cur :=
  bif j2_0 then (bnd1 (idx p0 v1_1) (fun x2 => k1 (iand .i64 (IntKind.i64.wrap ((IntKind.i64.wrap ((IntKind.i64.wrap (v1_0 * 137)) + (IntKind.i64.wrap x2))) + 11)) 1073741823) (IntKind.i64.wrap (v1_1 + 1)))) else (s_l1New_j0 p0 v1_0)
def s_l1New_l1 (p0 : List Int) : Nat → Int → Int → Option Cur
  | 0, _, _ => none
  | f1 + 1, v1_0, v1_1 => bif decide (v1_1 < (p0.length : Int)) then (s_l1New_j2 p0 v1_0 v1_1 (s_l1New_l1 p0 f1) (decide (v1_1 < 4000))) else (s_l1New_j2 p0 v1_0 v1_1 (s_l1New_l1 p0 f1) false)
def s_l1New (p0 : List Int) : Option Cur :=
  s_l1New_l1 p0 fuel0 (IntKind.i64.wrap (160909 + (p0.length : Int))) 0
/- spec.l1Byte -/
def s_l1Byte (p0 : Cur) : Option (Int × Cur) :=
  bif decide (p0.i < (p0.b.length : Int)) then (bnd1 (idx p0.b p0.i) (fun x2 => some ((iand .i64 (IntKind.i64.wrap ((iand .i64 (ixor .i64 (ishr .i64 (IntKind.i64.wrap ((IntKind.i64.wrap (p0.h * 6364136223846793005)) + 1442695040888963407)) 33) (ishr .i64 (IntKind.i64.wrap ((IntKind.i64.wrap (p0.h * 6364136223846793005)) + 1442695040888963407)) 47)) 255) + (IntKind.i64.wrap x2))) 255), Cur.mk p0.b (IntKind.i64.wrap (p0.i + 1)) (IntKind.i64.wrap ((IntKind.i64.wrap (p0.h * 6364136223846793005)) + 1442695040888963407))))) else (some ((iand .i64 (ixor .i64 (ishr .i64 (IntKind.i64.wrap ((IntKind.i64.wrap (p0.h * 6364136223846793005)) + 1442695040888963407)) 33) (ishr .i64 (IntKind.i64.wrap ((IntKind.i64.wrap (p0.h * 6364136223846793005)) + 1442695040888963407)) 47)) 255), Cur.mk p0.b p0.i (IntKind.i64.wrap ((IntKind.i64.wrap (p0.h * 6364136223846793005)) + 1442695040888963407))))
/- spec.l1Below -/
def s_l1Below (p0 : Cur) (p1 : Int) : Option (Int × Cur) :=
  bif decide (p1 ≤ 0) then (some (0, p0)) else (bif decide (p1 ≤ 256) then (bnd2 (s_l1Byte p0) (fun x3 x4 => grd (p1 ≠ 0) (some ((Int.tmod x3 p1), x4)))) else (bnd2 (s_l1Byte p0) (fun x7 x8 => bnd2 (s_l1Byte x8) (fun x10 x11 => bnd2 (s_l1Byte x11) (fun x13 x14 => grd (i64 (x7 * 65536)) (grd (i64 (x10 * 256)) (grd (i64 ((x7 * 65536) + (x10 * 256))) (grd (i64 (((x7 * 65536) + (x10 * 256)) + x13)) (grd (p1 ≠ 0) (some ((Int.tmod (((x7 * 65536) + (x10 * 256)) + x13) p1), x14)))))))))))
/- spec.l1Str -/
def s_l1Str (p0 : Cur) (p1 : List ByteArray) : Option (ByteArray × Cur) :=
  bnd2 (s_l1Below p0 (p1.length : Int)) (fun x1 x2 => bnd1 (idx p1 x1) (fun x4 => some (x4, x2)))
/- spec.l3Name -/
def s_l3Name (p0 : Cur) : Option (ByteArray × Cur) :=
  bnd2 (s_l1Str p0 ([(⟨#[]⟩ : ByteArray), (⟨#[99, 111, 109]⟩ : ByteArray), (⟨#[101, 120, 46, 99, 111, 109]⟩ : ByteArray), (⟨#[119, 119, 119, 46, 101, 120, 46, 99, 111, 109]⟩ : ByteArray), (⟨#[110, 115, 46, 101, 120, 46, 99, 111, 109]⟩ : ByteArray), (⟨#[111, 114, 103]⟩ : ByteArray), (⟨#[97, 46, 111, 114, 103]⟩ : ByteArray), (⟨#[98, 46, 97, 46, 111, 114, 103]⟩ : ByteArray), (⟨#[110, 115, 49, 46, 111, 114, 103]⟩ : ByteArray), (⟨#[120, 46, 121, 46, 122, 46, 101, 120, 46, 99, 111, 109]⟩ : ByteArray)])) (fun x1 x2 => some (x1, x2))
/- spec.l1Int -/
def s_l1Int (p0 : Cur) (p1 : List Int) : Option (Int × Cur) :=
  bnd2 (s_l1Below p0 (p1.length : Int)) (fun x1 x2 => bnd1 (idx p1 x1) (fun x4 => some (x4, x2)))
/- spec.l5Type -/
def s_l5Type (p0 : Cur) : Option (Int × Cur) :=
  bnd2 (s_l1Int p0 [1, 1, 1, 2, 2, 5, 6, 16]) (fun x1 x2 => some (x1, x2))
/- spec.l5Draw -/
def s_l5Draw_j0 (x1 : ByteArray) (x4 : Int) (x7 : Int) (x8 : Cur) (j0_0 : Bool) : Option (Rec × Cur) :=
  bif j0_0 then (bnd2 (s_l3Name x8) (fun x16 x17 => some ((Rec.mk x1 x4 x7 0 x16 (⟨#[]⟩ : ByteArray)), x17))) else (bif decide (x4 = 6) then (bnd2 (s_l3Name x8) (fun x20 x21 => bnd2 (s_l1Int x21 [0, 5, 60]) (fun x23 x24 => some ((Rec.mk x1 x4 x7 x23 x20 (⟨#[]⟩ : ByteArray)), x24)))) else (bif decide (x4 = 16) then (bnd2 (s_l1Str x8 ([(⟨#[]⟩ : ByteArray), (⟨#[104, 105]⟩ : ByteArray), (⟨#[116, 119, 101, 108, 118, 101, 98, 121, 116, 101, 115, 33]⟩ : ByteArray)])) (fun x27 x28 => some ((Rec.mk x1 x4 x7 0 (⟨#[]⟩ : ByteArray) x27), x28))) else (some ((Rec.mk x1 x4 x7 0 (⟨#[]⟩ : ByteArray) (⟨#[]⟩ : ByteArray)), x8))))
def s_l5Draw (p0 : Cur) : Option (Rec × Cur) :=
  bnd2 (s_l3Name p0) (fun x1 x2 => bnd2 (s_l5Type x2) (fun x4 x5 => bnd2 (s_l1Int x5 [0, 1, 5, 60, 300, 100000]) (fun x7 x8 => bif decide (x4 = 1) then (bnd2 (s_l1Below x8 9) (fun x11 x12 => grd (i64 (1 + x11)) (some ((Rec.mk x1 x4 x7 (1 + x11) (⟨#[]⟩ : ByteArray) (⟨#[]⟩ : ByteArray)), x12)))) else (bif decide (x4 = 2) then (s_l5Draw_j0 x1 x4 x7 x8 (decide (x4 = 2))) else (s_l5Draw_j0 x1 x4 x7 x8 (decide (x4 = 5)))))))
/- spec.l1Once -/
def s_l1Once (p0 : Cur) (p1 : Int) : Option (Bool × Cur) :=
  bnd2 (s_l1Below p0 p1) (fun x1 x2 => some ((decide (x1 = 0)), x2))
/- spec.l9Near -/
def s_l9Near_j1 (v0_3 : List Rec) (v0_4 : Int) (x5 : Rec) (x8 : ByteArray) (k0 : (List Int) → Int → Int → (List Rec) → Int → Option ((List Rec) × Cur)) (j1_0 : List Int) (j1_1 : Int) (j1_2 : Int) (j1_3 : Int) (j1_4 : Int) (j1_5 : ByteArray) (j1_6 : ByteArray) : Option ((List Rec) × Cur) :=
  grd ((v0_3 ++ [Rec.mk x8 j1_3 x5.ttl j1_4 j1_5 j1_6]).length ≤ 1099511627776) (grd (i64 (v0_4 - 1)) (k0 j1_0 j1_1 j1_2 (v0_3 ++ [Rec.mk x8 j1_3 x5.ttl j1_4 j1_5 j1_6]) (v0_4 - 1)))
def s_l9Near_l0  : Nat → (List Int) → Int → Int → (List Rec) → Int → Option ((List Rec) × Cur)
  | 0, _, _, _, _, _ => none
  | f0 + 1, v0_0, v0_1, v0_2, v0_3, v0_4 => bif decide (0 < v0_4) then (bnd2 (s_l5Draw (Cur.mk v0_0 v0_1 v0_2)) (fun x5 x6 => bnd2 (s_l1Str x6 ([(⟨#[101, 120, 46, 99, 111, 109]⟩ : ByteArray), (⟨#[110, 115, 46, 101, 120, 46, 99, 111, 109]⟩ : ByteArray)])) (fun x8 x9 => bnd2 (s_l1Once x9 2) (fun x11 x12 => bif x11 then (bnd2 (s_l1Below x12 3) (fun x15 x16 => s_l9Near_j1 v0_3 v0_4 x5 x8 (s_l9Near_l0 f0) x16.b x16.i x16.h 1 x15 (⟨#[]⟩ : ByteArray) (⟨#[]⟩ : ByteArray))) else (s_l9Near_j1 v0_3 v0_4 x5 x8 (s_l9Near_l0 f0) x12.b x12.i x12.h x5.ty x5.n x5.host x5.text))))) else (some (v0_3, Cur.mk v0_0 v0_1 v0_2))
def s_l9Near (p0 : Cur) : Option ((List Rec) × Cur) :=
  bnd2 (s_l1Below p0 6) (fun x1 x2 => s_l9Near_l0 fuel0 x2.b x2.i x2.h ([] : List Rec) x1)
/- spec.Labels -/
def s_Labels_j2 (p0 : ByteArray) (v0_0 : List ByteArray) (v0_1 : Int) (v0_2 : Int) (k0 : (List ByteArray) → Int → Int → Option (List ByteArray)) (j2_0 : Bool) : Option (List ByteArray) :=
  bif j2_0 then (grd (0 ≤ v0_1 ∧ v0_1 ≤ v0_2 ∧ v0_2 ≤ (p0.size : Int)) (grd ((v0_0 ++ [p0.extract v0_1.toNat v0_2.toNat]).length ≤ 1099511627776) (grd (i64 (v0_2 + 1)) (grd (i64 (v0_2 + 1)) (k0 (v0_0 ++ [p0.extract v0_1.toNat v0_2.toNat]) (v0_2 + 1) (v0_2 + 1)))))) else (grd (i64 (v0_2 + 1)) (k0 v0_0 v0_1 (v0_2 + 1)))
def s_Labels_j1 (p0 : ByteArray) (v0_0 : List ByteArray) (v0_1 : Int) (v0_2 : Int) (k0 : (List ByteArray) → Int → Int → Option (List ByteArray)) (j1_0 : Bool) : Option (List ByteArray) :=
  bif j1_0 then (bif decide (v0_2 = (p0.size : Int)) then (s_Labels_j2 p0 v0_0 v0_1 v0_2 (k0) true) else (bnd1 (sidx p0 v0_2) (fun x3 => s_Labels_j2 p0 v0_0 v0_1 v0_2 (k0) (decide (x3 = 46))))) else (some v0_0)
def s_Labels_l0 (p0 : ByteArray) : Nat → (List ByteArray) → Int → Int → Option (List ByteArray)
  | 0, _, _, _ => none
  | f0 + 1, v0_0, v0_1, v0_2 => bif decide (v0_2 ≤ (p0.size : Int)) then (s_Labels_j1 p0 v0_0 v0_1 v0_2 (s_Labels_l0 p0 f0) (!decide (p0 = (⟨#[]⟩ : ByteArray)))) else (s_Labels_j1 p0 v0_0 v0_1 v0_2 (s_Labels_l0 p0 f0) false)
def s_Labels (p0 : ByteArray) : Option (List ByteArray) :=
  s_Labels_l0 p0 fuel0 ([] : List ByteArray) 0 0
/- spec.LessName -/
def s_LessName_j0 (x1 : List ByteArray) (x3 : List ByteArray) : Option Bool :=
  some (decide ((x1.length : Int) < (x3.length : Int)))
def s_LessName_j2 (x1 : List ByteArray) (x3 : List ByteArray) (v1_0 : Int) (k1 : Int → Option Bool) (j2_0 : Bool) : Option Bool :=
  bif j2_0 then (grd (i64 ((x1.length : Int) - v1_0)) (bnd1 (idx x1 ((x1.length : Int) - v1_0)) (fun x7 => grd (i64 ((x3.length : Int) - v1_0)) (bnd1 (idx x3 ((x3.length : Int) - v1_0)) (fun x10 => bif !decide (x7 = x10) then (some (Op.bytesLess x7.toList x10.toList)) else (grd (i64 (v1_0 + 1)) (k1 (v1_0 + 1)))))))) else (s_LessName_j0 x1 x3)
def s_LessName_l1 (x1 : List ByteArray) (x3 : List ByteArray) : Nat → Int → Option Bool
  | 0, _ => none
  | f1 + 1, v1_0 => bif decide (v1_0 ≤ (x1.length : Int)) then (s_LessName_j2 x1 x3 v1_0 (s_LessName_l1 x1 x3 f1) (decide (v1_0 ≤ (x3.length : Int)))) else (s_LessName_j2 x1 x3 v1_0 (s_LessName_l1 x1 x3 f1) false)
def s_LessName (p0 : ByteArray) (p1 : ByteArray) : Option Bool :=
  bnd1 (s_Labels p0) (fun x1 => bnd1 (s_Labels p1) (fun x3 => s_LessName_l1 x1 x3 fuel0 1))
/- spec.LessRecord -/
def s_LessRecord (p0 : Rec) (p1 : Rec) : Option Bool :=
  bif !decide (p0.name = p1.name) then (bnd1 (s_LessName p0.name p1.name) (fun x2 => some x2)) else (bif !decide (p0.ty = p1.ty) then (some (decide (p0.ty < p1.ty))) else (bif !decide (p0.n = p1.n) then (some (decide (p0.n < p1.n))) else (bif !decide (p0.host = p1.host) then (bnd1 (s_LessName p0.host p1.host) (fun x7 => some x7)) else (bif !decide (p0.text = p1.text) then (some (Op.bytesLess p0.text.toList p1.text.toList)) else (some (decide (p0.ttl < p1.ttl)))))))
/- spec.SortRecords -/
def s_SortRecords_j1 (v0_0 : List Rec) (v0_1 : Nat) (e0 : Rec) (k0 : (List Rec) → Nat → Option (List Rec)) (j1_0 : Int) : Option (List Rec) :=
  grd ((0 : Int) ≤ ((0 : Nat) : Int) ∧ ((0 : Nat) : Int) ≤ j1_0 ∧ j1_0 ≤ (v0_0.length : Int)) (grd ((([] : List Rec) ++ ((v0_0.drop (0 + ((0 : Nat) : Int).toNat)).take (j1_0.toNat - ((0 : Nat) : Int).toNat))).length ≤ 1099511627776) (grd (((([] : List Rec) ++ ((v0_0.drop (0 + ((0 : Nat) : Int).toNat)).take (j1_0.toNat - ((0 : Nat) : Int).toNat))) ++ [e0]).length ≤ 1099511627776) (grd ((0 : Int) ≤ j1_0 ∧ j1_0 ≤ (v0_0.length : Int) ∧ (v0_0.length : Int) ≤ (v0_0.length : Int)) (grd ((((([] : List Rec) ++ ((v0_0.drop (0 + ((0 : Nat) : Int).toNat)).take (j1_0.toNat - ((0 : Nat) : Int).toNat))) ++ [e0]) ++ ((v0_0.drop (0 + j1_0.toNat)).take ((v0_0.length : Int).toNat - j1_0.toNat))).length ≤ 1099511627776) (k0 (((([] : List Rec) ++ ((v0_0.drop (0 + ((0 : Nat) : Int).toNat)).take (j1_0.toNat - ((0 : Nat) : Int).toNat))) ++ [e0]) ++ ((v0_0.drop (0 + j1_0.toNat)).take ((v0_0.length : Int).toNat - j1_0.toNat))) (v0_1 + 1))))))
def s_SortRecords_j3 (v0_0 : List Rec) (v0_1 : Nat) (e0 : Rec) (v2_0 : Int) (k0 : (List Rec) → Nat → Option (List Rec)) (k2 : Int → Option (List Rec)) (j3_0 : Bool) : Option (List Rec) :=
  bif j3_0 then (grd (i64 (v2_0 - 1)) (k2 (v2_0 - 1))) else (s_SortRecords_j1 v0_0 v0_1 e0 (k0) v2_0)
def s_SortRecords_l2 (v0_0 : List Rec) (v0_1 : Nat) (e0 : Rec) (k0 : (List Rec) → Nat → Option (List Rec)) : Nat → Int → Option (List Rec)
  | 0, _ => none
  | f2 + 1, v2_0 => bif decide (0 < v2_0) then (grd (i64 (v2_0 - 1)) (bnd1 (idx v0_0 (v2_0 - 1)) (fun x4 => bnd1 (s_LessRecord e0 x4) (fun x6 => s_SortRecords_j3 v0_0 v0_1 e0 v2_0 (k0) (s_SortRecords_l2 v0_0 v0_1 e0 k0 f2) x6)))) else (s_SortRecords_j3 v0_0 v0_1 e0 v2_0 (k0) (s_SortRecords_l2 v0_0 v0_1 e0 k0 f2) false)
def s_SortRecords_l0  : List Rec → (List Rec) → Nat → Option (List Rec)
  | [], v0_0, v0_1 => some v0_0
  | e0 :: rs0, v0_0, v0_1 => s_SortRecords_l2 v0_0 v0_1 e0 (s_SortRecords_l0 rs0) fuel0 (v0_0.length : Int)
def s_SortRecords (p0 : List Rec) : Option (List Rec) :=
  s_SortRecords_l0 p0 ([] : List Rec) 0
/- spec.l7Copy -/
def s_l7Copy (p0 : List Rec) : Option (List Rec) :=
  grd ((([] : List Rec) ++ p0).length ≤ 1099511627776) (some (([] : List Rec) ++ p0))
/- spec.WithTtl -/
def s_WithTtl_l0 (p1 : Int) : Nat → (List Rec) → Int → Option (List Rec)
  | 0, _, _ => none
  | f0 + 1, v0_0, v0_1 => bif decide (v0_1 < (v0_0.length : Int)) then (bnd1 (idx v0_0 v0_1) (fun x4 => grd (i64 (v0_1 + 1)) (s_WithTtl_l0 p1 f0 (v0_0.set v0_1.toNat (Rec.mk x4.name x4.ty p1 x4.n x4.host x4.text)) (v0_1 + 1)))) else (some v0_0)
def s_WithTtl (p0 : List Rec) (p1 : Int) : Option (List Rec) :=
  bnd1 (s_l7Copy p0) (fun x1 => s_WithTtl_l0 p1 fuel0 x1 0)
/- spec.DrawSameData -/
def s_DrawSameData_j0 (x3 : List Rec) (x15 : List Rec) (j0_0 : Bool) : Option ((List Rec) × (List Rec)) :=
  bif j0_0 then (grd ((0 : Int) ≤ 1 ∧ 1 ≤ (x15.length : Int) ∧ (x15.length : Int) ≤ (x15.length : Int)) (some (x3, ((x15.drop (0 + (1 : Int).toNat)).take ((x15.length : Int).toNat - (1 : Int).toNat))))) else (some (x3, x15))
def s_DrawSameData (p0 : List Int) : Option ((List Rec) × (List Rec)) :=
  bnd1 (s_l1New p0) (fun x1 => bnd2 (s_l9Near x1) (fun x3 x4 => bnd2 (s_l1Once x4 2) (fun x6 x7 => bif x6 then (bnd1 (s_SortRecords x3) (fun x10 => bnd2 (s_l1Below x7 9) (fun x12 x13 => bnd1 (s_WithTtl x10 x12) (fun x15 => bif decide (0 < (x15.length : Int)) then (bnd2 (s_l1Once x13 3) (fun x18 x19 => s_DrawSameData_j0 x3 x15 x18)) else (s_DrawSameData_j0 x3 x15 false))))) else (bnd2 (s_l9Near x7) (fun x21 x22 => some (x3, x21))))))
/- spec.l5List -/
def s_l5List_l0  : Nat → (List Int) → Int → Int → (List Rec) → Int → Option ((List Rec) × Cur)
  | 0, _, _, _, _, _ => none
  | f0 + 1, v0_0, v0_1, v0_2, v0_3, v0_4 => bif decide (0 < v0_4) then (bnd2 (s_l5Draw (Cur.mk v0_0 v0_1 v0_2)) (fun x6 x7 => grd ((v0_3 ++ [x6]).length ≤ 1099511627776) (grd (i64 (v0_4 - 1)) (s_l5List_l0 f0 x7.b x7.i x7.h (v0_3 ++ [x6]) (v0_4 - 1))))) else (some (v0_3, Cur.mk v0_0 v0_1 v0_2))
def s_l5List (p0 : Cur) (p1 : Int) : Option ((List Rec) × Cur) :=
  grd (i64 (p1 + 1)) (bnd2 (s_l1Below p0 (p1 + 1)) (fun x2 x3 => s_l5List_l0 fuel0 x3.b x3.i x3.h ([] : List Rec) x2))
/- spec.DrawHosts -/
def s_DrawHosts (p0 : List Int) : Option (List Rec) :=
  bnd1 (s_l1New p0) (fun x1 => bnd2 (s_l5List x1 6) (fun x3 x4 => some x3))
/- spec.DrawAddrs -/
def s_DrawAddrs (p0 : List Int) : Option ((List Rec) × ByteArray) :=
  bnd1 (s_l1New p0) (fun x1 => bnd2 (s_l9Near x1) (fun x3 x4 => bnd2 (s_l1Str x4 ([(⟨#[101, 120, 46, 99, 111, 109]⟩ : ByteArray), (⟨#[110, 115, 46, 101, 120, 46, 99, 111, 109]⟩ : ByteArray), (⟨#[99, 111, 109]⟩ : ByteArray)])) (fun x6 x7 => some (x3, x6))))
/- impl.Record] -/
def slices_Clone_Record (p0 : List Rec) : Option (List Rec) :=
  grd ((([] : List Rec) ++ p0).length ≤ 1099511627776) (some (([] : List Rec) ++ p0))
/- impl.WithTtl -/
def i_WithTtl_l0 (p1 : Int) : List Rec → (List Rec) → Nat → Option (List Rec)
  | [], v0_0, v0_1 => some v0_0
  | e0 :: rs0, v0_0, v0_1 => bnd1 (idx v0_0 (v0_1 : Int)) (fun x4 => i_WithTtl_l0 p1 rs0 (v0_0.set ((v0_1 : Int).toNat) (Rec.mk x4.name x4.ty p1 x4.n x4.host x4.text)) (v0_1 + 1))
def i_WithTtl (p0 : List Rec) (p1 : Int) : Option (List Rec) :=
  bnd1 (slices_Clone_Record p0) (fun x1 => i_WithTtl_l0 p1 x1 x1 0)
/- impl.Record] -/
def slices_IndexFunc_Record_l0 (p1 : Rec → Option Bool) : List Rec → Nat → Option Int
  | [], v0_0 => some (-1)
  | e0 :: rs0, v0_0 => bnd1 (p1 e0) (fun x2 => bif x2 then (some (v0_0 : Int)) else (slices_IndexFunc_Record_l0 p1 rs0 (v0_0 + 1)))
def slices_IndexFunc_Record (p0 : List Rec) (p1 : Rec → Option Bool) : Option Int :=
  slices_IndexFunc_Record_l0 p1 p0 0
/- impl.Record] -/
def slices_ContainsFunc_Record (p0 : List Rec) (p1 : Rec → Option Bool) : Option Bool :=
  bnd1 (slices_IndexFunc_Record p0 p1) (fun x1 => some (decide (0 ≤ x1)))
/- impl.Record] -/
def slices_Index_Record_l0 (p1 : Rec) : List Rec → Nat → Option Int
  | [], v0_0 => some (-1)
  | e0 :: rs0, v0_0 => bif (decide (p1.name = e0.name) && (decide (p1.ty = e0.ty) && (decide (p1.ttl = e0.ttl) && (decide (p1.n = e0.n) && (decide (p1.host = e0.host) && (decide (p1.text = e0.text) && true)))))) then (some (v0_0 : Int)) else (slices_Index_Record_l0 p1 rs0 (v0_0 + 1))
def slices_Index_Record (p0 : List Rec) (p1 : Rec) : Option Int :=
  slices_Index_Record_l0 p1 p0 0
/- impl.Record] -/
def slices_Contains_Record (p0 : List Rec) (p1 : Rec) : Option Bool :=
  bnd1 (slices_Index_Record p0 p1) (fun x1 => some (decide (0 ≤ x1)))
/- impl.within$1 -/
def i_within_1 (p0 : Rec) (p1 : List Rec) : Option Bool :=
  bnd1 (slices_Contains_Record p1 p0) (fun x1 => some (!x1))
/- impl.within -/
def i_within (p0 : List Rec) (p1 : List Rec) : Option Bool :=
  bnd1 (i_WithTtl p0 0) (fun x1 => bnd1 (i_WithTtl p1 0) (fun x3 => bnd1 (slices_ContainsFunc_Record x1 (fun a0 => i_within_1 a0 x3)) (fun x5 => some (!x5))))
/- impl.SameData -/
def i_SameData (p0 : List Rec) (p1 : List Rec) : Option Bool :=
  bnd1 (i_within p0 p1) (fun x1 => bif x1 then (bnd1 (i_within p1 p0) (fun x4 => some x4)) else (some false))
/- spec.l9In -/
def s_l9In_l0 (p1 : Rec) : List Rec → Nat → Option Bool
  | [], v0_0 => some false
  | e0 :: rs0, v0_0 => bif (decide (e0.name = p1.name) && (decide (e0.ty = p1.ty) && (decide (p1.ttl = p1.ttl) && (decide (e0.n = p1.n) && (decide (e0.host = p1.host) && (decide (e0.text = p1.text) && true)))))) then (some true) else (s_l9In_l0 p1 rs0 (v0_0 + 1))
def s_l9In (p0 : List Rec) (p1 : Rec) : Option Bool :=
  s_l9In_l0 p1 p0 0
/- spec.SameData -/
def s_SameData_l2 (p0 : List Rec) : List Rec → Nat → Option Bool
  | [], v2_0 => some true
  | e2 :: rs2, v2_0 => bnd1 (s_l9In p0 e2) (fun x2 => bif !x2 then (some false) else (s_SameData_l2 p0 rs2 (v2_0 + 1)))
def s_SameData_j0 (p0 : List Rec) (p1 : List Rec) : Option Bool :=
  s_SameData_l2 p0 p1 0
def s_SameData_l1 (p0 : List Rec) (p1 : List Rec) : List Rec → Nat → Option Bool
  | [], v1_0 => s_SameData_j0 p0 p1
  | e1 :: rs1, v1_0 => bnd1 (s_l9In p1 e1) (fun x2 => bif !x2 then (some false) else (s_SameData_l1 p0 p1 rs1 (v1_0 + 1)))
def s_SameData (p0 : List Rec) (p1 : List Rec) : Option Bool :=
  s_SameData_l1 p0 p1 p0 0
/- slices.Index[[]string,string] -/
def slices_Index_string_l0 (p1 : ByteArray) : List ByteArray → Nat → Option Int
  | [], v0_0 => some (-1)
  | e0 :: rs0, v0_0 => bif decide (p1 = e0) then (some (v0_0 : Int)) else (slices_Index_string_l0 p1 rs0 (v0_0 + 1))
def slices_Index_string (p0 : List ByteArray) (p1 : ByteArray) : Option Int :=
  slices_Index_string_l0 p1 p0 0
/- slices.Contains[[]string,string] -/
def slices_Contains_string (p0 : List ByteArray) (p1 : ByteArray) : Option Bool :=
  bnd1 (slices_Index_string p0 p1) (fun x1 => some (decide (0 ≤ x1)))
/- impl.Hosts -/
def i_Hosts_j1 (v0_0 : List ByteArray) (v0_1 : Nat) (e0 : Rec) (k0 : (List ByteArray) → Nat → Option (List ByteArray)) (j1_0 : Bool) : Option (List ByteArray) :=
  bif j1_0 then (grd ((v0_0 ++ [e0.host]).length ≤ 1099511627776) (k0 (v0_0 ++ [e0.host]) (v0_1 + 1))) else (k0 v0_0 (v0_1 + 1))
def i_Hosts_l0  : List Rec → (List ByteArray) → Nat → Option (List ByteArray)
  | [], v0_0, v0_1 => some v0_0
  | e0 :: rs0, v0_0, v0_1 => bif decide (e0.ty = 2) then (bnd1 (slices_Contains_string v0_0 e0.host) (fun x3 => i_Hosts_j1 v0_0 v0_1 e0 (i_Hosts_l0 rs0) (!x3))) else (i_Hosts_j1 v0_0 v0_1 e0 (i_Hosts_l0 rs0) false)
def i_Hosts (p0 : List Rec) : Option (List ByteArray) :=
  i_Hosts_l0 p0 ([] : List ByteArray) 0
/- spec.l9Has -/
def s_l9Has_l0 (p1 : ByteArray) : List ByteArray → Nat → Option Bool
  | [], v0_0 => some false
  | e0 :: rs0, v0_0 => bif decide (e0 = p1) then (some true) else (s_l9Has_l0 p1 rs0 (v0_0 + 1))
def s_l9Has (p0 : List ByteArray) (p1 : ByteArray) : Option Bool :=
  s_l9Has_l0 p1 p0 0
/- spec.Hosts -/
def s_Hosts_j1 (v0_0 : List ByteArray) (v0_1 : Nat) (e0 : Rec) (k0 : (List ByteArray) → Nat → Option (List ByteArray)) (j1_0 : Bool) : Option (List ByteArray) :=
  bif j1_0 then (grd ((v0_0 ++ [e0.host]).length ≤ 1099511627776) (k0 (v0_0 ++ [e0.host]) (v0_1 + 1))) else (k0 v0_0 (v0_1 + 1))
def s_Hosts_l0  : List Rec → (List ByteArray) → Nat → Option (List ByteArray)
  | [], v0_0, v0_1 => some v0_0
  | e0 :: rs0, v0_0, v0_1 => bif decide (e0.ty = 2) then (bnd1 (s_l9Has v0_0 e0.host) (fun x3 => s_Hosts_j1 v0_0 v0_1 e0 (s_Hosts_l0 rs0) (!x3))) else (s_Hosts_j1 v0_0 v0_1 e0 (s_Hosts_l0 rs0) false)
def s_Hosts (p0 : List Rec) : Option (List ByteArray) :=
  s_Hosts_l0 p0 ([] : List ByteArray) 0
/- laws.sameStrs -/
def w_sameStrs_l0 (p1 : List ByteArray) : List ByteArray → Nat → Option Bool
  | [], v0_0 => some true
  | e0 :: rs0, v0_0 => bnd1 (idx p1 (v0_0 : Int)) (fun x3 => bif !decide (e0 = x3) then (some false) else (w_sameStrs_l0 p1 rs0 (v0_0 + 1)))
def w_sameStrs (p0 : List ByteArray) (p1 : List ByteArray) : Option Bool :=
  bif !decide ((p0.length : Int) = (p1.length : Int)) then (some false) else (w_sameStrs_l0 p1 p0 0)
/- slices.Index[[]int,int] -/
def slices_Index_int_l0 (p1 : Int) : List Int → Nat → Option Int
  | [], v0_0 => some (-1)
  | e0 :: rs0, v0_0 => bif decide (p1 = e0) then (some (v0_0 : Int)) else (slices_Index_int_l0 p1 rs0 (v0_0 + 1))
def slices_Index_int (p0 : List Int) (p1 : Int) : Option Int :=
  slices_Index_int_l0 p1 p0 0
/- slices.Contains[[]int,int] -/
def slices_Contains_int (p0 : List Int) (p1 : Int) : Option Bool :=
  bnd1 (slices_Index_int p0 p1) (fun x1 => some (decide (0 ≤ x1)))
/- impl.Addrs -/
def i_Addrs_j1 (v0_0 : List Int) (v0_1 : Nat) (e0 : Rec) (k0 : (List Int) → Nat → Option (List Int)) (j1_0 : Bool) : Option (List Int) :=
  bif j1_0 then (grd ((v0_0 ++ [e0.n]).length ≤ 1099511627776) (k0 (v0_0 ++ [e0.n]) (v0_1 + 1))) else (k0 v0_0 (v0_1 + 1))
def i_Addrs_l0 (p1 : ByteArray) : List Rec → (List Int) → Nat → Option (List Int)
  | [], v0_0, v0_1 => some v0_0
  | e0 :: rs0, v0_0, v0_1 => bif decide (e0.ty = 1) then (bif decide (e0.name = p1) then (bnd1 (slices_Contains_int v0_0 e0.n) (fun x4 => i_Addrs_j1 v0_0 v0_1 e0 (i_Addrs_l0 p1 rs0) (!x4))) else (i_Addrs_j1 v0_0 v0_1 e0 (i_Addrs_l0 p1 rs0) false)) else (i_Addrs_j1 v0_0 v0_1 e0 (i_Addrs_l0 p1 rs0) false)
def i_Addrs (p0 : List Rec) (p1 : ByteArray) : Option (List Int) :=
  i_Addrs_l0 p1 p0 ([] : List Int) 0
/- spec.l9HasInt -/
def s_l9HasInt_l0 (p1 : Int) : List Int → Nat → Option Bool
  | [], v0_0 => some false
  | e0 :: rs0, v0_0 => bif decide (e0 = p1) then (some true) else (s_l9HasInt_l0 p1 rs0 (v0_0 + 1))
def s_l9HasInt (p0 : List Int) (p1 : Int) : Option Bool :=
  s_l9HasInt_l0 p1 p0 0
/- spec.Addrs -/
def s_Addrs_j1 (v0_0 : List Int) (v0_1 : Nat) (e0 : Rec) (k0 : (List Int) → Nat → Option (List Int)) (j1_0 : Bool) : Option (List Int) :=
  bif j1_0 then (grd ((v0_0 ++ [e0.n]).length ≤ 1099511627776) (k0 (v0_0 ++ [e0.n]) (v0_1 + 1))) else (k0 v0_0 (v0_1 + 1))
def s_Addrs_l0 (p1 : ByteArray) : List Rec → (List Int) → Nat → Option (List Int)
  | [], v0_0, v0_1 => some v0_0
  | e0 :: rs0, v0_0, v0_1 => bif decide (e0.ty = 1) then (bif decide (e0.name = p1) then (bnd1 (s_l9HasInt v0_0 e0.n) (fun x4 => s_Addrs_j1 v0_0 v0_1 e0 (s_Addrs_l0 p1 rs0) (!x4))) else (s_Addrs_j1 v0_0 v0_1 e0 (s_Addrs_l0 p1 rs0) false)) else (s_Addrs_j1 v0_0 v0_1 e0 (s_Addrs_l0 p1 rs0) false)
def s_Addrs (p0 : List Rec) (p1 : ByteArray) : Option (List Int) :=
  s_Addrs_l0 p1 p0 ([] : List Int) 0
/- laws.sameInts -/
def w_sameInts_l0 (p1 : List Int) : List Int → Nat → Option Bool
  | [], v0_0 => some true
  | e0 :: rs0, v0_0 => bnd1 (idx p1 (v0_0 : Int)) (fun x3 => bif !decide (e0 = x3) then (some false) else (w_sameInts_l0 p1 rs0 (v0_0 + 1)))
def w_sameInts (p0 : List Int) (p1 : List Int) : Option Bool :=
  bif !decide ((p0.length : Int) = (p1.length : Int)) then (some false) else (w_sameInts_l0 p1 p0 0)
/- impl.Record] -/
def slices_insertionSortCmpFunc_Record_j2 (v0_1 : Int) (v1_0 : List Rec) (v1_1 : Int) (k0 : (List Rec) → Int → Option (List Rec)) (k1 : (List Rec) → Int → Option (List Rec)) (j2_0 : Bool) : Option (List Rec) :=
  bif j2_0 then (grd (i64 (v1_1 - 1)) (grd (i64 (v1_1 - 1)) (bnd1 (idx v1_0 (v1_1 - 1)) (fun x6 => bnd1 (idx v1_0 v1_1) (fun x8 => bnd1 (idx (v1_0.set v1_1.toNat x6) (v1_1 - 1)) (fun x10 => grd (i64 (v1_1 - 1)) (k1 ((v1_0.set v1_1.toNat x6).set ((v1_1 - 1).toNat) x8) (v1_1 - 1)))))))) else (grd (i64 (v0_1 + 1)) (k0 v1_0 (v0_1 + 1)))
def slices_insertionSortCmpFunc_Record_l1 (p1 : Int) (p3 : Rec → Rec → Option Int) (v0_1 : Int) (k0 : (List Rec) → Int → Option (List Rec)) : Nat → (List Rec) → Int → Option (List Rec)
  | 0, _, _ => none
  | f1 + 1, v1_0, v1_1 => bif decide (p1 < v1_1) then (bnd1 (idx v1_0 v1_1) (fun x4 => grd (i64 (v1_1 - 1)) (bnd1 (idx v1_0 (v1_1 - 1)) (fun x7 => bnd1 (p3 x4 x7) (fun x9 => slices_insertionSortCmpFunc_Record_j2 v0_1 v1_0 v1_1 (k0) (slices_insertionSortCmpFunc_Record_l1 p1 p3 v0_1 k0 f1) (decide (x9 < 0))))))) else (slices_insertionSortCmpFunc_Record_j2 v0_1 v1_0 v1_1 (k0) (slices_insertionSortCmpFunc_Record_l1 p1 p3 v0_1 k0 f1) false)
def slices_insertionSortCmpFunc_Record_l0 (p1 : Int) (p2 : Int) (p3 : Rec → Rec → Option Int) : Nat → (List Rec) → Int → Option (List Rec)
  | 0, _, _ => none
  | f0 + 1, v0_0, v0_1 => bif decide (v0_1 < p2) then (slices_insertionSortCmpFunc_Record_l1 p1 p3 v0_1 (slices_insertionSortCmpFunc_Record_l0 p1 p2 p3 f0) fuel0 v0_0 v0_1) else (some v0_0)
def slices_insertionSortCmpFunc_Record (p0 : List Rec) (p1 : Int) (p2 : Int) (p3 : Rec → Rec → Option Int) : Option (List Rec) :=
  grd (i64 (p1 + 1)) (slices_insertionSortCmpFunc_Record_l0 p1 p2 p3 fuel0 p0 (p1 + 1))
/- impl.Record] -/
def slices_swapRangeCmpFunc_Record_l0 (p1 : Int) (p2 : Int) (p3 : Int) : Nat → (List Rec) → Int → Option (List Rec)
  | 0, _, _ => none
  | f0 + 1, v0_0, v0_1 => bif decide (v0_1 < p3) then (grd (i64 (p1 + v0_1)) (grd (i64 (p2 + v0_1)) (grd (i64 (p2 + v0_1)) (bnd1 (idx v0_0 (p2 + v0_1)) (fun x5 => grd (i64 (p1 + v0_1)) (bnd1 (idx v0_0 (p1 + v0_1)) (fun x8 => bnd1 (idx (v0_0.set ((p1 + v0_1).toNat) x5) (p2 + v0_1)) (fun x10 => grd (i64 (v0_1 + 1)) (slices_swapRangeCmpFunc_Record_l0 p1 p2 p3 f0 ((v0_0.set ((p1 + v0_1).toNat) x5).set ((p2 + v0_1).toNat) x8) (v0_1 + 1)))))))))) else (some v0_0)
def slices_swapRangeCmpFunc_Record (p0 : List Rec) (p1 : Int) (p2 : Int) (p3 : Int) (p4 : Rec → Rec → Option Int) : Option (List Rec) :=
  slices_swapRangeCmpFunc_Record_l0 p1 p2 p3 fuel0 p0 0
/- impl.Record] -/
def slices_rotateCmpFunc_Record_j0 (p2 : Int) (p4 : Rec → Rec → Option Int) (j0_0 : List Rec) (j0_1 : Int) : Option (List Rec) :=
  grd (i64 (p2 - j0_1)) (bnd1 (slices_swapRangeCmpFunc_Record j0_0 (p2 - j0_1) p2 j0_1 p4) (fun x4 => grd (x4.length = j0_0.length) (some x4)))
def slices_rotateCmpFunc_Record_l1 (p2 : Int) (p4 : Rec → Rec → Option Int) : Nat → (List Rec) → Int → Int → Option (List Rec)
  | 0, _, _, _ => none
  | f1 + 1, v1_0, v1_1, v1_2 => bif !decide (v1_1 = v1_2) then (bif decide (v1_2 < v1_1) then (grd (i64 (p2 - v1_1)) (bnd1 (slices_swapRangeCmpFunc_Record v1_0 (p2 - v1_1) p2 v1_2 p4) (fun x6 => grd (x6.length = v1_0.length) (grd (i64 (v1_1 - v1_2)) (slices_rotateCmpFunc_Record_l1 p2 p4 f1 x6 (v1_1 - v1_2) v1_2))))) else (grd (i64 (p2 - v1_1)) (grd (i64 (p2 + v1_2)) (grd (i64 ((p2 + v1_2) - v1_1)) (bnd1 (slices_swapRangeCmpFunc_Record v1_0 (p2 - v1_1) ((p2 + v1_2) - v1_1) v1_1 p4) (fun x13 => grd (x13.length = v1_0.length) (grd (i64 (v1_2 - v1_1)) (slices_rotateCmpFunc_Record_l1 p2 p4 f1 x13 v1_1 (v1_2 - v1_1))))))))) else (slices_rotateCmpFunc_Record_j0 p2 p4 v1_0 v1_1)
def slices_rotateCmpFunc_Record (p0 : List Rec) (p1 : Int) (p2 : Int) (p3 : Int) (p4 : Rec → Rec → Option Int) : Option (List Rec) :=
  grd (i64 (p2 - p1)) (grd (i64 (p3 - p2)) (slices_rotateCmpFunc_Record_l1 p2 p4 fuel0 p0 (p2 - p1) (p3 - p2)))
/- impl.Record] -/
def slices_symMergeCmpFunc_Record_j14 (j11_0 : List Rec) (j14_0 : Bool) : Option (List Rec) :=
  bif j14_0 then (none) else (some j11_0)
def slices_symMergeCmpFunc_Record_j13 (p1 : Int) (p2 : Int) (p3 : Int) (j9_0 : Int) (j11_0 : List Rec) (j13_0 : Bool) : Option (List Rec) :=
  bif j13_0 then (none) else (bif decide (IntKind.i64.wrap (ishr .u64 (IntKind.u64.wrap (p1 + p3)) 1) < ((IntKind.i64.wrap (ishr .u64 (IntKind.u64.wrap (p1 + p3)) 1)) + p2) - j9_0) then (slices_symMergeCmpFunc_Record_j14 j11_0 (decide (((IntKind.i64.wrap (ishr .u64 (IntKind.u64.wrap (p1 + p3)) 1)) + p2) - j9_0 < p3))) else (slices_symMergeCmpFunc_Record_j14 j11_0 false))
def slices_symMergeCmpFunc_Record_j11 (p1 : Int) (p2 : Int) (p3 : Int) (j9_0 : Int) (j11_0 : List Rec) : Option (List Rec) :=
  bif decide (p1 < j9_0) then (slices_symMergeCmpFunc_Record_j13 p1 p2 p3 j9_0 j11_0 (decide (j9_0 < IntKind.i64.wrap (ishr .u64 (IntKind.u64.wrap (p1 + p3)) 1)))) else (slices_symMergeCmpFunc_Record_j13 p1 p2 p3 j9_0 j11_0 false)
def slices_symMergeCmpFunc_Record_j12 (p0 : List Rec) (p1 : Int) (p2 : Int) (p3 : Int) (p4 : Rec → Rec → Option Int) (j9_0 : Int) (j12_0 : Bool) : Option (List Rec) :=
  bif j12_0 then (bnd1 (slices_rotateCmpFunc_Record p0 j9_0 p2 (((IntKind.i64.wrap (ishr .u64 (IntKind.u64.wrap (p1 + p3)) 1)) + p2) - j9_0) p4) (fun x6 => grd (x6.length = p0.length) (slices_symMergeCmpFunc_Record_j11 p1 p2 p3 j9_0 x6))) else (slices_symMergeCmpFunc_Record_j11 p1 p2 p3 j9_0 p0)
def slices_symMergeCmpFunc_Record_j9 (p0 : List Rec) (p1 : Int) (p2 : Int) (p3 : Int) (p4 : Rec → Rec → Option Int) (j9_0 : Int) : Option (List Rec) :=
  grd (i64 (((IntKind.i64.wrap (ishr .u64 (IntKind.u64.wrap (p1 + p3)) 1)) + p2) - j9_0)) (bif decide (j9_0 < p2) then (slices_symMergeCmpFunc_Record_j12 p0 p1 p2 p3 p4 j9_0 (decide (p2 < ((IntKind.i64.wrap (ishr .u64 (IntKind.u64.wrap (p1 + p3)) 1)) + p2) - j9_0))) else (slices_symMergeCmpFunc_Record_j12 p0 p1 p2 p3 p4 j9_0 false))
def slices_symMergeCmpFunc_Record_l10 (p0 : List Rec) (p1 : Int) (p2 : Int) (p3 : Int) (p4 : Rec → Rec → Option Int) : Nat → Int → Int → Option (List Rec)
  | 0, _, _ => none
  | f10 + 1, v10_0, v10_1 => bif decide (v10_0 < v10_1) then (grd (i64 (v10_0 + v10_1)) (grd (i64 ((((IntKind.i64.wrap (ishr .u64 (IntKind.u64.wrap (p1 + p3)) 1)) + p2) - 1) - (IntKind.i64.wrap (ishr .u64 (IntKind.u64.wrap (v10_0 + v10_1)) 1)))) (bnd1 (idx p0 ((((IntKind.i64.wrap (ishr .u64 (IntKind.u64.wrap (p1 + p3)) 1)) + p2) - 1) - (IntKind.i64.wrap (ishr .u64 (IntKind.u64.wrap (v10_0 + v10_1)) 1)))) (fun x7 => bnd1 (idx p0 (IntKind.i64.wrap (ishr .u64 (IntKind.u64.wrap (v10_0 + v10_1)) 1))) (fun x9 => bnd1 (p4 x7 x9) (fun x11 => bif !(decide (x11 < 0)) then (grd (i64 ((IntKind.i64.wrap (ishr .u64 (IntKind.u64.wrap (v10_0 + v10_1)) 1)) + 1)) (slices_symMergeCmpFunc_Record_l10 p0 p1 p2 p3 p4 f10 ((IntKind.i64.wrap (ishr .u64 (IntKind.u64.wrap (v10_0 + v10_1)) 1)) + 1) v10_1)) else (slices_symMergeCmpFunc_Record_l10 p0 p1 p2 p3 p4 f10 v10_0 (IntKind.i64.wrap (ishr .u64 (IntKind.u64.wrap (v10_0 + v10_1)) 1))))))))) else (slices_symMergeCmpFunc_Record_j9 p0 p1 p2 p3 p4 v10_0)
def slices_symMergeCmpFunc_Record_j8 (p0 : List Rec) (p1 : Int) (p2 : Int) (p3 : Int) (p4 : Rec → Rec → Option Int) (j8_0 : Int) (j8_1 : Int) : Option (List Rec) :=
  grd (i64 (((IntKind.i64.wrap (ishr .u64 (IntKind.u64.wrap (p1 + p3)) 1)) + p2) - 1)) (slices_symMergeCmpFunc_Record_l10 p0 p1 p2 p3 p4 fuel0 j8_0 j8_1)
def slices_symMergeCmpFunc_Record_j4 (p0 : List Rec) (p1 : Int) (p2 : Int) (p3 : Int) (p4 : Rec → Rec → Option Int) : Option (List Rec) :=
  grd (i64 (p1 + p3)) (grd (i64 ((IntKind.i64.wrap (ishr .u64 (IntKind.u64.wrap (p1 + p3)) 1)) + p2)) (bif decide (IntKind.i64.wrap (ishr .u64 (IntKind.u64.wrap (p1 + p3)) 1) < p2) then (grd (i64 (((IntKind.i64.wrap (ishr .u64 (IntKind.u64.wrap (p1 + p3)) 1)) + p2) - p3)) (slices_symMergeCmpFunc_Record_j8 p0 p1 p2 p3 p4 (((IntKind.i64.wrap (ishr .u64 (IntKind.u64.wrap (p1 + p3)) 1)) + p2) - p3) (IntKind.i64.wrap (ishr .u64 (IntKind.u64.wrap (p1 + p3)) 1)))) else (slices_symMergeCmpFunc_Record_j8 p0 p1 p2 p3 p4 p1 p2)))
def slices_symMergeCmpFunc_Record_l7 (j5_0 : Int) : Nat → (List Rec) → Int → Option (List Rec)
  | 0, _, _ => none
  | f7 + 1, v7_0, v7_1 => bif decide (j5_0 < v7_1) then (grd (i64 (v7_1 - 1)) (grd (i64 (v7_1 - 1)) (bnd1 (idx v7_0 (v7_1 - 1)) (fun x6 => bnd1 (idx v7_0 v7_1) (fun x8 => bnd1 (idx (v7_0.set v7_1.toNat x6) (v7_1 - 1)) (fun x10 => grd (i64 (v7_1 - 1)) (slices_symMergeCmpFunc_Record_l7 j5_0 f7 ((v7_0.set v7_1.toNat x6).set ((v7_1 - 1).toNat) x8) (v7_1 - 1)))))))) else (some v7_0)
def slices_symMergeCmpFunc_Record_j5 (p0 : List Rec) (p2 : Int) (j5_0 : Int) : Option (List Rec) :=
  slices_symMergeCmpFunc_Record_l7 j5_0 fuel0 p0 p2
def slices_symMergeCmpFunc_Record_l6 (p0 : List Rec) (p2 : Int) (p4 : Rec → Rec → Option Int) : Nat → Int → Int → Option (List Rec)
  | 0, _, _ => none
  | f6 + 1, v6_0, v6_1 => bif decide (v6_0 < v6_1) then (grd (i64 (v6_0 + v6_1)) (bnd1 (idx p0 p2) (fun x5 => bnd1 (idx p0 (IntKind.i64.wrap (ishr .u64 (IntKind.u64.wrap (v6_0 + v6_1)) 1))) (fun x7 => bnd1 (p4 x5 x7) (fun x9 => bif !(decide (x9 < 0)) then (grd (i64 ((IntKind.i64.wrap (ishr .u64 (IntKind.u64.wrap (v6_0 + v6_1)) 1)) + 1)) (slices_symMergeCmpFunc_Record_l6 p0 p2 p4 f6 ((IntKind.i64.wrap (ishr .u64 (IntKind.u64.wrap (v6_0 + v6_1)) 1)) + 1) v6_1)) else (slices_symMergeCmpFunc_Record_l6 p0 p2 p4 f6 v6_0 (IntKind.i64.wrap (ishr .u64 (IntKind.u64.wrap (v6_0 + v6_1)) 1)))))))) else (slices_symMergeCmpFunc_Record_j5 p0 p2 v6_0)
def slices_symMergeCmpFunc_Record_j0 (p0 : List Rec) (p1 : Int) (p2 : Int) (p3 : Int) (p4 : Rec → Rec → Option Int) : Option (List Rec) :=
  grd (i64 (p3 - p2)) (bif decide (p3 - p2 = 1) then (slices_symMergeCmpFunc_Record_l6 p0 p2 p4 fuel0 p1 p2) else (slices_symMergeCmpFunc_Record_j4 p0 p1 p2 p3 p4))
def slices_symMergeCmpFunc_Record_l3 (j1_0 : Int) : Nat → (List Rec) → Int → Option (List Rec)
  | 0, _, _ => none
  | f3 + 1, v3_0, v3_1 => grd (i64 (j1_0 - 1)) (bif decide (v3_1 < j1_0 - 1) then (grd (i64 (v3_1 + 1)) (grd (i64 (v3_1 + 1)) (bnd1 (idx v3_0 (v3_1 + 1)) (fun x7 => bnd1 (idx v3_0 v3_1) (fun x9 => bnd1 (idx (v3_0.set v3_1.toNat x7) (v3_1 + 1)) (fun x11 => grd (i64 (v3_1 + 1)) (slices_symMergeCmpFunc_Record_l3 j1_0 f3 ((v3_0.set v3_1.toNat x7).set ((v3_1 + 1).toNat) x9) (v3_1 + 1)))))))) else (some v3_0))
def slices_symMergeCmpFunc_Record_j1 (p0 : List Rec) (p1 : Int) (j1_0 : Int) : Option (List Rec) :=
  slices_symMergeCmpFunc_Record_l3 j1_0 fuel0 p0 p1
def slices_symMergeCmpFunc_Record_l2 (p0 : List Rec) (p1 : Int) (p4 : Rec → Rec → Option Int) : Nat → Int → Int → Option (List Rec)
  | 0, _, _ => none
  | f2 + 1, v2_0, v2_1 => bif decide (v2_0 < v2_1) then (grd (i64 (v2_0 + v2_1)) (bnd1 (idx p0 (IntKind.i64.wrap (ishr .u64 (IntKind.u64.wrap (v2_0 + v2_1)) 1))) (fun x5 => bnd1 (idx p0 p1) (fun x7 => bnd1 (p4 x5 x7) (fun x9 => bif decide (x9 < 0) then (grd (i64 ((IntKind.i64.wrap (ishr .u64 (IntKind.u64.wrap (v2_0 + v2_1)) 1)) + 1)) (slices_symMergeCmpFunc_Record_l2 p0 p1 p4 f2 ((IntKind.i64.wrap (ishr .u64 (IntKind.u64.wrap (v2_0 + v2_1)) 1)) + 1) v2_1)) else (slices_symMergeCmpFunc_Record_l2 p0 p1 p4 f2 v2_0 (IntKind.i64.wrap (ishr .u64 (IntKind.u64.wrap (v2_0 + v2_1)) 1)))))))) else (slices_symMergeCmpFunc_Record_j1 p0 p1 v2_0)
def slices_symMergeCmpFunc_Record (p0 : List Rec) (p1 : Int) (p2 : Int) (p3 : Int) (p4 : Rec → Rec → Option Int) : Option (List Rec) :=
  grd (i64 (p2 - p1)) (bif decide (p2 - p1 = 1) then (slices_symMergeCmpFunc_Record_l2 p0 p1 p4 fuel0 p2 p3) else (slices_symMergeCmpFunc_Record_j0 p0 p1 p2 p3 p4))
/- impl.Record] -/
def slices_stableCmpFunc_Record_j3 (p1 : Int) (p2 : Rec → Rec → Option Int) (v2_1 : Int) (k2 : (List Rec) → Int → Option (List Rec)) (j3_0 : List Rec) (j3_1 : Int) : Option (List Rec) :=
  grd (i64 (j3_1 + v2_1)) (bif decide (j3_1 + v2_1 < p1) then (bnd1 (slices_symMergeCmpFunc_Record j3_0 j3_1 (j3_1 + v2_1) p1 p2) (fun x8 => grd (x8.length = j3_0.length) (grd (i64 (v2_1 * 2)) (k2 x8 (v2_1 * 2))))) else (grd (i64 (v2_1 * 2)) (k2 j3_0 (v2_1 * 2))))
def slices_stableCmpFunc_Record_l4 (p1 : Int) (p2 : Rec → Rec → Option Int) (v2_1 : Int) (k2 : (List Rec) → Int → Option (List Rec)) : Nat → (List Rec) → Int → Int → Option (List Rec)
  | 0, _, _, _ => none
  | f4 + 1, v4_0, v4_1, v4_2 => bif decide (v4_2 ≤ p1) then (grd (i64 (v4_1 + v2_1)) (bnd1 (slices_symMergeCmpFunc_Record v4_0 v4_1 (v4_1 + v2_1) v4_2 p2) (fun x8 => grd (x8.length = v4_0.length) (grd (i64 (2 * v2_1)) (grd (i64 (v4_2 + (2 * v2_1))) (slices_stableCmpFunc_Record_l4 p1 p2 v2_1 k2 f4 x8 v4_2 (v4_2 + (2 * v2_1)))))))) else (slices_stableCmpFunc_Record_j3 p1 p2 v2_1 (k2) v4_0 v4_1)
def slices_stableCmpFunc_Record_l2 (p1 : Int) (p2 : Rec → Rec → Option Int) : Nat → (List Rec) → Int → Option (List Rec)
  | 0, _, _ => none
  | f2 + 1, v2_0, v2_1 => bif decide (v2_1 < p1) then (grd (i64 (2 * v2_1)) (slices_stableCmpFunc_Record_l4 p1 p2 v2_1 (slices_stableCmpFunc_Record_l2 p1 p2 f2) fuel0 v2_0 0 (2 * v2_1))) else (some v2_0)
def slices_stableCmpFunc_Record_j0 (p1 : Int) (p2 : Rec → Rec → Option Int) (j0_0 : List Rec) (j0_1 : Int) : Option (List Rec) :=
  bnd1 (slices_insertionSortCmpFunc_Record j0_0 j0_1 p1 p2) (fun x1 => grd (x1.length = j0_0.length) (slices_stableCmpFunc_Record_l2 p1 p2 fuel0 x1 20))
def slices_stableCmpFunc_Record_l1 (p1 : Int) (p2 : Rec → Rec → Option Int) : Nat → (List Rec) → Int → Int → Option (List Rec)
  | 0, _, _, _ => none
  | f1 + 1, v1_0, v1_1, v1_2 => bif decide (v1_2 ≤ p1) then (bnd1 (slices_insertionSortCmpFunc_Record v1_0 v1_1 v1_2 p2) (fun x2 => grd (x2.length = v1_0.length) (grd (i64 (v1_2 + 20)) (slices_stableCmpFunc_Record_l1 p1 p2 f1 x2 v1_2 (v1_2 + 20))))) else (slices_stableCmpFunc_Record_j0 p1 p2 v1_0 v1_1)
def slices_stableCmpFunc_Record (p0 : List Rec) (p1 : Int) (p2 : Rec → Rec → Option Int) : Option (List Rec) :=
  slices_stableCmpFunc_Record_l1 p1 p2 fuel0 p0 0 20
/- impl.Record] -/
def slices_SortStableFunc_Record (p0 : List Rec) (p1 : Rec → Rec → Option Int) : Option (List Rec) :=
  bnd1 (slices_stableCmpFunc_Record p0 (p0.length : Int) p1) (fun x1 => grd (x1.length = p0.length) (some x1))
/- stringslite.IndexByte -/
def internal_stringslite_IndexByte (p0 : ByteArray) (p1 : Int) : Option Int :=
  some (Lib.indexByte p0.data.toList p1.toNat.toUInt8)
/- stringslite.Index -/
def internal_stringslite_Index_j0 (p0 : ByteArray) (p1 : ByteArray) (j0_0 : Bool) : Option Int :=
  bif j0_0 then (some 0) else (bif decide ((p1.size : Int) = 1) then (bnd1 (sidx p1 0) (fun x3 => bnd1 (internal_stringslite_IndexByte p0 x3) (fun x5 => some x5))) else (bif decide ((p0.size : Int) ≤ (p1.size : Int)) then (some (-1)) else (none)))
def internal_stringslite_Index (p0 : ByteArray) (p1 : ByteArray) : Option Int :=
  bif decide ((p1.size : Int) = 0) then (internal_stringslite_Index_j0 p0 p1 true) else (internal_stringslite_Index_j0 p0 p1 (decide (p1 = p0)))
/- strings.Index -/
def strings_Index (p0 : ByteArray) (p1 : ByteArray) : Option Int :=
  bnd1 (internal_stringslite_Index p0 p1) (fun x1 => some x1)
/- strings.Count -/
def strings_Count_l0 (p1 : ByteArray) : Nat → ByteArray → Int → Option Int
  | 0, _, _ => none
  | f0 + 1, v0_0, v0_1 => bnd1 (strings_Index v0_0 p1) (fun x5 => bif decide (x5 = (-1)) then (some v0_1) else (grd (i64 (v0_1 + 1)) (grd (i64 (x5 + (p1.size : Int))) (grd (0 ≤ x5 + (p1.size : Int) ∧ x5 + (p1.size : Int) ≤ (v0_0.size : Int) ∧ (v0_0.size : Int) ≤ (v0_0.size : Int)) (strings_Count_l0 p1 f0 (v0_0.extract (x5 + (p1.size : Int)).toNat (v0_0.size : Int).toNat) (v0_1 + 1))))))
def strings_Count (p0 : ByteArray) (p1 : ByteArray) : Option Int :=
  bif decide ((p1.size : Int) = 0) then (none) else (bif decide ((p1.size : Int) = 1) then (bnd1 (sidx p1 0) (fun x3 => some (Lib.countByte p0.data.toList x3.toNat.toUInt8 : Int))) else (strings_Count_l0 p1 fuel0 p0 0))
/- strings.genSplit -/
def strings_genSplit_j1  (j1_0 : ByteArray) (j1_1 : List ByteArray) (j1_2 : Int) : Option (List ByteArray) :=
  bnd1 (idx j1_1 j1_2) (fun x6 => grd (i64 (j1_2 + 1)) (grd ((0 : Int) ≤ ((0 : Nat) : Int) ∧ ((0 : Nat) : Int) ≤ j1_2 + 1 ∧ j1_2 + 1 ≤ (j1_1.length : Int)) (some (((j1_1.set j1_2.toNat j1_0).drop (0 + ((0 : Nat) : Int).toNat)).take ((j1_2 + 1).toNat - ((0 : Nat) : Int).toNat)))))
def strings_genSplit_l2 (p0 : ByteArray) (p1 : ByteArray) (p2 : Int) (j0_0 : Int) : Nat → ByteArray → (List ByteArray) → Int → Option (List ByteArray)
  | 0, _, _, _ => none
  | f2 + 1, v2_0, v2_1, v2_2 => bif decide (v2_2 < (if (p0.size : Int) + 1 < j0_0 then (p0.size : Int) + 1 else j0_0) - 1) then (bnd1 (strings_Index v2_0 p1) (fun x7 => bif decide (x7 < 0) then (strings_genSplit_j1 v2_0 v2_1 v2_2) else (grd (i64 (x7 + p2)) (grd (0 ≤ ((0 : Nat) : Int) ∧ ((0 : Nat) : Int) ≤ x7 + p2 ∧ x7 + p2 ≤ (v2_0.size : Int)) (bnd1 (idx v2_1 v2_2) (fun x12 => grd (i64 (x7 + (p1.size : Int))) (grd (0 ≤ x7 + (p1.size : Int) ∧ x7 + (p1.size : Int) ≤ (v2_0.size : Int) ∧ (v2_0.size : Int) ≤ (v2_0.size : Int)) (grd (i64 (v2_2 + 1)) (strings_genSplit_l2 p0 p1 p2 j0_0 f2 (v2_0.extract (x7 + (p1.size : Int)).toNat (v2_0.size : Int).toNat) (v2_1.set v2_2.toNat (v2_0.extract ((0 : Nat) : Int).toNat (x7 + p2).toNat)) (v2_2 + 1)))))))))) else (strings_genSplit_j1 v2_0 v2_1 v2_2)
def strings_genSplit_j0 (p0 : ByteArray) (p1 : ByteArray) (p2 : Int) (j0_0 : Int) : Option (List ByteArray) :=
  grd (i64 ((p0.size : Int) + 1)) (grd (0 ≤ (if (p0.size : Int) + 1 < j0_0 then (p0.size : Int) + 1 else j0_0) ∧ (if (p0.size : Int) + 1 < j0_0 then (p0.size : Int) + 1 else j0_0).toNat ≤ 1099511627776) (grd (i64 ((if (p0.size : Int) + 1 < j0_0 then (p0.size : Int) + 1 else j0_0) - 1)) (strings_genSplit_l2 p0 p1 p2 j0_0 fuel0 p0 (List.replicate (if (p0.size : Int) + 1 < j0_0 then (p0.size : Int) + 1 else j0_0).toNat (⟨#[]⟩ : ByteArray)) 0)))
def strings_genSplit (p0 : ByteArray) (p1 : ByteArray) (p2 : Int) (p3 : Int) : Option (List ByteArray) :=
  bif decide (p3 = 0) then (some ([] : List ByteArray)) else (bif decide (p1 = (⟨#[]⟩ : ByteArray)) then (none) else (bif decide (p3 < 0) then (bnd1 (strings_Count p0 p1) (fun x4 => grd (i64 (x4 + 1)) (strings_genSplit_j0 p0 p1 p2 (x4 + 1)))) else (strings_genSplit_j0 p0 p1 p2 p3)))
/- strings.Split -/
def strings_Split (p0 : ByteArray) (p1 : ByteArray) : Option (List ByteArray) :=
  bnd1 (strings_genSplit p0 p1 0 (-1)) (fun x1 => some x1)
/- impl.Labels -/
def i_Labels (p0 : ByteArray) : Option (List ByteArray) :=
  bif decide (p0 = (⟨#[]⟩ : ByteArray)) then (some ([] : List ByteArray)) else (bnd1 (strings_Split p0 (⟨#[46]⟩ : ByteArray)) (fun x2 => some x2))
/- slices.Reverse[[]string,string] -/
def slices_Reverse_string_l0  : Nat → (List ByteArray) → Int → Int → Option (List ByteArray)
  | 0, _, _, _ => none
  | f0 + 1, v0_0, v0_1, v0_2 => bif decide (v0_1 < v0_2) then (bnd1 (idx v0_0 v0_2) (fun x3 => bnd1 (idx v0_0 v0_1) (fun x5 => bnd1 (idx (v0_0.set v0_1.toNat x3) v0_2) (fun x7 => grd (i64 (v0_1 + 1)) (grd (i64 (v0_2 - 1)) (slices_Reverse_string_l0 f0 ((v0_0.set v0_1.toNat x3).set v0_2.toNat x5) (v0_1 + 1) (v0_2 - 1))))))) else (some v0_0)
def slices_Reverse_string (p0 : List ByteArray) : Option (List ByteArray) :=
  grd (i64 ((p0.length : Int) - 1)) (slices_Reverse_string_l0 fuel0 p0 0 ((p0.length : Int) - 1))
/- cmp.isNaN[string] -/
def cmp_isNaN_string (p0 : ByteArray) : Option Bool :=
  some (!decide (p0 = p0))
/- cmp.Compare[string] -/
def cmp_Compare_string (p0 : ByteArray) (p1 : ByteArray) : Option Int :=
  bnd1 (cmp_isNaN_string p0) (fun x1 => bnd1 (cmp_isNaN_string p1) (fun x3 => bif x1 then (bif x3 then (some 0) else (some (-1))) else (bif x3 then (some 1) else (bif Op.bytesLess p0.toList p1.toList then (some (-1)) else (bif (!Op.bytesLess p0.toList p1.toList && !(p0.toList == p1.toList)) then (some 1) else (some 0))))))
/- slices.Compare[[]string,string] -/
def slices_Compare_string_j0 (p0 : List ByteArray) (p1 : List ByteArray) : Option Int :=
  bif decide ((p0.length : Int) < (p1.length : Int)) then (some (-1)) else (some 0)
def slices_Compare_string_l1 (p0 : List ByteArray) (p1 : List ByteArray) : List ByteArray → Nat → Option Int
  | [], v1_0 => slices_Compare_string_j0 p0 p1
  | e1 :: rs1, v1_0 => bif decide ((p1.length : Int) ≤ (v1_0 : Int)) then (some 1) else (bnd1 (idx p1 (v1_0 : Int)) (fun x3 => bnd1 (cmp_Compare_string e1 x3) (fun x5 => bif !decide (x5 = 0) then (some x5) else (slices_Compare_string_l1 p0 p1 rs1 (v1_0 + 1)))))
def slices_Compare_string (p0 : List ByteArray) (p1 : List ByteArray) : Option Int :=
  slices_Compare_string_l1 p0 p1 p0 0
/- impl.LessName -/
def i_LessName (p0 : ByteArray) (p1 : ByteArray) : Option Bool :=
  bnd1 (i_Labels p0) (fun x1 => bnd1 (i_Labels p1) (fun x3 => bnd1 (slices_Reverse_string x1) (fun x5 => grd (x5.length = x1.length) (bnd1 (slices_Reverse_string x3) (fun x8 => grd (x8.length = x3.length) (bnd1 (slices_Compare_string x5 x8) (fun x11 => some (decide (x11 < 0)))))))))
/- impl.byName -/
def i_byName (p0 : ByteArray) (p1 : ByteArray) : Option Int :=
  bnd1 (i_LessName p0 p1) (fun x1 => bif x1 then (some (-1)) else (bnd1 (i_LessName p1 p0) (fun x4 => bif x4 then (some 1) else (some 0))))
/- cmp.isNaN[int] -/
def cmp_isNaN_int (p0 : Int) : Option Bool :=
  some (!decide (p0 = p0))
/- cmp.Compare[int] -/
def cmp_Compare_int (p0 : Int) (p1 : Int) : Option Int :=
  bnd1 (cmp_isNaN_int p0) (fun x1 => bnd1 (cmp_isNaN_int p1) (fun x3 => bif x1 then (bif x3 then (some 0) else (some (-1))) else (bif x3 then (some 1) else (bif decide (p0 < p1) then (some (-1)) else (bif decide (p1 < p0) then (some 1) else (some 0))))))
/- cmp.Or[int] -/
def cmp_Or_int_l0  : List Int → Nat → Option Int
  | [], v0_0 => some 0
  | e0 :: rs0, v0_0 => bif !decide (e0 = 0) then (some e0) else (cmp_Or_int_l0 rs0 (v0_0 + 1))
def cmp_Or_int (p0 : List Int) : Option Int :=
  cmp_Or_int_l0 p0 0
/- impl.byRecord -/
def i_byRecord (p0 : Rec) (p1 : Rec) : Option Int :=
  bnd1 (i_byName p0.name p1.name) (fun x1 => bnd1 (cmp_Compare_int p0.ty p1.ty) (fun x3 => bnd1 (cmp_Compare_int p0.n p1.n) (fun x5 => bnd1 (i_byName p0.host p1.host) (fun x7 => bnd1 (cmp_Compare_string p0.text p1.text) (fun x9 => bnd1 (cmp_Compare_int p0.ttl p1.ttl) (fun x11 => bnd1 (cmp_Or_int [x1, x3, x5, x7, x9, x11]) (fun x13 => some x13)))))))
/- impl.SortRecords -/
def i_SortRecords (p0 : List Rec) : Option (List Rec) :=
  bnd1 (slices_Clone_Record p0) (fun x1 => bnd1 (slices_SortStableFunc_Record x1 (fun a0 a1 => i_byRecord a0 a1)) (fun x3 => grd (x3.length = x1.length) (some x3)))
/- laws.FnDataSame -/
def w_FnDataSame_j0 (x4 : List Rec) (x5 : List Rec) (j0_0 : Bool) : Option Bool :=
  bif j0_0 then (some false) else (bnd1 (i_SameData x4 x5) (fun x13 => bnd1 (i_SameData x5 x4) (fun x15 => bif (x13 == x15) then (bnd1 (i_SortRecords x4) (fun x18 => bnd1 (i_WithTtl x18 7) (fun x20 => bnd1 (i_SameData x4 x20) (fun x22 => bif x22 then (bnd1 (i_SameData x4 x5) (fun x25 => bif !x25 then (some true) else (some ((decide ((x4.length : Int) = 0)) == (decide ((x5.length : Int) = 0)))))) else (some false))))) else (some false))))
def w_FnDataSame (p0 : List Int) : Option Bool :=
  bnd1 (w_big p0) (fun x1 => bif x1 then (some true) else (bnd2 (s_DrawSameData p0) (fun x4 x5 => bnd1 (s_DrawHosts p0) (fun x7 => bnd2 (s_DrawAddrs p0) (fun x9 x10 => bnd1 (i_SameData x4 x5) (fun x12 => bnd1 (s_SameData x4 x5) (fun x14 => bif !(x12 == x14) then (w_FnDataSame_j0 x4 x5 true) else (bnd1 (i_Hosts x7) (fun x17 => bnd1 (s_Hosts x7) (fun x19 => bnd1 (w_sameStrs x17 x19) (fun x21 => bif !x21 then (w_FnDataSame_j0 x4 x5 true) else (bnd1 (i_Addrs x9 x10) (fun x24 => bnd1 (s_Addrs x9 x10) (fun x26 => bnd1 (w_sameInts x24 x26) (fun x28 => w_FnDataSame_j0 x4 x5 (!x28))))))))))))))))
end Go.Abs.M
