/- The functions that the law of FnSets reaches, as pure functions that may fail. -/
import Derived.Test.YtaggdjciembpdaaAbsA28
namespace Go.Abs.M
open Go Go.Abs
structure Cur where
  b : List Int
  i : Int
  h : Int
  deriving DecidableEq
def curV (r : Cur) : List V := [.lst 1 (List.map byteV r.b), .sc (.int .i64 r.i), .sc (.int .i64 r.h)]
theorem curV_free (r : Cur) : (curV r).all (·.free) = true := rfl
theorem curV_len (r : Cur) : (curV r).length = 3 := rfl
def Cur.ok (r : Cur) : Prop := (r.b.length ≤ 9223372036854775807 ∧ ∀ q, q ∈ r.b → True) ∧ i64 r.i ∧ i64 r.h
structure Rec where
  name : ByteArray
  ty : Int
  ttl : Int
  n : Int
  host : ByteArray
  text : ByteArray
  deriving DecidableEq
def recV (r : Rec) : List V := [.sc (.string r.name), .sc (.int .i64 r.ty), .sc (.int .i64 r.ttl), .sc (.int .i64 r.n), .sc (.string r.host), .sc (.string r.text)]
theorem recV_free (r : Rec) : (recV r).all (·.free) = true := rfl
theorem recV_len (r : Rec) : (recV r).length = 6 := rfl
def Rec.ok (r : Rec) : Prop := r.name.size ≤ 9223372036854775807 ∧ i64 r.ty ∧ i64 r.ttl ∧ i64 r.n ∧ r.host.size ≤ 9223372036854775807 ∧ r.text.size ≤ 9223372036854775807
theorem recV_sc (r : Rec) : (recV r).all isScN = true := rfl
structure Quest where
  name : ByteArray
  ty : Int
  deriving DecidableEq
def questV (r : Quest) : List V := [.sc (.string r.name), .sc (.int .i64 r.ty)]
theorem questV_free (r : Quest) : (questV r).all (·.free) = true := rfl
theorem questV_len (r : Quest) : (questV r).length = 2 := rfl
def Quest.ok (r : Quest) : Prop := r.name.size ≤ 9223372036854775807 ∧ i64 r.ty
theorem questV_sc (r : Quest) : (questV r).all isScN = true := rfl
/- laws.big -/
def w_big (p0 : List Int) : Option Bool :=
  some (decide (1048576 < (p0.length : Int)))
/- spec.l1New -/
def s_l1New_j0 (p0 : List Int) (j0_0 : Int) : Option Cur :=
  some (Cur.mk p0 0 j0_0)
def s_l1New_j2 (p0 : List Int) (v1_0 : Int) (v1_1 : Int) (k1 : Int → Int → Option Cur) (j2_0 : Bool) : Option Cur :=
  bif j2_0 then (bnd1 (idx p0 v1_1) (fun x2 => k1 (iand .i64 (IntKind.i64.wrap ((IntKind.i64.wrap ((IntKind.i64.wrap (v1_0 * 137)) + (IntKind.i64.wrap x2))) + 11)) 1073741823) (IntKind.i64.wrap (v1_1 + 1)))) else (s_l1New_j0 p0 v1_0)
def s_l1New_l1 (p0 : List Int) : Nat → Int → Int → Option Cur
  | 0, _, _ => none
  | f1 + 1, v1_0, v1_1 => bif decide (v1_1 < (p0.length : Int)) then (s_l1New_j2 p0 v1_0 v1_1 (s_l1New_l1 p0 f1) (decide (v1_1 < 4000))) else (s_l1New_j2 p0 v1_0 v1_1 (s_l1New_l1 p0 f1) false)
def s_l1New (p0 : List Int) : Option Cur :=
  s_l1New_l1 p0 fuel0 (IntKind.i64.wrap (160909 + (p0.length : Int))) 0
/- spec.l1Byte -/
def s_l1Byte (p0 : Cur) : Option (Int × Cur) :=
  bif decide (p0.i < (p0.b.length : Int)) then (bnd1 (idx p0.b p0.i) (fun x2 => some ((iand .i64 (IntKind.i64.wrap ((iand .i64 (ixor .i64 (ishr .i64 (IntKind.i64.wrap ((IntKind.i64.wrap (p0.h * 6364136223846793005)) + 1442695040888963407)) 33) (ishr .i64 (IntKind.i64.wrap ((IntKind.i64.wrap (p0.h * 6364136223846793005)) + 1442695040888963407)) 47)) 255) + (IntKind.i64.wrap x2))) 255), Cur.mk p0.b (IntKind.i64.wrap (p0.i + 1)) (IntKind.i64.wrap ((IntKind.i64.wrap (p0.h * 6364136223846793005)) + 1442695040888963407))))) else (some ((iand .i64 (ixor .i64 (ishr .i64 (IntKind.i64.wrap ((IntKind.i64.wrap (p0.h * 6364136223846793005)) + 1442695040888963407)) 33) (ishr .i64 (IntKind.i64.wrap ((IntKind.i64.wrap (p0.h * 6364136223846793005)) + 1442695040888963407)) 47)) 255), Cur.mk p0.b p0.i (IntKind.i64.wrap ((IntKind.i64.wrap (p0.h * 6364136223846793005)) + 1442695040888963407))))
/- spec.l1Below -/
def s_l1Below (p0 : Cur) (p1 : Int) : Option (Int × Cur) :=
  bif decide (p1 ≤ 0) then (some (0, p0)) else (bif decide (p1 ≤ 256) then (bnd2 (s_l1Byte p0) (fun x3 x4 => grd (p1 ≠ 0) (some ((Int.tmod x3 p1), x4)))) else (bnd2 (s_l1Byte p0) (fun x7 x8 => bnd2 (s_l1Byte x8) (fun x10 x11 => bnd2 (s_l1Byte x11) (fun x13 x14 => grd (i64 (x7 * 65536)) (grd (i64 (x10 * 256)) (grd (i64 ((x7 * 65536) + (x10 * 256))) (grd (i64 (((x7 * 65536) + (x10 * 256)) + x13)) (grd (p1 ≠ 0) (some ((Int.tmod (((x7 * 65536) + (x10 * 256)) + x13) p1), x14)))))))))))
/- spec.l1Str -/
def s_l1Str (p0 : Cur) (p1 : List ByteArray) : Option (ByteArray × Cur) :=
  bnd2 (s_l1Below p0 (p1.length : Int)) (fun x1 x2 => bnd1 (idx p1 x1) (fun x4 => some (x4, x2)))
/- spec.l3Name -/
def s_l3Name (p0 : Cur) : Option (ByteArray × Cur) :=
  bnd2 (s_l1Str p0 ([(⟨#[]⟩ : ByteArray), (⟨#[99, 111, 109]⟩ : ByteArray), (⟨#[101, 120, 46, 99, 111, 109]⟩ : ByteArray), (⟨#[119, 119, 119, 46, 101, 120, 46, 99, 111, 109]⟩ : ByteArray), (⟨#[110, 115, 46, 101, 120, 46, 99, 111, 109]⟩ : ByteArray), (⟨#[111, 114, 103]⟩ : ByteArray), (⟨#[97, 46, 111, 114, 103]⟩ : ByteArray), (⟨#[98, 46, 97, 46, 111, 114, 103]⟩ : ByteArray), (⟨#[110, 115, 49, 46, 111, 114, 103]⟩ : ByteArray), (⟨#[120, 46, 121, 46, 122, 46, 101, 120, 46, 99, 111, 109]⟩ : ByteArray)])) (fun x1 x2 => some (x1, x2))
/- spec.l1Int -/
def s_l1Int (p0 : Cur) (p1 : List Int) : Option (Int × Cur) :=
  bnd2 (s_l1Below p0 (p1.length : Int)) (fun x1 x2 => bnd1 (idx p1 x1) (fun x4 => some (x4, x2)))
/- spec.l5Type -/
def s_l5Type (p0 : Cur) : Option (Int × Cur) :=
  bnd2 (s_l1Int p0 [1, 1, 1, 2, 2, 5, 6, 16]) (fun x1 x2 => some (x1, x2))
/- spec.l5Draw -/
def s_l5Draw_j0 (x1 : ByteArray) (x4 : Int) (x7 : Int) (x8 : Cur) (j0_0 : Bool) : Option (Rec × Cur) :=
  bif j0_0 then (bnd2 (s_l3Name x8) (fun x16 x17 => some ((Rec.mk x1 x4 x7 0 x16 (⟨#[]⟩ : ByteArray)), x17))) else (bif decide (x4 = 6) then (bnd2 (s_l3Name x8) (fun x20 x21 => bnd2 (s_l1Int x21 [0, 5, 60]) (fun x23 x24 => some ((Rec.mk x1 x4 x7 x23 x20 (⟨#[]⟩ : ByteArray)), x24)))) else (bif decide (x4 = 16) then (bnd2 (s_l1Str x8 ([(⟨#[]⟩ : ByteArray), (⟨#[104, 105]⟩ : ByteArray), (⟨#[116, 119, 101, 108, 118, 101, 98, 121, 116, 101, 115, 33]⟩ : ByteArray)])) (fun x27 x28 => some ((Rec.mk x1 x4 x7 0 (⟨#[]⟩ : ByteArray) x27), x28))) else (some ((Rec.mk x1 x4 x7 0 (⟨#[]⟩ : ByteArray) (⟨#[]⟩ : ByteArray)), x8))))
def s_l5Draw (p0 : Cur) : Option (Rec × Cur) :=
  bnd2 (s_l3Name p0) (fun x1 x2 => bnd2 (s_l5Type x2) (fun x4 x5 => bnd2 (s_l1Int x5 [0, 1, 5, 60, 300, 100000]) (fun x7 x8 => bif decide (x4 = 1) then (bnd2 (s_l1Below x8 9) (fun x11 x12 => grd (i64 (1 + x11)) (some ((Rec.mk x1 x4 x7 (1 + x11) (⟨#[]⟩ : ByteArray) (⟨#[]⟩ : ByteArray)), x12)))) else (bif decide (x4 = 2) then (s_l5Draw_j0 x1 x4 x7 x8 (decide (x4 = 2))) else (s_l5Draw_j0 x1 x4 x7 x8 (decide (x4 = 5)))))))
/- spec.l1Once -/
def s_l1Once (p0 : Cur) (p1 : Int) : Option (Bool × Cur) :=
  bnd2 (s_l1Below p0 p1) (fun x1 x2 => some ((decide (x1 = 0)), x2))
/- spec.l9Near -/
def s_l9Near_j1 (v0_3 : List Rec) (v0_4 : Int) (x5 : Rec) (x8 : ByteArray) (k0 : (List Int) → Int → Int → (List Rec) → Int → Option ((List Rec) × Cur)) (j1_0 : List Int) (j1_1 : Int) (j1_2 : Int) (j1_3 : Int) (j1_4 : Int) (j1_5 : ByteArray) (j1_6 : ByteArray) : Option ((List Rec) × Cur) :=
  grd ((v0_3 ++ [Rec.mk x8 j1_3 x5.ttl j1_4 j1_5 j1_6]).length ≤ 1099511627776) (grd (i64 (v0_4 - 1)) (k0 j1_0 j1_1 j1_2 (v0_3 ++ [Rec.mk x8 j1_3 x5.ttl j1_4 j1_5 j1_6]) (v0_4 - 1)))
def s_l9Near_l0  : Nat → (List Int) → Int → Int → (List Rec) → Int → Option ((List Rec) × Cur)
  | 0, _, _, _, _, _ => none
  | f0 + 1, v0_0, v0_1, v0_2, v0_3, v0_4 => bif decide (0 < v0_4) then (bnd2 (s_l5Draw (Cur.mk v0_0 v0_1 v0_2)) (fun x5 x6 => bnd2 (s_l1Str x6 ([(⟨#[101, 120, 46, 99, 111, 109]⟩ : ByteArray), (⟨#[110, 115, 46, 101, 120, 46, 99, 111, 109]⟩ : ByteArray)])) (fun x8 x9 => bnd2 (s_l1Once x9 2) (fun x11 x12 => bif x11 then (bnd2 (s_l1Below x12 3) (fun x15 x16 => s_l9Near_j1 v0_3 v0_4 x5 x8 (s_l9Near_l0 f0) x16.b x16.i x16.h 1 x15 (⟨#[]⟩ : ByteArray) (⟨#[]⟩ : ByteArray))) else (s_l9Near_j1 v0_3 v0_4 x5 x8 (s_l9Near_l0 f0) x12.b x12.i x12.h x5.ty x5.n x5.host x5.text))))) else (some (v0_3, Cur.mk v0_0 v0_1 v0_2))
def s_l9Near (p0 : Cur) : Option ((List Rec) × Cur) :=
  bnd2 (s_l1Below p0 6) (fun x1 x2 => s_l9Near_l0 fuel0 x2.b x2.i x2.h ([] : List Rec) x1)
/- spec.DrawKeysOf -/
def s_DrawKeysOf (p0 : List Int) : Option (List Rec) :=
  bnd1 (s_l1New p0) (fun x1 => bnd2 (s_l9Near x1) (fun x3 x4 => some x3))
/- spec.DrawSetOf -/
def s_DrawSetOf (p0 : List Int) : Option ((List Rec) × ByteArray × Int) :=
  bnd1 (s_l1New p0) (fun x1 => bnd2 (s_l9Near x1) (fun x3 x4 => bnd2 (s_l1Str x4 ([(⟨#[101, 120, 46, 99, 111, 109]⟩ : ByteArray), (⟨#[110, 115, 46, 101, 120, 46, 99, 111, 109]⟩ : ByteArray), (⟨#[99, 111, 109]⟩ : ByteArray)])) (fun x6 x7 => bnd2 (s_l5Type x7) (fun x9 x10 => some (x3, x6, x9)))))
/- spec.DrawWithTtl -/
def s_DrawWithTtl (p0 : List Int) : Option ((List Rec) × Int) :=
  bnd1 (s_l1New p0) (fun x1 => bnd2 (s_l9Near x1) (fun x3 x4 => bnd2 (s_l1Below x4 9) (fun x6 x7 => some (x3, x6))))
/- impl.Quest] -/
def slices_Index_Quest_l0 (p1 : Quest) : List Quest → Nat → Option Int
  | [], v0_0 => some (-1)
  | e0 :: rs0, v0_0 => bif (decide (p1.name = e0.name) && (decide (p1.ty = e0.ty) && true)) then (some (v0_0 : Int)) else (slices_Index_Quest_l0 p1 rs0 (v0_0 + 1))
def slices_Index_Quest (p0 : List Quest) (p1 : Quest) : Option Int :=
  slices_Index_Quest_l0 p1 p0 0
/- impl.Quest] -/
def slices_Contains_Quest (p0 : List Quest) (p1 : Quest) : Option Bool :=
  bnd1 (slices_Index_Quest p0 p1) (fun x1 => some (decide (0 ≤ x1)))
/- impl.KeysOf -/
def i_KeysOf_l0  : List Rec → (List Quest) → Nat → Option (List Quest)
  | [], v0_0, v0_1 => some v0_0
  | e0 :: rs0, v0_0, v0_1 => bnd1 (slices_Contains_Quest v0_0 (Quest.mk e0.name e0.ty)) (fun x2 => bif !x2 then (grd ((v0_0 ++ [Quest.mk e0.name e0.ty]).length ≤ 1099511627776) (i_KeysOf_l0 rs0 (v0_0 ++ [Quest.mk e0.name e0.ty]) (v0_1 + 1))) else (i_KeysOf_l0 rs0 v0_0 (v0_1 + 1)))
def i_KeysOf (p0 : List Rec) : Option (List Quest) :=
  i_KeysOf_l0 p0 ([] : List Quest) 0
/- impl.SetOf -/
def i_SetOf_j1 (v0_0 : List Rec) (v0_1 : Nat) (e0 : Rec) (k0 : (List Rec) → Nat → Option (List Rec)) (j1_0 : Bool) : Option (List Rec) :=
  bif j1_0 then (grd ((v0_0 ++ [e0]).length ≤ 1099511627776) (k0 (v0_0 ++ [e0]) (v0_1 + 1))) else (k0 v0_0 (v0_1 + 1))
def i_SetOf_l0 (p1 : ByteArray) (p2 : Int) : List Rec → (List Rec) → Nat → Option (List Rec)
  | [], v0_0, v0_1 => some v0_0
  | e0 :: rs0, v0_0, v0_1 => bif decide (e0.name = p1) then (i_SetOf_j1 v0_0 v0_1 e0 (i_SetOf_l0 p1 p2 rs0) (decide (e0.ty = p2))) else (i_SetOf_j1 v0_0 v0_1 e0 (i_SetOf_l0 p1 p2 rs0) false)
def i_SetOf (p0 : List Rec) (p1 : ByteArray) (p2 : Int) : Option (List Rec) :=
  i_SetOf_l0 p1 p2 p0 ([] : List Rec) 0
/- impl.LeastTtl -/
def i_LeastTtl_l0  : List Rec → Int → Nat → Option Int
  | [], v0_0, v0_1 => some v0_0
  | e0 :: rs0, v0_0, v0_1 => i_LeastTtl_l0 rs0 (if e0.ttl < v0_0 then e0.ttl else v0_0) (v0_1 + 1)
def i_LeastTtl (p0 : List Rec) : Option Int :=
  bif decide ((p0.length : Int) = 0) then (some 0) else (bnd1 (idx p0 0) (fun x2 => i_LeastTtl_l0 p0 x2.ttl 0))
/- spec.KeysOf -/
def s_KeysOf_j1 (v0_0 : List Quest) (v0_1 : Nat) (e0 : Rec) (k0 : (List Quest) → Nat → Option (List Quest)) (j1_0 : Bool) : Option (List Quest) :=
  bif !j1_0 then (grd ((v0_0 ++ [Quest.mk e0.name e0.ty]).length ≤ 1099511627776) (k0 (v0_0 ++ [Quest.mk e0.name e0.ty]) (v0_1 + 1))) else (k0 v0_0 (v0_1 + 1))
def s_KeysOf_l2 (v0_0 : List Quest) (v0_1 : Nat) (e0 : Rec) (k0 : (List Quest) → Nat → Option (List Quest)) : List Quest → Bool → Nat → Option (List Quest)
  | [], v2_0, v2_1 => s_KeysOf_j1 v0_0 v0_1 e0 (k0) v2_0
  | e2 :: rs2, v2_0, v2_1 => bif v2_0 then (s_KeysOf_l2 v0_0 v0_1 e0 k0 rs2 true (v2_1 + 1)) else (s_KeysOf_l2 v0_0 v0_1 e0 k0 rs2 (decide (e2.name = e0.name) && (decide (e2.ty = e0.ty) && true)) (v2_1 + 1))
def s_KeysOf_l0  : List Rec → (List Quest) → Nat → Option (List Quest)
  | [], v0_0, v0_1 => some v0_0
  | e0 :: rs0, v0_0, v0_1 => s_KeysOf_l2 v0_0 v0_1 e0 (s_KeysOf_l0 rs0) v0_0 false 0
def s_KeysOf (p0 : List Rec) : Option (List Quest) :=
  s_KeysOf_l0 p0 ([] : List Quest) 0
/- spec.SetOf -/
def s_SetOf_j1 (v0_0 : List Rec) (v0_1 : Nat) (e0 : Rec) (k0 : (List Rec) → Nat → Option (List Rec)) (j1_0 : Bool) : Option (List Rec) :=
  bif j1_0 then (grd ((v0_0 ++ [e0]).length ≤ 1099511627776) (k0 (v0_0 ++ [e0]) (v0_1 + 1))) else (k0 v0_0 (v0_1 + 1))
def s_SetOf_l0 (p1 : ByteArray) (p2 : Int) : List Rec → (List Rec) → Nat → Option (List Rec)
  | [], v0_0, v0_1 => some v0_0
  | e0 :: rs0, v0_0, v0_1 => bif decide (e0.name = p1) then (s_SetOf_j1 v0_0 v0_1 e0 (s_SetOf_l0 p1 p2 rs0) (decide (e0.ty = p2))) else (s_SetOf_j1 v0_0 v0_1 e0 (s_SetOf_l0 p1 p2 rs0) false)
def s_SetOf (p0 : List Rec) (p1 : ByteArray) (p2 : Int) : Option (List Rec) :=
  s_SetOf_l0 p1 p2 p0 ([] : List Rec) 0
/- laws.sameRecs -/
def w_sameRecs_l0 (p1 : List Rec) : List Rec → Nat → Option Bool
  | [], v0_0 => some true
  | e0 :: rs0, v0_0 => bnd1 (idx p1 (v0_0 : Int)) (fun x3 => bif !(decide (e0.name = x3.name) && (decide (e0.ty = x3.ty) && (decide (e0.ttl = x3.ttl) && (decide (e0.n = x3.n) && (decide (e0.host = x3.host) && (decide (e0.text = x3.text) && true)))))) then (some false) else (w_sameRecs_l0 p1 rs0 (v0_0 + 1)))
def w_sameRecs (p0 : List Rec) (p1 : List Rec) : Option Bool :=
  bif !decide ((p0.length : Int) = (p1.length : Int)) then (some false) else (w_sameRecs_l0 p1 p0 0)
/- impl.Record] -/
def slices_Clone_Record (p0 : List Rec) : Option (List Rec) :=
  grd ((([] : List Rec) ++ p0).length ≤ 1099511627776) (some (([] : List Rec) ++ p0))
/- impl.WithTtl -/
def i_WithTtl_l0 (p1 : Int) : List Rec → (List Rec) → Nat → Option (List Rec)
  | [], v0_0, v0_1 => some v0_0
  | e0 :: rs0, v0_0, v0_1 => bnd1 (idx v0_0 (v0_1 : Int)) (fun x4 => i_WithTtl_l0 p1 rs0 (v0_0.set ((v0_1 : Int).toNat) (Rec.mk x4.name x4.ty p1 x4.n x4.host x4.text)) (v0_1 + 1))
def i_WithTtl (p0 : List Rec) (p1 : Int) : Option (List Rec) :=
  bnd1 (slices_Clone_Record p0) (fun x1 => i_WithTtl_l0 p1 x1 x1 0)
/- spec.l7Copy -/
def s_l7Copy (p0 : List Rec) : Option (List Rec) :=
  grd ((([] : List Rec) ++ p0).length ≤ 1099511627776) (some (([] : List Rec) ++ p0))
/- spec.WithTtl -/
def s_WithTtl_l0 (p1 : Int) : Nat → (List Rec) → Int → Option (List Rec)
  | 0, _, _ => none
  | f0 + 1, v0_0, v0_1 => bif decide (v0_1 < (v0_0.length : Int)) then (bnd1 (idx v0_0 v0_1) (fun x4 => grd (i64 (v0_1 + 1)) (s_WithTtl_l0 p1 f0 (v0_0.set v0_1.toNat (Rec.mk x4.name x4.ty p1 x4.n x4.host x4.text)) (v0_1 + 1)))) else (some v0_0)
def s_WithTtl (p0 : List Rec) (p1 : Int) : Option (List Rec) :=
  bnd1 (s_l7Copy p0) (fun x1 => s_WithTtl_l0 p1 fuel0 x1 0)
/- spec.LeastTtl -/
def s_LeastTtl_j1 (v0_0 : Int) (v0_1 : Nat) (e0 : Rec) (k0 : Int → Nat → Option Int) (j1_0 : Bool) : Option Int :=
  bif j1_0 then (k0 e0.ttl (v0_1 + 1)) else (k0 v0_0 (v0_1 + 1))
def s_LeastTtl_l0  : List Rec → Int → Nat → Option Int
  | [], v0_0, v0_1 => some v0_0
  | e0 :: rs0, v0_0, v0_1 => bif decide ((v0_1 : Int) = 0) then (s_LeastTtl_j1 v0_0 v0_1 e0 (s_LeastTtl_l0 rs0) true) else (s_LeastTtl_j1 v0_0 v0_1 e0 (s_LeastTtl_l0 rs0) (decide (e0.ttl < v0_0)))
def s_LeastTtl (p0 : List Rec) : Option Int :=
  s_LeastTtl_l0 p0 0 0
/- laws.FnSets -/
def w_FnSets_j3 (x4 : List Rec) (x10 : List Rec) (x11 : Int) (j0_0 : Int) (j3_0 : Bool) : Option Bool :=
  bif j3_0 then (some false) else (bif decide (j0_0 = (x4.length : Int)) then (bif decide ((x10.length : Int) = 0) then (some true) else (bnd1 (i_WithTtl x10 x11) (fun x18 => bnd1 (i_LeastTtl x18) (fun x20 => some (decide (x20 = x11)))))) else (some false))
def w_FnSets_j0 (x4 : List Rec) (x6 : List Rec) (x7 : ByteArray) (x8 : Int) (x10 : List Rec) (x11 : Int) (x13 : List Quest) (j0_0 : Int) : Option Bool :=
  bnd1 (s_KeysOf x4) (fun x15 => bif !decide ((x13.length : Int) = (x15.length : Int)) then (w_FnSets_j3 x4 x10 x11 j0_0 true) else (bnd1 (i_SetOf x6 x7 x8) (fun x18 => bnd1 (s_SetOf x6 x7 x8) (fun x20 => bnd1 (w_sameRecs x18 x20) (fun x22 => bif !x22 then (w_FnSets_j3 x4 x10 x11 j0_0 true) else (bnd1 (i_WithTtl x10 x11) (fun x25 => bnd1 (s_WithTtl x10 x11) (fun x27 => bnd1 (w_sameRecs x25 x27) (fun x29 => bif !x29 then (w_FnSets_j3 x4 x10 x11 j0_0 true) else (bnd1 (i_LeastTtl x4) (fun x32 => bnd1 (s_LeastTtl x4) (fun x34 => w_FnSets_j3 x4 x10 x11 j0_0 (!decide (x32 = x34))))))))))))))
def w_FnSets_j2 (v1_0 : Int) (v1_1 : Nat) (x16 : List Rec) (k1 : Int → Nat → Option Bool) (j2_0 : Bool) : Option Bool :=
  bif j2_0 then (some false) else (k1 (v1_0 + (x16.length : Int)) (v1_1 + 1))
def w_FnSets_l1 (x4 : List Rec) (x6 : List Rec) (x7 : ByteArray) (x8 : Int) (x10 : List Rec) (x11 : Int) (x13 : List Quest) : List Quest → Int → Nat → Option Bool
  | [], v1_0, v1_1 => w_FnSets_j0 x4 x6 x7 x8 x10 x11 x13 v1_0
  | e1 :: rs1, v1_0, v1_1 => bnd1 (i_SetOf x4 e1.name e1.ty) (fun x16 => grd (i64 (v1_0 + (x16.length : Int))) (bif decide ((x16.length : Int) = 0) then (w_FnSets_j2 v1_0 v1_1 x16 (w_FnSets_l1 x4 x6 x7 x8 x10 x11 x13 rs1) true) else (bnd1 (i_LeastTtl x16) (fun x20 => bnd1 (idx x16 0) (fun x22 => w_FnSets_j2 v1_0 v1_1 x16 (w_FnSets_l1 x4 x6 x7 x8 x10 x11 x13 rs1) (decide (x22.ttl < x20)))))))
def w_FnSets (p0 : List Int) : Option Bool :=
  bnd1 (w_big p0) (fun x1 => bif x1 then (some true) else (bnd1 (s_DrawKeysOf p0) (fun x4 => bnd3 (s_DrawSetOf p0) (fun x6 x7 x8 => bnd2 (s_DrawWithTtl p0) (fun x10 x11 => bnd1 (i_KeysOf x4) (fun x13 => w_FnSets_l1 x4 x6 x7 x8 x10 x11 x13 x13 0 0))))))
end Go.Abs.M
