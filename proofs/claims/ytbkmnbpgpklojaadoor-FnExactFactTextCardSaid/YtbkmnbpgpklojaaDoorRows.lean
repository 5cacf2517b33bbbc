/-
  NARROWER THAN 'FOR EVERY INPUT', by the rows' own cells (each row's printed sentence says how): FnZones: laid · FnClasses: laid · FnExactFactText: laid · FnDataSame: laid · FnServes: laid · FnKinds: laid · FnZonesBent: laid · FnClassesBent: laid.
  DERIVED. THE GIVEN ROWS OF THIS SEAT. 8 by the template 'for every input the law returns true; each argument reads behind the call as it read before'; 0 by the template 'total and deterministic' (their statements: YtbkmnbpgpklojaaDoorTotals.lean).
  GIVEN WITH THE SEED: the statements are not yours to turn. If you find one false, say at which input.
  Laid BY PROGRAM, IN A SANDBOX (cutbox-rows.mjs): the forced cells as the released guide's own fill.sh prints them over the translation a0d100735412d3ad… (all of the seat's roots in one cut). By AI agents, Wed Nov 11 2026. No macro, syntax, notation, axiom, sorry.
-/
import Derived.Test.YtbkmnbpgpklojaaDoorChecked
import GoSem.PinnedTables
import GoSem.Claim
import GoSem.ClaimJoined
import GoSem.ClaimMapViews
import Derived.JoinedTies
import Derived.KernelRfl
namespace Go.Proofs.YtbkmnbpgpklojaaDoor
/- THE CELL 'sum', in the pinned program and in every row, IS THE sha256 OF THE DUMP (.gsa) THAT YtbkmnbpgpklojaaDoorProg.lean LOADS. Nothing in Lean hashes anything: it is a label: what it is worth is what the hold of that sum in a sandbox is worth. -/
noncomputable def Tryd.pinned : Pinned := { name := "ytbkmnbpgpklojaadoor", sum := "a0d100735412d3adf5d53a3eb3ef493021c35e59b62a2140dc1241f1151a49c5", checked := Tryd.checked }
namespace Rows
def none {H : Type} : Left H := { results := [], args := [] }

/- WHAT THE LISTED PACKAGE-LEVEL VARIABLES READ AS WHEN THE CALL BEGINS. Each datum BY PROGRAM (the guide's laid-datum.mjs) off the statement by which the dump's own 'gosem.cut.vars' lays the variable. In a bare row this is a premise. The card (YtbkmnbpgpklojaaDoorCards.lean) ties it to the program's text. -/
def laid_unicode_utf8_acceptRanges {H : Type} : DataW H := .agg [.agg [.lit (.int .u8 128), .lit (.int .u8 191)], .agg [.lit (.int .u8 160), .lit (.int .u8 191)], .agg [.lit (.int .u8 128), .lit (.int .u8 159)], .agg [.lit (.int .u8 144), .lit (.int .u8 191)], .agg [.lit (.int .u8 128), .lit (.int .u8 143)], .agg [.lit (.int .u8 0), .lit (.int .u8 0)], .agg [.lit (.int .u8 0), .lit (.int .u8 0)], .agg [.lit (.int .u8 0), .lit (.int .u8 0)], .agg [.lit (.int .u8 0), .lit (.int .u8 0)], .agg [.lit (.int .u8 0), .lit (.int .u8 0)], .agg [.lit (.int .u8 0), .lit (.int .u8 0)], .agg [.lit (.int .u8 0), .lit (.int .u8 0)], .agg [.lit (.int .u8 0), .lit (.int .u8 0)], .agg [.lit (.int .u8 0), .lit (.int .u8 0)], .agg [.lit (.int .u8 0), .lit (.int .u8 0)], .agg [.lit (.int .u8 0), .lit (.int .u8 0)]]
/-- One of Go's own tables, pinned by name: the form's constant. -/
def laid_unicode_utf8_first : DataW Unit := Go.Pinned.utf8First

/-- 'laws.FnZones': WHATEVER THE INPUT: true; the input reads as it did. -/
def fnZonesSpec : ChangeSpec := { name := "fnZones", fn := fun _ => fun
  | [d] => { results := [.lit (.bool true)], args := [d] }
  | _ => none }
def fnZonesRow : OpenClaim := { program := "ytbkmnbpgpklojaadoor", sum := "a0d100735412d3adf5d53a3eb3ef493021c35e59b62a2140dc1241f1151a49c5", func := "loop.example/g00497/laws.FnZones", spec := "fnZones", inPlace := ["internal/bytealg.CountString", "internal/bytealg.IndexByteString", "internal/bytealg.IndexString"], unfollowed := true, recurses := true, named := ["unicode/utf8.first", "unicode/utf8.acceptRanges", "internal/bytealg.MaxLen"], apart := false, laid := [("unicode/utf8.acceptRanges", laid_unicode_utf8_acceptRanges), ("unicode/utf8.first", laid_unicode_utf8_first)] }
def FnZonesSaid : Prop := fnZonesRow.holds Tryd.pinned (OpenSpec.ofChange fnZonesSpec)

/-- ITS FALSE NEIGHBOUR: 'it returns false'. Refute it at one input. -/
def fnZonesWrong : ChangeSpec := { name := "fnZones", fn := fun _ => fun
  | [d] => { results := [.lit (.bool false)], args := [d] }
  | _ => none }
def FnZonesWrongFalsely : Prop := fnZonesRow.holds Tryd.pinned (OpenSpec.ofChange fnZonesWrong)

/-- 'laws.FnClasses': WHATEVER THE INPUT: true; the input reads as it did. -/
def fnClassesSpec : ChangeSpec := { name := "fnClasses", fn := fun _ => fun
  | [d] => { results := [.lit (.bool true)], args := [d] }
  | _ => none }
def fnClassesRow : OpenClaim := { program := "ytbkmnbpgpklojaadoor", sum := "a0d100735412d3adf5d53a3eb3ef493021c35e59b62a2140dc1241f1151a49c5", func := "loop.example/g00497/laws.FnClasses", spec := "fnClasses", inPlace := ["internal/bytealg.CountString", "internal/bytealg.IndexByteString", "internal/bytealg.IndexString", "internal/abi.NoEscape", "internal/bytealg.MakeNoZero"], unfollowed := true, recurses := true, named := ["unicode/utf8.first", "unicode/utf8.acceptRanges", "internal/bytealg.MaxLen"], apart := false, laid := [("unicode/utf8.acceptRanges", laid_unicode_utf8_acceptRanges), ("unicode/utf8.first", laid_unicode_utf8_first)] }
def FnClassesSaid : Prop := fnClassesRow.holds Tryd.pinned (OpenSpec.ofChange fnClassesSpec)

/-- ITS FALSE NEIGHBOUR: 'it returns false'. Refute it at one input. -/
def fnClassesWrong : ChangeSpec := { name := "fnClasses", fn := fun _ => fun
  | [d] => { results := [.lit (.bool false)], args := [d] }
  | _ => none }
def FnClassesWrongFalsely : Prop := fnClassesRow.holds Tryd.pinned (OpenSpec.ofChange fnClassesWrong)

/-- 'laws.FnExactFactText': WHATEVER THE INPUT: true; the input reads as it did. -/
def fnExactFactTextSpec : ChangeSpec := { name := "fnExactFactText", fn := fun _ => fun
  | [d] => { results := [.lit (.bool true)], args := [d] }
  | _ => none }
def fnExactFactTextRow : OpenClaim := { program := "ytbkmnbpgpklojaadoor", sum := "a0d100735412d3adf5d53a3eb3ef493021c35e59b62a2140dc1241f1151a49c5", func := "loop.example/g00497/laws.FnExactFactText", spec := "fnExactFactText", inPlace := ["internal/bytealg.CountString", "internal/bytealg.IndexByteString", "internal/bytealg.IndexString", "internal/abi.NoEscape", "internal/bytealg.MakeNoZero"], unfollowed := true, recurses := true, named := ["unicode/utf8.first", "unicode/utf8.acceptRanges", "internal/bytealg.MaxLen"], apart := false, laid := [("unicode/utf8.acceptRanges", laid_unicode_utf8_acceptRanges), ("unicode/utf8.first", laid_unicode_utf8_first)] }
def FnExactFactTextSaid : Prop := fnExactFactTextRow.holds Tryd.pinned (OpenSpec.ofChange fnExactFactTextSpec)

/-- ITS FALSE NEIGHBOUR: 'it returns false'. Refute it at one input. -/
def fnExactFactTextWrong : ChangeSpec := { name := "fnExactFactText", fn := fun _ => fun
  | [d] => { results := [.lit (.bool false)], args := [d] }
  | _ => none }
def FnExactFactTextWrongFalsely : Prop := fnExactFactTextRow.holds Tryd.pinned (OpenSpec.ofChange fnExactFactTextWrong)

/-- 'laws.FnDataSame': WHATEVER THE INPUT: true; the input reads as it did. -/
def fnDataSameSpec : ChangeSpec := { name := "fnDataSame", fn := fun _ => fun
  | [d] => { results := [.lit (.bool true)], args := [d] }
  | _ => none }
def fnDataSameRow : OpenClaim := { program := "ytbkmnbpgpklojaadoor", sum := "a0d100735412d3adf5d53a3eb3ef493021c35e59b62a2140dc1241f1151a49c5", func := "loop.example/g00497/laws.FnDataSame", spec := "fnDataSame", inPlace := ["internal/bytealg.CountString", "internal/bytealg.IndexByteString", "internal/bytealg.IndexString"], unfollowed := true, recurses := true, named := ["unicode/utf8.first", "unicode/utf8.acceptRanges", "internal/bytealg.MaxLen"], apart := false, laid := [("unicode/utf8.acceptRanges", laid_unicode_utf8_acceptRanges), ("unicode/utf8.first", laid_unicode_utf8_first)] }
def FnDataSameSaid : Prop := fnDataSameRow.holds Tryd.pinned (OpenSpec.ofChange fnDataSameSpec)

/-- ITS FALSE NEIGHBOUR: 'it returns false'. Refute it at one input. -/
def fnDataSameWrong : ChangeSpec := { name := "fnDataSame", fn := fun _ => fun
  | [d] => { results := [.lit (.bool false)], args := [d] }
  | _ => none }
def FnDataSameWrongFalsely : Prop := fnDataSameRow.holds Tryd.pinned (OpenSpec.ofChange fnDataSameWrong)

/-- 'laws.FnServes': WHATEVER THE INPUT: true; the input reads as it did. -/
def fnServesSpec : ChangeSpec := { name := "fnServes", fn := fun _ => fun
  | [d] => { results := [.lit (.bool true)], args := [d] }
  | _ => none }
def fnServesRow : OpenClaim := { program := "ytbkmnbpgpklojaadoor", sum := "a0d100735412d3adf5d53a3eb3ef493021c35e59b62a2140dc1241f1151a49c5", func := "loop.example/g00497/laws.FnServes", spec := "fnServes", inPlace := ["internal/bytealg.CountString", "internal/bytealg.IndexByteString", "internal/bytealg.IndexString"], unfollowed := true, recurses := true, named := ["unicode/utf8.first", "unicode/utf8.acceptRanges", "internal/bytealg.MaxLen"], apart := false, laid := [("unicode/utf8.acceptRanges", laid_unicode_utf8_acceptRanges), ("unicode/utf8.first", laid_unicode_utf8_first)] }
def FnServesSaid : Prop := fnServesRow.holds Tryd.pinned (OpenSpec.ofChange fnServesSpec)

/-- ITS FALSE NEIGHBOUR: 'it returns false'. Refute it at one input. -/
def fnServesWrong : ChangeSpec := { name := "fnServes", fn := fun _ => fun
  | [d] => { results := [.lit (.bool false)], args := [d] }
  | _ => none }
def FnServesWrongFalsely : Prop := fnServesRow.holds Tryd.pinned (OpenSpec.ofChange fnServesWrong)

/-- 'laws.FnKinds': WHATEVER THE INPUT: true; the input reads as it did. -/
def fnKindsSpec : ChangeSpec := { name := "fnKinds", fn := fun _ => fun
  | [d] => { results := [.lit (.bool true)], args := [d] }
  | _ => none }
def fnKindsRow : OpenClaim := { program := "ytbkmnbpgpklojaadoor", sum := "a0d100735412d3adf5d53a3eb3ef493021c35e59b62a2140dc1241f1151a49c5", func := "loop.example/g00497/laws.FnKinds", spec := "fnKinds", inPlace := ["internal/bytealg.CountString", "internal/bytealg.IndexByteString", "internal/bytealg.IndexString"], unfollowed := true, recurses := true, named := ["unicode/utf8.first", "unicode/utf8.acceptRanges", "internal/bytealg.MaxLen"], apart := false, laid := [("unicode/utf8.acceptRanges", laid_unicode_utf8_acceptRanges), ("unicode/utf8.first", laid_unicode_utf8_first)] }
def FnKindsSaid : Prop := fnKindsRow.holds Tryd.pinned (OpenSpec.ofChange fnKindsSpec)

/-- ITS FALSE NEIGHBOUR: 'it returns false'. Refute it at one input. -/
def fnKindsWrong : ChangeSpec := { name := "fnKinds", fn := fun _ => fun
  | [d] => { results := [.lit (.bool false)], args := [d] }
  | _ => none }
def FnKindsWrongFalsely : Prop := fnKindsRow.holds Tryd.pinned (OpenSpec.ofChange fnKindsWrong)

/-- 'laws.FnZonesBent': WHATEVER THE INPUT: true; the input reads as it did. -/
def fnZonesBentSpec : ChangeSpec := { name := "fnZonesBent", fn := fun _ => fun
  | [d] => { results := [.lit (.bool true)], args := [d] }
  | _ => none }
def fnZonesBentRow : OpenClaim := { program := "ytbkmnbpgpklojaadoor", sum := "a0d100735412d3adf5d53a3eb3ef493021c35e59b62a2140dc1241f1151a49c5", func := "loop.example/g00497/laws.FnZonesBent", spec := "fnZonesBent", inPlace := ["internal/bytealg.CountString", "internal/bytealg.IndexByteString", "internal/bytealg.IndexString"], unfollowed := true, recurses := true, named := ["unicode/utf8.first", "unicode/utf8.acceptRanges", "internal/bytealg.MaxLen"], apart := false, laid := [("unicode/utf8.acceptRanges", laid_unicode_utf8_acceptRanges), ("unicode/utf8.first", laid_unicode_utf8_first)] }
def FnZonesBentSaid : Prop := fnZonesBentRow.holds Tryd.pinned (OpenSpec.ofChange fnZonesBentSpec)

/-- ITS FALSE NEIGHBOUR: 'it returns false'. Refute it at one input. -/
def fnZonesBentWrong : ChangeSpec := { name := "fnZonesBent", fn := fun _ => fun
  | [d] => { results := [.lit (.bool false)], args := [d] }
  | _ => none }
def FnZonesBentWrongFalsely : Prop := fnZonesBentRow.holds Tryd.pinned (OpenSpec.ofChange fnZonesBentWrong)

/-- 'laws.FnClassesBent': WHATEVER THE INPUT: true; the input reads as it did. -/
def fnClassesBentSpec : ChangeSpec := { name := "fnClassesBent", fn := fun _ => fun
  | [d] => { results := [.lit (.bool true)], args := [d] }
  | _ => none }
def fnClassesBentRow : OpenClaim := { program := "ytbkmnbpgpklojaadoor", sum := "a0d100735412d3adf5d53a3eb3ef493021c35e59b62a2140dc1241f1151a49c5", func := "loop.example/g00497/laws.FnClassesBent", spec := "fnClassesBent", inPlace := ["internal/bytealg.CountString", "internal/bytealg.IndexByteString", "internal/bytealg.IndexString"], named := ["unicode/utf8.first", "unicode/utf8.acceptRanges", "internal/bytealg.MaxLen"], apart := false, laid := [("unicode/utf8.acceptRanges", laid_unicode_utf8_acceptRanges), ("unicode/utf8.first", laid_unicode_utf8_first)] }
def FnClassesBentSaid : Prop := fnClassesBentRow.holds Tryd.pinned (OpenSpec.ofChange fnClassesBentSpec)

/-- ITS FALSE NEIGHBOUR: 'it returns false'. Refute it at one input. -/
def fnClassesBentWrong : ChangeSpec := { name := "fnClassesBent", fn := fun _ => fun
  | [d] => { results := [.lit (.bool false)], args := [d] }
  | _ => none }
def FnClassesBentWrongFalsely : Prop := fnClassesBentRow.holds Tryd.pinned (OpenSpec.ofChange fnClassesBentWrong)

/- THE SECOND FORM. 'bulk': how many values and letters a reading holds, each counted each time it is reached (what is shared counts as often as it is met; a slice's spare places count too). A statement '..UptoSaid' is the law's where the arguments, and the package variables that the reading takes, are together of bulk at most 1048576: NARROWER than '..Said'. Prove '..Said' where nothing that the law and all that it calls make is longer than what came in: it says more and counts as full. Else prove '..UptoSaid'. A law counts once. -/
mutual
def uptoBulk {H : Type} : DataW H → Nat
  | .lit (.string bytes) => bytes.length + 1
  | .lit _ => 1
  | .nil => 1
  | .ptr d => uptoBulk d + 1
  | .slice elems spare => uptoBulkAll elems + uptoBulkAll spare + 1
  | .agg parts => uptoBulkAll parts + 1
  | .iface _ d => uptoBulk d + 1
  | .map entries => uptoBulkEntries entries + 1
  | .held _ => 1
def uptoBulkAll {H : Type} : List (DataW H) → Nat
  | [] => 0
  | d :: r => uptoBulk d + uptoBulkAll r
def uptoBulkEntries {H : Type} : List (Lit × DataW H) → Nat
  | [] => 0
  | x :: r => uptoBulkEntry x + uptoBulkEntries r
def uptoBulkEntry {H : Type} : Lit × DataW H → Nat
  | (.string bytes, d) => bytes.length + uptoBulk d + 1
  | (_, d) => uptoBulk d + 1
 end
def uptoSmall : (H : Type) → List (DataW H) → Bool := fun _ ds => decide (uptoBulkAll ds ≤ 1048576)
def OpenSpec.upto (s : _root_.Go.ChangeSpec) : _root_.Go.OpenSpec := { _root_.Go.OpenSpec.ofChange s with cond := some uptoSmall }

/-- 'laws.FnZones', WHERE WHAT IT READS IS OF BULK AT MOST 1048576: true; the input reads as it did. -/
def fnZonesUptoRow : OpenClaim := { program := "ytbkmnbpgpklojaadoor", sum := "a0d100735412d3adf5d53a3eb3ef493021c35e59b62a2140dc1241f1151a49c5", func := "loop.example/g00497/laws.FnZones", spec := "fnZones", inPlace := ["internal/bytealg.CountString", "internal/bytealg.IndexByteString", "internal/bytealg.IndexString"], unfollowed := true, recurses := true, named := ["unicode/utf8.first", "unicode/utf8.acceptRanges", "internal/bytealg.MaxLen"], apart := false, laid := [("unicode/utf8.acceptRanges", laid_unicode_utf8_acceptRanges), ("unicode/utf8.first", laid_unicode_utf8_first)], narrowed := true }
def FnZonesUptoSaid : Prop := fnZonesUptoRow.holds Tryd.pinned (OpenSpec.upto fnZonesSpec)

/-- 'laws.FnClasses', WHERE WHAT IT READS IS OF BULK AT MOST 1048576: true; the input reads as it did. -/
def fnClassesUptoRow : OpenClaim := { program := "ytbkmnbpgpklojaadoor", sum := "a0d100735412d3adf5d53a3eb3ef493021c35e59b62a2140dc1241f1151a49c5", func := "loop.example/g00497/laws.FnClasses", spec := "fnClasses", inPlace := ["internal/bytealg.CountString", "internal/bytealg.IndexByteString", "internal/bytealg.IndexString", "internal/abi.NoEscape", "internal/bytealg.MakeNoZero"], unfollowed := true, recurses := true, named := ["unicode/utf8.first", "unicode/utf8.acceptRanges", "internal/bytealg.MaxLen"], apart := false, laid := [("unicode/utf8.acceptRanges", laid_unicode_utf8_acceptRanges), ("unicode/utf8.first", laid_unicode_utf8_first)], narrowed := true }
def FnClassesUptoSaid : Prop := fnClassesUptoRow.holds Tryd.pinned (OpenSpec.upto fnClassesSpec)

/-- 'laws.FnExactFactText', WHERE WHAT IT READS IS OF BULK AT MOST 1048576: true; the input reads as it did. -/
def fnExactFactTextUptoRow : OpenClaim := { program := "ytbkmnbpgpklojaadoor", sum := "a0d100735412d3adf5d53a3eb3ef493021c35e59b62a2140dc1241f1151a49c5", func := "loop.example/g00497/laws.FnExactFactText", spec := "fnExactFactText", inPlace := ["internal/bytealg.CountString", "internal/bytealg.IndexByteString", "internal/bytealg.IndexString", "internal/abi.NoEscape", "internal/bytealg.MakeNoZero"], unfollowed := true, recurses := true, named := ["unicode/utf8.first", "unicode/utf8.acceptRanges", "internal/bytealg.MaxLen"], apart := false, laid := [("unicode/utf8.acceptRanges", laid_unicode_utf8_acceptRanges), ("unicode/utf8.first", laid_unicode_utf8_first)], narrowed := true }
def FnExactFactTextUptoSaid : Prop := fnExactFactTextUptoRow.holds Tryd.pinned (OpenSpec.upto fnExactFactTextSpec)

/-- 'laws.FnDataSame', WHERE WHAT IT READS IS OF BULK AT MOST 1048576: true; the input reads as it did. -/
def fnDataSameUptoRow : OpenClaim := { program := "ytbkmnbpgpklojaadoor", sum := "a0d100735412d3adf5d53a3eb3ef493021c35e59b62a2140dc1241f1151a49c5", func := "loop.example/g00497/laws.FnDataSame", spec := "fnDataSame", inPlace := ["internal/bytealg.CountString", "internal/bytealg.IndexByteString", "internal/bytealg.IndexString"], unfollowed := true, recurses := true, named := ["unicode/utf8.first", "unicode/utf8.acceptRanges", "internal/bytealg.MaxLen"], apart := false, laid := [("unicode/utf8.acceptRanges", laid_unicode_utf8_acceptRanges), ("unicode/utf8.first", laid_unicode_utf8_first)], narrowed := true }
def FnDataSameUptoSaid : Prop := fnDataSameUptoRow.holds Tryd.pinned (OpenSpec.upto fnDataSameSpec)

/-- 'laws.FnServes', WHERE WHAT IT READS IS OF BULK AT MOST 1048576: true; the input reads as it did. -/
def fnServesUptoRow : OpenClaim := { program := "ytbkmnbpgpklojaadoor", sum := "a0d100735412d3adf5d53a3eb3ef493021c35e59b62a2140dc1241f1151a49c5", func := "loop.example/g00497/laws.FnServes", spec := "fnServes", inPlace := ["internal/bytealg.CountString", "internal/bytealg.IndexByteString", "internal/bytealg.IndexString"], unfollowed := true, recurses := true, named := ["unicode/utf8.first", "unicode/utf8.acceptRanges", "internal/bytealg.MaxLen"], apart := false, laid := [("unicode/utf8.acceptRanges", laid_unicode_utf8_acceptRanges), ("unicode/utf8.first", laid_unicode_utf8_first)], narrowed := true }
def FnServesUptoSaid : Prop := fnServesUptoRow.holds Tryd.pinned (OpenSpec.upto fnServesSpec)

/-- 'laws.FnKinds', WHERE WHAT IT READS IS OF BULK AT MOST 1048576: true; the input reads as it did. -/
def fnKindsUptoRow : OpenClaim := { program := "ytbkmnbpgpklojaadoor", sum := "a0d100735412d3adf5d53a3eb3ef493021c35e59b62a2140dc1241f1151a49c5", func := "loop.example/g00497/laws.FnKinds", spec := "fnKinds", inPlace := ["internal/bytealg.CountString", "internal/bytealg.IndexByteString", "internal/bytealg.IndexString"], unfollowed := true, recurses := true, named := ["unicode/utf8.first", "unicode/utf8.acceptRanges", "internal/bytealg.MaxLen"], apart := false, laid := [("unicode/utf8.acceptRanges", laid_unicode_utf8_acceptRanges), ("unicode/utf8.first", laid_unicode_utf8_first)], narrowed := true }
def FnKindsUptoSaid : Prop := fnKindsUptoRow.holds Tryd.pinned (OpenSpec.upto fnKindsSpec)

/-- 'laws.FnZonesBent', WHERE WHAT IT READS IS OF BULK AT MOST 1048576: true; the input reads as it did. -/
def fnZonesBentUptoRow : OpenClaim := { program := "ytbkmnbpgpklojaadoor", sum := "a0d100735412d3adf5d53a3eb3ef493021c35e59b62a2140dc1241f1151a49c5", func := "loop.example/g00497/laws.FnZonesBent", spec := "fnZonesBent", inPlace := ["internal/bytealg.CountString", "internal/bytealg.IndexByteString", "internal/bytealg.IndexString"], unfollowed := true, recurses := true, named := ["unicode/utf8.first", "unicode/utf8.acceptRanges", "internal/bytealg.MaxLen"], apart := false, laid := [("unicode/utf8.acceptRanges", laid_unicode_utf8_acceptRanges), ("unicode/utf8.first", laid_unicode_utf8_first)], narrowed := true }
def FnZonesBentUptoSaid : Prop := fnZonesBentUptoRow.holds Tryd.pinned (OpenSpec.upto fnZonesBentSpec)

/-- 'laws.FnClassesBent', WHERE WHAT IT READS IS OF BULK AT MOST 1048576: true; the input reads as it did. -/
def fnClassesBentUptoRow : OpenClaim := { program := "ytbkmnbpgpklojaadoor", sum := "a0d100735412d3adf5d53a3eb3ef493021c35e59b62a2140dc1241f1151a49c5", func := "loop.example/g00497/laws.FnClassesBent", spec := "fnClassesBent", inPlace := ["internal/bytealg.CountString", "internal/bytealg.IndexByteString", "internal/bytealg.IndexString"], named := ["unicode/utf8.first", "unicode/utf8.acceptRanges", "internal/bytealg.MaxLen"], apart := false, laid := [("unicode/utf8.acceptRanges", laid_unicode_utf8_acceptRanges), ("unicode/utf8.first", laid_unicode_utf8_first)], narrowed := true }
def FnClassesBentUptoSaid : Prop := fnClassesBentUptoRow.holds Tryd.pinned (OpenSpec.upto fnClassesBentSpec)

end Rows
end Go.Proofs.YtbkmnbpgpklojaaDoor
