/-
  NARROWER THAN 'FOR EVERY INPUT', by the rows' own cells (each row's printed sentence says how): FnExactExists: laid · FnExactCutOf: laid · FnExactInZone: laid · FnExactDownIn: laid · FnExactNothingFor: laid · FnExactCutsOf: laid · FnExactClassOf: laid · FnExactServersIn: laid · FnExactHelpersIn: laid.
  DERIVED. THE GIVEN ROWS OF THIS SEAT. 9 by the template 'for every input the law returns true; each argument reads behind the call as it read before'; 0 by the template 'total and deterministic' (their statements: YtaacegjkiccijaaDoorTotals.lean).
  GIVEN WITH THE SEED: the statements are not yours to turn. If you find one false, say at which input.
  Laid BY PROGRAM, IN A SANDBOX (cutbox-rows.mjs): the forced cells as the released guide's own fill.sh prints them over the translation e0bd5953b4371a4e… (all of the seat's roots in one cut). By AI agents, Wed Nov 11 2026. No macro, syntax, notation, axiom, sorry.
-/
import Derived.Test.YtaacegjkiccijaaDoorChecked
import GoSem.PinnedTables
import GoSem.Claim
import GoSem.ClaimJoined
import GoSem.ClaimMapViews
import Derived.JoinedTies
import Derived.KernelRfl
namespace Go.Proofs.YtaacegjkiccijaaDoor
/- THE CELL 'sum', in the pinned program and in every row, IS THE sha256 OF THE DUMP (.gsa) THAT YtaacegjkiccijaaDoorProg.lean LOADS. Nothing in Lean hashes anything: it is a label: what it is worth is what the hold of that sum in a sandbox is worth. -/
noncomputable def Tryd.pinned : Pinned := { name := "ytaacegjkiccijaadoor", sum := "e0bd5953b4371a4e0a97cdac5969dfbc523632d4896b25621257dc3853a2d8c2", checked := Tryd.checked }
namespace Rows
def none {H : Type} : Left H := { results := [], args := [] }

/- WHAT THE LISTED PACKAGE-LEVEL VARIABLES READ AS WHEN THE CALL BEGINS. Each datum BY PROGRAM (the guide's laid-datum.mjs) off the statement by which the dump's own 'gosem.cut.vars' lays the variable. In a bare row this is a premise. The card (YtaacegjkiccijaaDoorCards.lean) ties it to the program's text. -/
def laid_unicode_utf8_acceptRanges {H : Type} : DataW H := .agg [.agg [.lit (.int .u8 128), .lit (.int .u8 191)], .agg [.lit (.int .u8 160), .lit (.int .u8 191)], .agg [.lit (.int .u8 128), .lit (.int .u8 159)], .agg [.lit (.int .u8 144), .lit (.int .u8 191)], .agg [.lit (.int .u8 128), .lit (.int .u8 143)], .agg [.lit (.int .u8 0), .lit (.int .u8 0)], .agg [.lit (.int .u8 0), .lit (.int .u8 0)], .agg [.lit (.int .u8 0), .lit (.int .u8 0)], .agg [.lit (.int .u8 0), .lit (.int .u8 0)], .agg [.lit (.int .u8 0), .lit (.int .u8 0)], .agg [.lit (.int .u8 0), .lit (.int .u8 0)], .agg [.lit (.int .u8 0), .lit (.int .u8 0)], .agg [.lit (.int .u8 0), .lit (.int .u8 0)], .agg [.lit (.int .u8 0), .lit (.int .u8 0)], .agg [.lit (.int .u8 0), .lit (.int .u8 0)], .agg [.lit (.int .u8 0), .lit (.int .u8 0)]]
/-- One of Go's own tables, pinned by name: the form's constant. -/
def laid_unicode_utf8_first : DataW Unit := Go.Pinned.utf8First

/-- 'laws.FnExactExists': WHATEVER THE INPUT: true; the input reads as it did. -/
def fnExactExistsSpec : ChangeSpec := { name := "fnExactExists", fn := fun _ => fun
  | [d1, d2] => { results := [.lit (.bool true)], args := [d1, d2] }
  | _ => none }
def fnExactExistsRow : OpenClaim := { program := "ytaacegjkiccijaadoor", sum := "e0bd5953b4371a4e0a97cdac5969dfbc523632d4896b25621257dc3853a2d8c2", func := "loop.example/g00497/laws.FnExactExists", spec := "fnExactExists", inPlace := ["internal/bytealg.CountString", "internal/bytealg.IndexByteString", "internal/bytealg.IndexString"], unfollowed := true, recurses := true, named := ["unicode/utf8.first", "unicode/utf8.acceptRanges", "internal/bytealg.MaxLen"], apart := false, laid := [("unicode/utf8.acceptRanges", laid_unicode_utf8_acceptRanges), ("unicode/utf8.first", laid_unicode_utf8_first)] }
def FnExactExistsSaid : Prop := fnExactExistsRow.holds Tryd.pinned (OpenSpec.ofChange fnExactExistsSpec)

/-- ITS FALSE NEIGHBOUR: 'it returns false'. Refute it at one input. -/
def fnExactExistsWrong : ChangeSpec := { name := "fnExactExists", fn := fun _ => fun
  | [d1, d2] => { results := [.lit (.bool false)], args := [d1, d2] }
  | _ => none }
def FnExactExistsWrongFalsely : Prop := fnExactExistsRow.holds Tryd.pinned (OpenSpec.ofChange fnExactExistsWrong)

/-- 'laws.FnExactCutOf': WHATEVER THE INPUT: true; the input reads as it did. -/
def fnExactCutOfSpec : ChangeSpec := { name := "fnExactCutOf", fn := fun _ => fun
  | [d1, d2] => { results := [.lit (.bool true)], args := [d1, d2] }
  | _ => none }
def fnExactCutOfRow : OpenClaim := { program := "ytaacegjkiccijaadoor", sum := "e0bd5953b4371a4e0a97cdac5969dfbc523632d4896b25621257dc3853a2d8c2", func := "loop.example/g00497/laws.FnExactCutOf", spec := "fnExactCutOf", inPlace := ["internal/bytealg.CountString", "internal/bytealg.IndexByteString", "internal/bytealg.IndexString"], named := ["unicode/utf8.first", "unicode/utf8.acceptRanges", "internal/bytealg.MaxLen"], apart := false, laid := [("unicode/utf8.acceptRanges", laid_unicode_utf8_acceptRanges), ("unicode/utf8.first", laid_unicode_utf8_first)] }
def FnExactCutOfSaid : Prop := fnExactCutOfRow.holds Tryd.pinned (OpenSpec.ofChange fnExactCutOfSpec)

/-- ITS FALSE NEIGHBOUR: 'it returns false'. Refute it at one input. -/
def fnExactCutOfWrong : ChangeSpec := { name := "fnExactCutOf", fn := fun _ => fun
  | [d1, d2] => { results := [.lit (.bool false)], args := [d1, d2] }
  | _ => none }
def FnExactCutOfWrongFalsely : Prop := fnExactCutOfRow.holds Tryd.pinned (OpenSpec.ofChange fnExactCutOfWrong)

/-- 'laws.FnExactInZone': WHATEVER THE INPUT: true; the input reads as it did. -/
def fnExactInZoneSpec : ChangeSpec := { name := "fnExactInZone", fn := fun _ => fun
  | [d1, d2] => { results := [.lit (.bool true)], args := [d1, d2] }
  | _ => none }
def fnExactInZoneRow : OpenClaim := { program := "ytaacegjkiccijaadoor", sum := "e0bd5953b4371a4e0a97cdac5969dfbc523632d4896b25621257dc3853a2d8c2", func := "loop.example/g00497/laws.FnExactInZone", spec := "fnExactInZone", inPlace := ["internal/bytealg.CountString", "internal/bytealg.IndexByteString", "internal/bytealg.IndexString"], named := ["unicode/utf8.first", "unicode/utf8.acceptRanges", "internal/bytealg.MaxLen"], apart := false, laid := [("unicode/utf8.acceptRanges", laid_unicode_utf8_acceptRanges), ("unicode/utf8.first", laid_unicode_utf8_first)] }
def FnExactInZoneSaid : Prop := fnExactInZoneRow.holds Tryd.pinned (OpenSpec.ofChange fnExactInZoneSpec)

/-- ITS FALSE NEIGHBOUR: 'it returns false'. Refute it at one input. -/
def fnExactInZoneWrong : ChangeSpec := { name := "fnExactInZone", fn := fun _ => fun
  | [d1, d2] => { results := [.lit (.bool false)], args := [d1, d2] }
  | _ => none }
def FnExactInZoneWrongFalsely : Prop := fnExactInZoneRow.holds Tryd.pinned (OpenSpec.ofChange fnExactInZoneWrong)

/-- 'laws.FnExactDownIn': WHATEVER THE INPUT: true; the input reads as it did. -/
def fnExactDownInSpec : ChangeSpec := { name := "fnExactDownIn", fn := fun _ => fun
  | [d1, d2] => { results := [.lit (.bool true)], args := [d1, d2] }
  | _ => none }
def fnExactDownInRow : OpenClaim := { program := "ytaacegjkiccijaadoor", sum := "e0bd5953b4371a4e0a97cdac5969dfbc523632d4896b25621257dc3853a2d8c2", func := "loop.example/g00497/laws.FnExactDownIn", spec := "fnExactDownIn", inPlace := ["internal/bytealg.CountString", "internal/bytealg.IndexByteString", "internal/bytealg.IndexString"], named := ["unicode/utf8.first", "unicode/utf8.acceptRanges", "internal/bytealg.MaxLen"], apart := false, laid := [("unicode/utf8.acceptRanges", laid_unicode_utf8_acceptRanges), ("unicode/utf8.first", laid_unicode_utf8_first)] }
def FnExactDownInSaid : Prop := fnExactDownInRow.holds Tryd.pinned (OpenSpec.ofChange fnExactDownInSpec)

/-- ITS FALSE NEIGHBOUR: 'it returns false'. Refute it at one input. -/
def fnExactDownInWrong : ChangeSpec := { name := "fnExactDownIn", fn := fun _ => fun
  | [d1, d2] => { results := [.lit (.bool false)], args := [d1, d2] }
  | _ => none }
def FnExactDownInWrongFalsely : Prop := fnExactDownInRow.holds Tryd.pinned (OpenSpec.ofChange fnExactDownInWrong)

/-- 'laws.FnExactNothingFor': WHATEVER THE INPUT: true; the input reads as it did. -/
def fnExactNothingForSpec : ChangeSpec := { name := "fnExactNothingFor", fn := fun _ => fun
  | [d1, d2] => { results := [.lit (.bool true)], args := [d1, d2] }
  | _ => none }
def fnExactNothingForRow : OpenClaim := { program := "ytaacegjkiccijaadoor", sum := "e0bd5953b4371a4e0a97cdac5969dfbc523632d4896b25621257dc3853a2d8c2", func := "loop.example/g00497/laws.FnExactNothingFor", spec := "fnExactNothingFor", inPlace := ["internal/bytealg.CountString", "internal/bytealg.IndexByteString", "internal/bytealg.IndexString"], named := ["unicode/utf8.first", "unicode/utf8.acceptRanges", "internal/bytealg.MaxLen"], apart := false, laid := [("unicode/utf8.acceptRanges", laid_unicode_utf8_acceptRanges), ("unicode/utf8.first", laid_unicode_utf8_first)] }
def FnExactNothingForSaid : Prop := fnExactNothingForRow.holds Tryd.pinned (OpenSpec.ofChange fnExactNothingForSpec)

/-- ITS FALSE NEIGHBOUR: 'it returns false'. Refute it at one input. -/
def fnExactNothingForWrong : ChangeSpec := { name := "fnExactNothingFor", fn := fun _ => fun
  | [d1, d2] => { results := [.lit (.bool false)], args := [d1, d2] }
  | _ => none }
def FnExactNothingForWrongFalsely : Prop := fnExactNothingForRow.holds Tryd.pinned (OpenSpec.ofChange fnExactNothingForWrong)

/-- 'laws.FnExactCutsOf': WHATEVER THE INPUT: true; the input reads as it did. -/
def fnExactCutsOfSpec : ChangeSpec := { name := "fnExactCutsOf", fn := fun _ => fun
  | [d] => { results := [.lit (.bool true)], args := [d] }
  | _ => none }
def fnExactCutsOfRow : OpenClaim := { program := "ytaacegjkiccijaadoor", sum := "e0bd5953b4371a4e0a97cdac5969dfbc523632d4896b25621257dc3853a2d8c2", func := "loop.example/g00497/laws.FnExactCutsOf", spec := "fnExactCutsOf", inPlace := ["internal/bytealg.CountString", "internal/bytealg.IndexByteString", "internal/bytealg.IndexString"], named := ["unicode/utf8.first", "unicode/utf8.acceptRanges", "internal/bytealg.MaxLen"], apart := false, laid := [("unicode/utf8.acceptRanges", laid_unicode_utf8_acceptRanges), ("unicode/utf8.first", laid_unicode_utf8_first)] }
def FnExactCutsOfSaid : Prop := fnExactCutsOfRow.holds Tryd.pinned (OpenSpec.ofChange fnExactCutsOfSpec)

/-- ITS FALSE NEIGHBOUR: 'it returns false'. Refute it at one input. -/
def fnExactCutsOfWrong : ChangeSpec := { name := "fnExactCutsOf", fn := fun _ => fun
  | [d] => { results := [.lit (.bool false)], args := [d] }
  | _ => none }
def FnExactCutsOfWrongFalsely : Prop := fnExactCutsOfRow.holds Tryd.pinned (OpenSpec.ofChange fnExactCutsOfWrong)

/-- 'laws.FnExactClassOf': WHATEVER THE INPUT: true; the input reads as it did. -/
def fnExactClassOfSpec : ChangeSpec := { name := "fnExactClassOf", fn := fun _ => fun
  | [d1, d2] => { results := [.lit (.bool true)], args := [d1, d2] }
  | _ => none }
def fnExactClassOfRow : OpenClaim := { program := "ytaacegjkiccijaadoor", sum := "e0bd5953b4371a4e0a97cdac5969dfbc523632d4896b25621257dc3853a2d8c2", func := "loop.example/g00497/laws.FnExactClassOf", spec := "fnExactClassOf", inPlace := ["internal/bytealg.CountString", "internal/bytealg.IndexByteString", "internal/bytealg.IndexString"], named := ["unicode/utf8.first", "unicode/utf8.acceptRanges", "internal/bytealg.MaxLen"], apart := false, laid := [("unicode/utf8.acceptRanges", laid_unicode_utf8_acceptRanges), ("unicode/utf8.first", laid_unicode_utf8_first)] }
def FnExactClassOfSaid : Prop := fnExactClassOfRow.holds Tryd.pinned (OpenSpec.ofChange fnExactClassOfSpec)

/-- ITS FALSE NEIGHBOUR: 'it returns false'. Refute it at one input. -/
def fnExactClassOfWrong : ChangeSpec := { name := "fnExactClassOf", fn := fun _ => fun
  | [d1, d2] => { results := [.lit (.bool false)], args := [d1, d2] }
  | _ => none }
def FnExactClassOfWrongFalsely : Prop := fnExactClassOfRow.holds Tryd.pinned (OpenSpec.ofChange fnExactClassOfWrong)

/-- 'laws.FnExactServersIn': WHATEVER THE INPUT: true; the input reads as it did. -/
def fnExactServersInSpec : ChangeSpec := { name := "fnExactServersIn", fn := fun _ => fun
  | [d1, d2] => { results := [.lit (.bool true)], args := [d1, d2] }
  | _ => none }
def fnExactServersInRow : OpenClaim := { program := "ytaacegjkiccijaadoor", sum := "e0bd5953b4371a4e0a97cdac5969dfbc523632d4896b25621257dc3853a2d8c2", func := "loop.example/g00497/laws.FnExactServersIn", spec := "fnExactServersIn", inPlace := ["internal/bytealg.CountString", "internal/bytealg.IndexByteString", "internal/bytealg.IndexString"], named := ["unicode/utf8.first", "unicode/utf8.acceptRanges", "internal/bytealg.MaxLen"], apart := false, laid := [("unicode/utf8.acceptRanges", laid_unicode_utf8_acceptRanges), ("unicode/utf8.first", laid_unicode_utf8_first)] }
def FnExactServersInSaid : Prop := fnExactServersInRow.holds Tryd.pinned (OpenSpec.ofChange fnExactServersInSpec)

/-- ITS FALSE NEIGHBOUR: 'it returns false'. Refute it at one input. -/
def fnExactServersInWrong : ChangeSpec := { name := "fnExactServersIn", fn := fun _ => fun
  | [d1, d2] => { results := [.lit (.bool false)], args := [d1, d2] }
  | _ => none }
def FnExactServersInWrongFalsely : Prop := fnExactServersInRow.holds Tryd.pinned (OpenSpec.ofChange fnExactServersInWrong)

/-- 'laws.FnExactHelpersIn': WHATEVER THE INPUT: true; the input reads as it did. -/
def fnExactHelpersInSpec : ChangeSpec := { name := "fnExactHelpersIn", fn := fun _ => fun
  | [d1, d2] => { results := [.lit (.bool true)], args := [d1, d2] }
  | _ => none }
def fnExactHelpersInRow : OpenClaim := { program := "ytaacegjkiccijaadoor", sum := "e0bd5953b4371a4e0a97cdac5969dfbc523632d4896b25621257dc3853a2d8c2", func := "loop.example/g00497/laws.FnExactHelpersIn", spec := "fnExactHelpersIn", inPlace := ["internal/bytealg.CountString", "internal/bytealg.IndexByteString", "internal/bytealg.IndexString"], named := ["unicode/utf8.first", "unicode/utf8.acceptRanges", "internal/bytealg.MaxLen"], apart := false, laid := [("unicode/utf8.acceptRanges", laid_unicode_utf8_acceptRanges), ("unicode/utf8.first", laid_unicode_utf8_first)] }
def FnExactHelpersInSaid : Prop := fnExactHelpersInRow.holds Tryd.pinned (OpenSpec.ofChange fnExactHelpersInSpec)

/-- ITS FALSE NEIGHBOUR: 'it returns false'. Refute it at one input. -/
def fnExactHelpersInWrong : ChangeSpec := { name := "fnExactHelpersIn", fn := fun _ => fun
  | [d1, d2] => { results := [.lit (.bool false)], args := [d1, d2] }
  | _ => none }
def FnExactHelpersInWrongFalsely : Prop := fnExactHelpersInRow.holds Tryd.pinned (OpenSpec.ofChange fnExactHelpersInWrong)

/- THE SECOND FORM. 'bulk': how many values and letters a reading holds, each counted each time it is reached (what is shared counts as often as it is met; a slice's spare places count too). A statement '..UptoSaid' is the law's where the arguments, and the package variables that the reading takes, are together of bulk at most 1048576: NARROWER than '..Said'. Prove '..Said' where nothing that the law and all that it calls make is longer than what came in: it says more and counts as full. Else prove '..UptoSaid'. A law counts once. -/
mutual
def uptoBulk {H : Type} : DataW H → Nat
  | .lit (.string bytes) => bytes.length + 1
  | .lit _ => 1
  | .nil => 1
  | .ptr d => uptoBulk d + 1
  | .slice elems spare => uptoBulkAll elems + uptoBulkAll spare + 1
  | .agg parts => uptoBulkAll parts + 1
  | .iface _ d => uptoBulk d + 1
  | .map entries => uptoBulkEntries entries + 1
  | .held _ => 1
def uptoBulkAll {H : Type} : List (DataW H) → Nat
  | [] => 0
  | d :: r => uptoBulk d + uptoBulkAll r
def uptoBulkEntries {H : Type} : List (Lit × DataW H) → Nat
  | [] => 0
  | x :: r => uptoBulkEntry x + uptoBulkEntries r
def uptoBulkEntry {H : Type} : Lit × DataW H → Nat
  | (.string bytes, d) => bytes.length + uptoBulk d + 1
  | (_, d) => uptoBulk d + 1
 end
def uptoSmall : (H : Type) → List (DataW H) → Bool := fun _ ds => decide (uptoBulkAll ds ≤ 1048576)
def OpenSpec.upto (s : _root_.Go.ChangeSpec) : _root_.Go.OpenSpec := { _root_.Go.OpenSpec.ofChange s with cond := some uptoSmall }

/-- 'laws.FnExactExists', WHERE WHAT IT READS IS OF BULK AT MOST 1048576: true; the input reads as it did. -/
def fnExactExistsUptoRow : OpenClaim := { program := "ytaacegjkiccijaadoor", sum := "e0bd5953b4371a4e0a97cdac5969dfbc523632d4896b25621257dc3853a2d8c2", func := "loop.example/g00497/laws.FnExactExists", spec := "fnExactExists", inPlace := ["internal/bytealg.CountString", "internal/bytealg.IndexByteString", "internal/bytealg.IndexString"], unfollowed := true, recurses := true, named := ["unicode/utf8.first", "unicode/utf8.acceptRanges", "internal/bytealg.MaxLen"], apart := false, laid := [("unicode/utf8.acceptRanges", laid_unicode_utf8_acceptRanges), ("unicode/utf8.first", laid_unicode_utf8_first)], narrowed := true }
def FnExactExistsUptoSaid : Prop := fnExactExistsUptoRow.holds Tryd.pinned (OpenSpec.upto fnExactExistsSpec)

/-- 'laws.FnExactCutOf', WHERE WHAT IT READS IS OF BULK AT MOST 1048576: true; the input reads as it did. -/
def fnExactCutOfUptoRow : OpenClaim := { program := "ytaacegjkiccijaadoor", sum := "e0bd5953b4371a4e0a97cdac5969dfbc523632d4896b25621257dc3853a2d8c2", func := "loop.example/g00497/laws.FnExactCutOf", spec := "fnExactCutOf", inPlace := ["internal/bytealg.CountString", "internal/bytealg.IndexByteString", "internal/bytealg.IndexString"], named := ["unicode/utf8.first", "unicode/utf8.acceptRanges", "internal/bytealg.MaxLen"], apart := false, laid := [("unicode/utf8.acceptRanges", laid_unicode_utf8_acceptRanges), ("unicode/utf8.first", laid_unicode_utf8_first)], narrowed := true }
def FnExactCutOfUptoSaid : Prop := fnExactCutOfUptoRow.holds Tryd.pinned (OpenSpec.upto fnExactCutOfSpec)

/-- 'laws.FnExactInZone', WHERE WHAT IT READS IS OF BULK AT MOST 1048576: true; the input reads as it did. -/
def fnExactInZoneUptoRow : OpenClaim := { program := "ytaacegjkiccijaadoor", sum := "e0bd5953b4371a4e0a97cdac5969dfbc523632d4896b25621257dc3853a2d8c2", func := "loop.example/g00497/laws.FnExactInZone", spec := "fnExactInZone", inPlace := ["internal/bytealg.CountString", "internal/bytealg.IndexByteString", "internal/bytealg.IndexString"], named := ["unicode/utf8.first", "unicode/utf8.acceptRanges", "internal/bytealg.MaxLen"], apart := false, laid := [("unicode/utf8.acceptRanges", laid_unicode_utf8_acceptRanges), ("unicode/utf8.first", laid_unicode_utf8_first)], narrowed := true }
def FnExactInZoneUptoSaid : Prop := fnExactInZoneUptoRow.holds Tryd.pinned (OpenSpec.upto fnExactInZoneSpec)

/-- 'laws.FnExactDownIn', WHERE WHAT IT READS IS OF BULK AT MOST 1048576: true; the input reads as it did. -/
def fnExactDownInUptoRow : OpenClaim := { program := "ytaacegjkiccijaadoor", sum := "e0bd5953b4371a4e0a97cdac5969dfbc523632d4896b25621257dc3853a2d8c2", func := "loop.example/g00497/laws.FnExactDownIn", spec := "fnExactDownIn", inPlace := ["internal/bytealg.CountString", "internal/bytealg.IndexByteString", "internal/bytealg.IndexString"], named := ["unicode/utf8.first", "unicode/utf8.acceptRanges", "internal/bytealg.MaxLen"], apart := false, laid := [("unicode/utf8.acceptRanges", laid_unicode_utf8_acceptRanges), ("unicode/utf8.first", laid_unicode_utf8_first)], narrowed := true }
def FnExactDownInUptoSaid : Prop := fnExactDownInUptoRow.holds Tryd.pinned (OpenSpec.upto fnExactDownInSpec)

/-- 'laws.FnExactNothingFor', WHERE WHAT IT READS IS OF BULK AT MOST 1048576: true; the input reads as it did. -/
def fnExactNothingForUptoRow : OpenClaim := { program := "ytaacegjkiccijaadoor", sum := "e0bd5953b4371a4e0a97cdac5969dfbc523632d4896b25621257dc3853a2d8c2", func := "loop.example/g00497/laws.FnExactNothingFor", spec := "fnExactNothingFor", inPlace := ["internal/bytealg.CountString", "internal/bytealg.IndexByteString", "internal/bytealg.IndexString"], named := ["unicode/utf8.first", "unicode/utf8.acceptRanges", "internal/bytealg.MaxLen"], apart := false, laid := [("unicode/utf8.acceptRanges", laid_unicode_utf8_acceptRanges), ("unicode/utf8.first", laid_unicode_utf8_first)], narrowed := true }
def FnExactNothingForUptoSaid : Prop := fnExactNothingForUptoRow.holds Tryd.pinned (OpenSpec.upto fnExactNothingForSpec)

/-- 'laws.FnExactCutsOf', WHERE WHAT IT READS IS OF BULK AT MOST 1048576: true; the input reads as it did. -/
def fnExactCutsOfUptoRow : OpenClaim := { program := "ytaacegjkiccijaadoor", sum := "e0bd5953b4371a4e0a97cdac5969dfbc523632d4896b25621257dc3853a2d8c2", func := "loop.example/g00497/laws.FnExactCutsOf", spec := "fnExactCutsOf", inPlace := ["internal/bytealg.CountString", "internal/bytealg.IndexByteString", "internal/bytealg.IndexString"], named := ["unicode/utf8.first", "unicode/utf8.acceptRanges", "internal/bytealg.MaxLen"], apart := false, laid := [("unicode/utf8.acceptRanges", laid_unicode_utf8_acceptRanges), ("unicode/utf8.first", laid_unicode_utf8_first)], narrowed := true }
def FnExactCutsOfUptoSaid : Prop := fnExactCutsOfUptoRow.holds Tryd.pinned (OpenSpec.upto fnExactCutsOfSpec)

/-- 'laws.FnExactClassOf', WHERE WHAT IT READS IS OF BULK AT MOST 1048576: true; the input reads as it did. -/
def fnExactClassOfUptoRow : OpenClaim := { program := "ytaacegjkiccijaadoor", sum := "e0bd5953b4371a4e0a97cdac5969dfbc523632d4896b25621257dc3853a2d8c2", func := "loop.example/g00497/laws.FnExactClassOf", spec := "fnExactClassOf", inPlace := ["internal/bytealg.CountString", "internal/bytealg.IndexByteString", "internal/bytealg.IndexString"], named := ["unicode/utf8.first", "unicode/utf8.acceptRanges", "internal/bytealg.MaxLen"], apart := false, laid := [("unicode/utf8.acceptRanges", laid_unicode_utf8_acceptRanges), ("unicode/utf8.first", laid_unicode_utf8_first)], narrowed := true }
def FnExactClassOfUptoSaid : Prop := fnExactClassOfUptoRow.holds Tryd.pinned (OpenSpec.upto fnExactClassOfSpec)

/-- 'laws.FnExactServersIn', WHERE WHAT IT READS IS OF BULK AT MOST 1048576: true; the input reads as it did. -/
def fnExactServersInUptoRow : OpenClaim := { program := "ytaacegjkiccijaadoor", sum := "e0bd5953b4371a4e0a97cdac5969dfbc523632d4896b25621257dc3853a2d8c2", func := "loop.example/g00497/laws.FnExactServersIn", spec := "fnExactServersIn", inPlace := ["internal/bytealg.CountString", "internal/bytealg.IndexByteString", "internal/bytealg.IndexString"], named := ["unicode/utf8.first", "unicode/utf8.acceptRanges", "internal/bytealg.MaxLen"], apart := false, laid := [("unicode/utf8.acceptRanges", laid_unicode_utf8_acceptRanges), ("unicode/utf8.first", laid_unicode_utf8_first)], narrowed := true }
def FnExactServersInUptoSaid : Prop := fnExactServersInUptoRow.holds Tryd.pinned (OpenSpec.upto fnExactServersInSpec)

/-- 'laws.FnExactHelpersIn', WHERE WHAT IT READS IS OF BULK AT MOST 1048576: true; the input reads as it did. -/
def fnExactHelpersInUptoRow : OpenClaim := { program := "ytaacegjkiccijaadoor", sum := "e0bd5953b4371a4e0a97cdac5969dfbc523632d4896b25621257dc3853a2d8c2", func := "loop.example/g00497/laws.FnExactHelpersIn", spec := "fnExactHelpersIn", inPlace := ["internal/bytealg.CountString", "internal/bytealg.IndexByteString", "internal/bytealg.IndexString"], named := ["unicode/utf8.first", "unicode/utf8.acceptRanges", "internal/bytealg.MaxLen"], apart := false, laid := [("unicode/utf8.acceptRanges", laid_unicode_utf8_acceptRanges), ("unicode/utf8.first", laid_unicode_utf8_first)], narrowed := true }
def FnExactHelpersInUptoSaid : Prop := fnExactHelpersInUptoRow.holds Tryd.pinned (OpenSpec.upto fnExactHelpersInSpec)

end Rows
end Go.Proofs.YtaacegjkiccijaaDoor
