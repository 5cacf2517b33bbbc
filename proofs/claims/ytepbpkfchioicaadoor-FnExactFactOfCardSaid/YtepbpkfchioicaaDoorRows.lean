/-
  NARROWER THAN 'FOR EVERY INPUT', by the rows' own cells (each row's printed sentence says how): FnExactZoneOf: laid · FnExactKindIn: laid · FnExactZoneAt: laid · FnExactAnswerIn: laid · FnExactMoreIn: laid · FnExactAddrsOf: laid · FnExactHelpIn: laid · FnExactZoneOk: laid · FnExactEndOf: laid · FnExactLinkAt: laid · FnExactServe: laid · FnExactFactOf: laid.
  DERIVED. THE GIVEN ROWS OF THIS SEAT. 12 by the template 'for every input the law returns true; each argument reads behind the call as it read before'; 0 by the template 'total and deterministic' (their statements: YtepbpkfchioicaaDoorTotals.lean).
  GIVEN WITH THE SEED: the statements are not yours to turn. If you find one false, say at which input.
  Laid BY PROGRAM, IN A SANDBOX (cutbox-rows.mjs): the forced cells as the released guide's own fill.sh prints them over the translation 480ca8838f570484… (all of the seat's roots in one cut). By AI agents, Wed Nov 11 2026. No macro, syntax, notation, axiom, sorry.
-/
import Derived.Test.YtepbpkfchioicaaDoorChecked
import GoSem.PinnedTables
import GoSem.Claim
import GoSem.ClaimJoined
import GoSem.ClaimMapViews
import Derived.JoinedTies
import Derived.KernelRfl
namespace Go.Proofs.YtepbpkfchioicaaDoor
/- THE CELL 'sum', in the pinned program and in every row, IS THE sha256 OF THE DUMP (.gsa) THAT YtepbpkfchioicaaDoorProg.lean LOADS. Nothing in Lean hashes anything: it is a label: what it is worth is what the hold of that sum in a sandbox is worth. -/
noncomputable def Tryd.pinned : Pinned := { name := "ytepbpkfchioicaadoor", sum := "480ca8838f5704849d1fec2f03022ed8357ab9175008a657c24f4ed91b2f9652", checked := Tryd.checked }
namespace Rows
def none {H : Type} : Left H := { results := [], args := [] }

/- WHAT THE LISTED PACKAGE-LEVEL VARIABLES READ AS WHEN THE CALL BEGINS. Each datum BY PROGRAM (the guide's laid-datum.mjs) off the statement by which the dump's own 'gosem.cut.vars' lays the variable. In a bare row this is a premise. The card (YtepbpkfchioicaaDoorCards.lean) ties it to the program's text. -/
def laid_unicode_utf8_acceptRanges {H : Type} : DataW H := .agg [.agg [.lit (.int .u8 128), .lit (.int .u8 191)], .agg [.lit (.int .u8 160), .lit (.int .u8 191)], .agg [.lit (.int .u8 128), .lit (.int .u8 159)], .agg [.lit (.int .u8 144), .lit (.int .u8 191)], .agg [.lit (.int .u8 128), .lit (.int .u8 143)], .agg [.lit (.int .u8 0), .lit (.int .u8 0)], .agg [.lit (.int .u8 0), .lit (.int .u8 0)], .agg [.lit (.int .u8 0), .lit (.int .u8 0)], .agg [.lit (.int .u8 0), .lit (.int .u8 0)], .agg [.lit (.int .u8 0), .lit (.int .u8 0)], .agg [.lit (.int .u8 0), .lit (.int .u8 0)], .agg [.lit (.int .u8 0), .lit (.int .u8 0)], .agg [.lit (.int .u8 0), .lit (.int .u8 0)], .agg [.lit (.int .u8 0), .lit (.int .u8 0)], .agg [.lit (.int .u8 0), .lit (.int .u8 0)], .agg [.lit (.int .u8 0), .lit (.int .u8 0)]]
/-- One of Go's own tables, pinned by name: the form's constant. -/
def laid_unicode_utf8_first : DataW Unit := Go.Pinned.utf8First

/-- 'laws.FnExactZoneOf': WHATEVER THE INPUT: true; the input reads as it did. -/
def fnExactZoneOfSpec : ChangeSpec := { name := "fnExactZoneOf", fn := fun _ => fun
  | [d1, d2] => { results := [.lit (.bool true)], args := [d1, d2] }
  | _ => none }
def fnExactZoneOfRow : OpenClaim := { program := "ytepbpkfchioicaadoor", sum := "480ca8838f5704849d1fec2f03022ed8357ab9175008a657c24f4ed91b2f9652", func := "loop.example/g00497/laws.FnExactZoneOf", spec := "fnExactZoneOf", inPlace := ["internal/bytealg.CountString", "internal/bytealg.IndexByteString", "internal/bytealg.IndexString"], unfollowed := true, recurses := true, named := ["unicode/utf8.first", "unicode/utf8.acceptRanges", "internal/bytealg.MaxLen"], apart := false, laid := [("unicode/utf8.acceptRanges", laid_unicode_utf8_acceptRanges), ("unicode/utf8.first", laid_unicode_utf8_first)] }
def FnExactZoneOfSaid : Prop := fnExactZoneOfRow.holds Tryd.pinned (OpenSpec.ofChange fnExactZoneOfSpec)

/-- ITS FALSE NEIGHBOUR: 'it returns false'. Refute it at one input. -/
def fnExactZoneOfWrong : ChangeSpec := { name := "fnExactZoneOf", fn := fun _ => fun
  | [d1, d2] => { results := [.lit (.bool false)], args := [d1, d2] }
  | _ => none }
def FnExactZoneOfWrongFalsely : Prop := fnExactZoneOfRow.holds Tryd.pinned (OpenSpec.ofChange fnExactZoneOfWrong)

/-- 'laws.FnExactKindIn': WHATEVER THE INPUT: true; the input reads as it did. -/
def fnExactKindInSpec : ChangeSpec := { name := "fnExactKindIn", fn := fun _ => fun
  | [d1, d2] => { results := [.lit (.bool true)], args := [d1, d2] }
  | _ => none }
def fnExactKindInRow : OpenClaim := { program := "ytepbpkfchioicaadoor", sum := "480ca8838f5704849d1fec2f03022ed8357ab9175008a657c24f4ed91b2f9652", func := "loop.example/g00497/laws.FnExactKindIn", spec := "fnExactKindIn", inPlace := ["internal/bytealg.CountString", "internal/bytealg.IndexByteString", "internal/bytealg.IndexString"], unfollowed := true, recurses := true, named := ["unicode/utf8.first", "unicode/utf8.acceptRanges", "internal/bytealg.MaxLen"], apart := false, laid := [("unicode/utf8.acceptRanges", laid_unicode_utf8_acceptRanges), ("unicode/utf8.first", laid_unicode_utf8_first)] }
def FnExactKindInSaid : Prop := fnExactKindInRow.holds Tryd.pinned (OpenSpec.ofChange fnExactKindInSpec)

/-- ITS FALSE NEIGHBOUR: 'it returns false'. Refute it at one input. -/
def fnExactKindInWrong : ChangeSpec := { name := "fnExactKindIn", fn := fun _ => fun
  | [d1, d2] => { results := [.lit (.bool false)], args := [d1, d2] }
  | _ => none }
def FnExactKindInWrongFalsely : Prop := fnExactKindInRow.holds Tryd.pinned (OpenSpec.ofChange fnExactKindInWrong)

/-- 'laws.FnExactZoneAt': WHATEVER THE INPUT: true; the input reads as it did. -/
def fnExactZoneAtSpec : ChangeSpec := { name := "fnExactZoneAt", fn := fun _ => fun
  | [d1, d2, d3] => { results := [.lit (.bool true)], args := [d1, d2, d3] }
  | _ => none }
def fnExactZoneAtRow : OpenClaim := { program := "ytepbpkfchioicaadoor", sum := "480ca8838f5704849d1fec2f03022ed8357ab9175008a657c24f4ed91b2f9652", func := "loop.example/g00497/laws.FnExactZoneAt", spec := "fnExactZoneAt", inPlace := ["internal/bytealg.CountString", "internal/bytealg.IndexByteString", "internal/bytealg.IndexString"], unfollowed := true, recurses := true, named := ["unicode/utf8.first", "unicode/utf8.acceptRanges", "internal/bytealg.MaxLen"], apart := false, laid := [("unicode/utf8.acceptRanges", laid_unicode_utf8_acceptRanges), ("unicode/utf8.first", laid_unicode_utf8_first)] }
def FnExactZoneAtSaid : Prop := fnExactZoneAtRow.holds Tryd.pinned (OpenSpec.ofChange fnExactZoneAtSpec)

/-- ITS FALSE NEIGHBOUR: 'it returns false'. Refute it at one input. -/
def fnExactZoneAtWrong : ChangeSpec := { name := "fnExactZoneAt", fn := fun _ => fun
  | [d1, d2, d3] => { results := [.lit (.bool false)], args := [d1, d2, d3] }
  | _ => none }
def FnExactZoneAtWrongFalsely : Prop := fnExactZoneAtRow.holds Tryd.pinned (OpenSpec.ofChange fnExactZoneAtWrong)

/-- 'laws.FnExactAnswerIn': WHATEVER THE INPUT: true; the input reads as it did. -/
def fnExactAnswerInSpec : ChangeSpec := { name := "fnExactAnswerIn", fn := fun _ => fun
  | [d1, d2] => { results := [.lit (.bool true)], args := [d1, d2] }
  | _ => none }
def fnExactAnswerInRow : OpenClaim := { program := "ytepbpkfchioicaadoor", sum := "480ca8838f5704849d1fec2f03022ed8357ab9175008a657c24f4ed91b2f9652", func := "loop.example/g00497/laws.FnExactAnswerIn", spec := "fnExactAnswerIn", inPlace := ["internal/bytealg.CountString", "internal/bytealg.IndexByteString", "internal/bytealg.IndexString"], unfollowed := true, recurses := true, named := ["unicode/utf8.first", "unicode/utf8.acceptRanges", "internal/bytealg.MaxLen"], apart := false, laid := [("unicode/utf8.acceptRanges", laid_unicode_utf8_acceptRanges), ("unicode/utf8.first", laid_unicode_utf8_first)] }
def FnExactAnswerInSaid : Prop := fnExactAnswerInRow.holds Tryd.pinned (OpenSpec.ofChange fnExactAnswerInSpec)

/-- ITS FALSE NEIGHBOUR: 'it returns false'. Refute it at one input. -/
def fnExactAnswerInWrong : ChangeSpec := { name := "fnExactAnswerIn", fn := fun _ => fun
  | [d1, d2] => { results := [.lit (.bool false)], args := [d1, d2] }
  | _ => none }
def FnExactAnswerInWrongFalsely : Prop := fnExactAnswerInRow.holds Tryd.pinned (OpenSpec.ofChange fnExactAnswerInWrong)

/-- 'laws.FnExactMoreIn': WHATEVER THE INPUT: true; the input reads as it did. -/
def fnExactMoreInSpec : ChangeSpec := { name := "fnExactMoreIn", fn := fun _ => fun
  | [d1, d2] => { results := [.lit (.bool true)], args := [d1, d2] }
  | _ => none }
def fnExactMoreInRow : OpenClaim := { program := "ytepbpkfchioicaadoor", sum := "480ca8838f5704849d1fec2f03022ed8357ab9175008a657c24f4ed91b2f9652", func := "loop.example/g00497/laws.FnExactMoreIn", spec := "fnExactMoreIn", inPlace := ["internal/bytealg.CountString", "internal/bytealg.IndexByteString", "internal/bytealg.IndexString"], unfollowed := true, recurses := true, named := ["unicode/utf8.first", "unicode/utf8.acceptRanges", "internal/bytealg.MaxLen"], apart := false, laid := [("unicode/utf8.acceptRanges", laid_unicode_utf8_acceptRanges), ("unicode/utf8.first", laid_unicode_utf8_first)] }
def FnExactMoreInSaid : Prop := fnExactMoreInRow.holds Tryd.pinned (OpenSpec.ofChange fnExactMoreInSpec)

/-- ITS FALSE NEIGHBOUR: 'it returns false'. Refute it at one input. -/
def fnExactMoreInWrong : ChangeSpec := { name := "fnExactMoreIn", fn := fun _ => fun
  | [d1, d2] => { results := [.lit (.bool false)], args := [d1, d2] }
  | _ => none }
def FnExactMoreInWrongFalsely : Prop := fnExactMoreInRow.holds Tryd.pinned (OpenSpec.ofChange fnExactMoreInWrong)

/-- 'laws.FnExactAddrsOf': WHATEVER THE INPUT: true; the input reads as it did. -/
def fnExactAddrsOfSpec : ChangeSpec := { name := "fnExactAddrsOf", fn := fun _ => fun
  | [d1, d2] => { results := [.lit (.bool true)], args := [d1, d2] }
  | _ => none }
def fnExactAddrsOfRow : OpenClaim := { program := "ytepbpkfchioicaadoor", sum := "480ca8838f5704849d1fec2f03022ed8357ab9175008a657c24f4ed91b2f9652", func := "loop.example/g00497/laws.FnExactAddrsOf", spec := "fnExactAddrsOf", inPlace := ["internal/bytealg.CountString", "internal/bytealg.IndexByteString", "internal/bytealg.IndexString"], unfollowed := true, recurses := true, named := ["unicode/utf8.first", "unicode/utf8.acceptRanges", "internal/bytealg.MaxLen"], apart := false, laid := [("unicode/utf8.acceptRanges", laid_unicode_utf8_acceptRanges), ("unicode/utf8.first", laid_unicode_utf8_first)] }
def FnExactAddrsOfSaid : Prop := fnExactAddrsOfRow.holds Tryd.pinned (OpenSpec.ofChange fnExactAddrsOfSpec)

/-- ITS FALSE NEIGHBOUR: 'it returns false'. Refute it at one input. -/
def fnExactAddrsOfWrong : ChangeSpec := { name := "fnExactAddrsOf", fn := fun _ => fun
  | [d1, d2] => { results := [.lit (.bool false)], args := [d1, d2] }
  | _ => none }
def FnExactAddrsOfWrongFalsely : Prop := fnExactAddrsOfRow.holds Tryd.pinned (OpenSpec.ofChange fnExactAddrsOfWrong)

/-- 'laws.FnExactHelpIn': WHATEVER THE INPUT: true; the input reads as it did. -/
def fnExactHelpInSpec : ChangeSpec := { name := "fnExactHelpIn", fn := fun _ => fun
  | [d1, d2] => { results := [.lit (.bool true)], args := [d1, d2] }
  | _ => none }
def fnExactHelpInRow : OpenClaim := { program := "ytepbpkfchioicaadoor", sum := "480ca8838f5704849d1fec2f03022ed8357ab9175008a657c24f4ed91b2f9652", func := "loop.example/g00497/laws.FnExactHelpIn", spec := "fnExactHelpIn", inPlace := ["internal/bytealg.CountString", "internal/bytealg.IndexByteString", "internal/bytealg.IndexString"], unfollowed := true, recurses := true, named := ["unicode/utf8.first", "unicode/utf8.acceptRanges", "internal/bytealg.MaxLen"], apart := false, laid := [("unicode/utf8.acceptRanges", laid_unicode_utf8_acceptRanges), ("unicode/utf8.first", laid_unicode_utf8_first)] }
def FnExactHelpInSaid : Prop := fnExactHelpInRow.holds Tryd.pinned (OpenSpec.ofChange fnExactHelpInSpec)

/-- ITS FALSE NEIGHBOUR: 'it returns false'. Refute it at one input. -/
def fnExactHelpInWrong : ChangeSpec := { name := "fnExactHelpIn", fn := fun _ => fun
  | [d1, d2] => { results := [.lit (.bool false)], args := [d1, d2] }
  | _ => none }
def FnExactHelpInWrongFalsely : Prop := fnExactHelpInRow.holds Tryd.pinned (OpenSpec.ofChange fnExactHelpInWrong)

/-- 'laws.FnExactZoneOk': WHATEVER THE INPUT: true; the input reads as it did. -/
def fnExactZoneOkSpec : ChangeSpec := { name := "fnExactZoneOk", fn := fun _ => fun
  | [d] => { results := [.lit (.bool true)], args := [d] }
  | _ => none }
def fnExactZoneOkRow : OpenClaim := { program := "ytepbpkfchioicaadoor", sum := "480ca8838f5704849d1fec2f03022ed8357ab9175008a657c24f4ed91b2f9652", func := "loop.example/g00497/laws.FnExactZoneOk", spec := "fnExactZoneOk", inPlace := ["internal/bytealg.CountString", "internal/bytealg.IndexByteString", "internal/bytealg.IndexString"], unfollowed := true, recurses := true, named := ["unicode/utf8.first", "unicode/utf8.acceptRanges", "internal/bytealg.MaxLen"], apart := false, laid := [("unicode/utf8.acceptRanges", laid_unicode_utf8_acceptRanges), ("unicode/utf8.first", laid_unicode_utf8_first)] }
def FnExactZoneOkSaid : Prop := fnExactZoneOkRow.holds Tryd.pinned (OpenSpec.ofChange fnExactZoneOkSpec)

/-- ITS FALSE NEIGHBOUR: 'it returns false'. Refute it at one input. -/
def fnExactZoneOkWrong : ChangeSpec := { name := "fnExactZoneOk", fn := fun _ => fun
  | [d] => { results := [.lit (.bool false)], args := [d] }
  | _ => none }
def FnExactZoneOkWrongFalsely : Prop := fnExactZoneOkRow.holds Tryd.pinned (OpenSpec.ofChange fnExactZoneOkWrong)

/-- 'laws.FnExactEndOf': WHATEVER THE INPUT: true; the input reads as it did. -/
def fnExactEndOfSpec : ChangeSpec := { name := "fnExactEndOf", fn := fun _ => fun
  | [d1, d2] => { results := [.lit (.bool true)], args := [d1, d2] }
  | _ => none }
def fnExactEndOfRow : OpenClaim := { program := "ytepbpkfchioicaadoor", sum := "480ca8838f5704849d1fec2f03022ed8357ab9175008a657c24f4ed91b2f9652", func := "loop.example/g00497/laws.FnExactEndOf", spec := "fnExactEndOf", inPlace := ["internal/bytealg.CountString", "internal/bytealg.IndexByteString", "internal/bytealg.IndexString"], unfollowed := true, recurses := true, named := ["unicode/utf8.first", "unicode/utf8.acceptRanges", "internal/bytealg.MaxLen"], apart := false, laid := [("unicode/utf8.acceptRanges", laid_unicode_utf8_acceptRanges), ("unicode/utf8.first", laid_unicode_utf8_first)] }
def FnExactEndOfSaid : Prop := fnExactEndOfRow.holds Tryd.pinned (OpenSpec.ofChange fnExactEndOfSpec)

/-- ITS FALSE NEIGHBOUR: 'it returns false'. Refute it at one input. -/
def fnExactEndOfWrong : ChangeSpec := { name := "fnExactEndOf", fn := fun _ => fun
  | [d1, d2] => { results := [.lit (.bool false)], args := [d1, d2] }
  | _ => none }
def FnExactEndOfWrongFalsely : Prop := fnExactEndOfRow.holds Tryd.pinned (OpenSpec.ofChange fnExactEndOfWrong)

/-- 'laws.FnExactLinkAt': WHATEVER THE INPUT: true; the input reads as it did. -/
def fnExactLinkAtSpec : ChangeSpec := { name := "fnExactLinkAt", fn := fun _ => fun
  | [d1, d2] => { results := [.lit (.bool true)], args := [d1, d2] }
  | _ => none }
def fnExactLinkAtRow : OpenClaim := { program := "ytepbpkfchioicaadoor", sum := "480ca8838f5704849d1fec2f03022ed8357ab9175008a657c24f4ed91b2f9652", func := "loop.example/g00497/laws.FnExactLinkAt", spec := "fnExactLinkAt", inPlace := ["internal/bytealg.CountString", "internal/bytealg.IndexByteString", "internal/bytealg.IndexString"], unfollowed := true, recurses := true, named := ["unicode/utf8.first", "unicode/utf8.acceptRanges", "internal/bytealg.MaxLen"], apart := false, laid := [("unicode/utf8.acceptRanges", laid_unicode_utf8_acceptRanges), ("unicode/utf8.first", laid_unicode_utf8_first)] }
def FnExactLinkAtSaid : Prop := fnExactLinkAtRow.holds Tryd.pinned (OpenSpec.ofChange fnExactLinkAtSpec)

/-- ITS FALSE NEIGHBOUR: 'it returns false'. Refute it at one input. -/
def fnExactLinkAtWrong : ChangeSpec := { name := "fnExactLinkAt", fn := fun _ => fun
  | [d1, d2] => { results := [.lit (.bool false)], args := [d1, d2] }
  | _ => none }
def FnExactLinkAtWrongFalsely : Prop := fnExactLinkAtRow.holds Tryd.pinned (OpenSpec.ofChange fnExactLinkAtWrong)

/-- 'laws.FnExactServe': WHATEVER THE INPUT: true; the input reads as it did. -/
def fnExactServeSpec : ChangeSpec := { name := "fnExactServe", fn := fun _ => fun
  | [d1, d2] => { results := [.lit (.bool true)], args := [d1, d2] }
  | _ => none }
def fnExactServeRow : OpenClaim := { program := "ytepbpkfchioicaadoor", sum := "480ca8838f5704849d1fec2f03022ed8357ab9175008a657c24f4ed91b2f9652", func := "loop.example/g00497/laws.FnExactServe", spec := "fnExactServe", inPlace := ["internal/bytealg.CountString", "internal/bytealg.IndexByteString", "internal/bytealg.IndexString"], unfollowed := true, recurses := true, named := ["unicode/utf8.first", "unicode/utf8.acceptRanges", "internal/bytealg.MaxLen"], apart := false, laid := [("unicode/utf8.acceptRanges", laid_unicode_utf8_acceptRanges), ("unicode/utf8.first", laid_unicode_utf8_first)] }
def FnExactServeSaid : Prop := fnExactServeRow.holds Tryd.pinned (OpenSpec.ofChange fnExactServeSpec)

/-- ITS FALSE NEIGHBOUR: 'it returns false'. Refute it at one input. -/
def fnExactServeWrong : ChangeSpec := { name := "fnExactServe", fn := fun _ => fun
  | [d1, d2] => { results := [.lit (.bool false)], args := [d1, d2] }
  | _ => none }
def FnExactServeWrongFalsely : Prop := fnExactServeRow.holds Tryd.pinned (OpenSpec.ofChange fnExactServeWrong)

/-- 'laws.FnExactFactOf': WHATEVER THE INPUT: true; the input reads as it did. -/
def fnExactFactOfSpec : ChangeSpec := { name := "fnExactFactOf", fn := fun _ => fun
  | [d1, d2] => { results := [.lit (.bool true)], args := [d1, d2] }
  | _ => none }
def fnExactFactOfRow : OpenClaim := { program := "ytepbpkfchioicaadoor", sum := "480ca8838f5704849d1fec2f03022ed8357ab9175008a657c24f4ed91b2f9652", func := "loop.example/g00497/laws.FnExactFactOf", spec := "fnExactFactOf", inPlace := ["internal/bytealg.CountString", "internal/bytealg.IndexByteString", "internal/bytealg.IndexString"], unfollowed := true, recurses := true, named := ["unicode/utf8.first", "unicode/utf8.acceptRanges", "internal/bytealg.MaxLen"], apart := false, laid := [("unicode/utf8.acceptRanges", laid_unicode_utf8_acceptRanges), ("unicode/utf8.first", laid_unicode_utf8_first)] }
def FnExactFactOfSaid : Prop := fnExactFactOfRow.holds Tryd.pinned (OpenSpec.ofChange fnExactFactOfSpec)

/-- ITS FALSE NEIGHBOUR: 'it returns false'. Refute it at one input. -/
def fnExactFactOfWrong : ChangeSpec := { name := "fnExactFactOf", fn := fun _ => fun
  | [d1, d2] => { results := [.lit (.bool false)], args := [d1, d2] }
  | _ => none }
def FnExactFactOfWrongFalsely : Prop := fnExactFactOfRow.holds Tryd.pinned (OpenSpec.ofChange fnExactFactOfWrong)

/- THE SECOND FORM. 'bulk': how many values and letters a reading holds, each counted each time it is reached (what is shared counts as often as it is met; a slice's spare places count too). A statement '..UptoSaid' is the law's where the arguments, and the package variables that the reading takes, are together of bulk at most 1048576: NARROWER than '..Said'. Prove '..Said' where nothing that the law and all that it calls make is longer than what came in: it says more and counts as full. Else prove '..UptoSaid'. A law counts once. -/
mutual
def uptoBulk {H : Type} : DataW H → Nat
  | .lit (.string bytes) => bytes.length + 1
  | .lit _ => 1
  | .nil => 1
  | .ptr d => uptoBulk d + 1
  | .slice elems spare => uptoBulkAll elems + uptoBulkAll spare + 1
  | .agg parts => uptoBulkAll parts + 1
  | .iface _ d => uptoBulk d + 1
  | .map entries => uptoBulkEntries entries + 1
  | .held _ => 1
def uptoBulkAll {H : Type} : List (DataW H) → Nat
  | [] => 0
  | d :: r => uptoBulk d + uptoBulkAll r
def uptoBulkEntries {H : Type} : List (Lit × DataW H) → Nat
  | [] => 0
  | x :: r => uptoBulkEntry x + uptoBulkEntries r
def uptoBulkEntry {H : Type} : Lit × DataW H → Nat
  | (.string bytes, d) => bytes.length + uptoBulk d + 1
  | (_, d) => uptoBulk d + 1
 end
def uptoSmall : (H : Type) → List (DataW H) → Bool := fun _ ds => decide (uptoBulkAll ds ≤ 1048576)
def OpenSpec.upto (s : _root_.Go.ChangeSpec) : _root_.Go.OpenSpec := { _root_.Go.OpenSpec.ofChange s with cond := some uptoSmall }

/-- 'laws.FnExactZoneOf', WHERE WHAT IT READS IS OF BULK AT MOST 1048576: true; the input reads as it did. -/
def fnExactZoneOfUptoRow : OpenClaim := { program := "ytepbpkfchioicaadoor", sum := "480ca8838f5704849d1fec2f03022ed8357ab9175008a657c24f4ed91b2f9652", func := "loop.example/g00497/laws.FnExactZoneOf", spec := "fnExactZoneOf", inPlace := ["internal/bytealg.CountString", "internal/bytealg.IndexByteString", "internal/bytealg.IndexString"], unfollowed := true, recurses := true, named := ["unicode/utf8.first", "unicode/utf8.acceptRanges", "internal/bytealg.MaxLen"], apart := false, laid := [("unicode/utf8.acceptRanges", laid_unicode_utf8_acceptRanges), ("unicode/utf8.first", laid_unicode_utf8_first)], narrowed := true }
def FnExactZoneOfUptoSaid : Prop := fnExactZoneOfUptoRow.holds Tryd.pinned (OpenSpec.upto fnExactZoneOfSpec)

/-- 'laws.FnExactKindIn', WHERE WHAT IT READS IS OF BULK AT MOST 1048576: true; the input reads as it did. -/
def fnExactKindInUptoRow : OpenClaim := { program := "ytepbpkfchioicaadoor", sum := "480ca8838f5704849d1fec2f03022ed8357ab9175008a657c24f4ed91b2f9652", func := "loop.example/g00497/laws.FnExactKindIn", spec := "fnExactKindIn", inPlace := ["internal/bytealg.CountString", "internal/bytealg.IndexByteString", "internal/bytealg.IndexString"], unfollowed := true, recurses := true, named := ["unicode/utf8.first", "unicode/utf8.acceptRanges", "internal/bytealg.MaxLen"], apart := false, laid := [("unicode/utf8.acceptRanges", laid_unicode_utf8_acceptRanges), ("unicode/utf8.first", laid_unicode_utf8_first)], narrowed := true }
def FnExactKindInUptoSaid : Prop := fnExactKindInUptoRow.holds Tryd.pinned (OpenSpec.upto fnExactKindInSpec)

/-- 'laws.FnExactZoneAt', WHERE WHAT IT READS IS OF BULK AT MOST 1048576: true; the input reads as it did. -/
def fnExactZoneAtUptoRow : OpenClaim := { program := "ytepbpkfchioicaadoor", sum := "480ca8838f5704849d1fec2f03022ed8357ab9175008a657c24f4ed91b2f9652", func := "loop.example/g00497/laws.FnExactZoneAt", spec := "fnExactZoneAt", inPlace := ["internal/bytealg.CountString", "internal/bytealg.IndexByteString", "internal/bytealg.IndexString"], unfollowed := true, recurses := true, named := ["unicode/utf8.first", "unicode/utf8.acceptRanges", "internal/bytealg.MaxLen"], apart := false, laid := [("unicode/utf8.acceptRanges", laid_unicode_utf8_acceptRanges), ("unicode/utf8.first", laid_unicode_utf8_first)], narrowed := true }
def FnExactZoneAtUptoSaid : Prop := fnExactZoneAtUptoRow.holds Tryd.pinned (OpenSpec.upto fnExactZoneAtSpec)

/-- 'laws.FnExactAnswerIn', WHERE WHAT IT READS IS OF BULK AT MOST 1048576: true; the input reads as it did. -/
def fnExactAnswerInUptoRow : OpenClaim := { program := "ytepbpkfchioicaadoor", sum := "480ca8838f5704849d1fec2f03022ed8357ab9175008a657c24f4ed91b2f9652", func := "loop.example/g00497/laws.FnExactAnswerIn", spec := "fnExactAnswerIn", inPlace := ["internal/bytealg.CountString", "internal/bytealg.IndexByteString", "internal/bytealg.IndexString"], unfollowed := true, recurses := true, named := ["unicode/utf8.first", "unicode/utf8.acceptRanges", "internal/bytealg.MaxLen"], apart := false, laid := [("unicode/utf8.acceptRanges", laid_unicode_utf8_acceptRanges), ("unicode/utf8.first", laid_unicode_utf8_first)], narrowed := true }
def FnExactAnswerInUptoSaid : Prop := fnExactAnswerInUptoRow.holds Tryd.pinned (OpenSpec.upto fnExactAnswerInSpec)

/-- 'laws.FnExactMoreIn', WHERE WHAT IT READS IS OF BULK AT MOST 1048576: true; the input reads as it did. -/
def fnExactMoreInUptoRow : OpenClaim := { program := "ytepbpkfchioicaadoor", sum := "480ca8838f5704849d1fec2f03022ed8357ab9175008a657c24f4ed91b2f9652", func := "loop.example/g00497/laws.FnExactMoreIn", spec := "fnExactMoreIn", inPlace := ["internal/bytealg.CountString", "internal/bytealg.IndexByteString", "internal/bytealg.IndexString"], unfollowed := true, recurses := true, named := ["unicode/utf8.first", "unicode/utf8.acceptRanges", "internal/bytealg.MaxLen"], apart := false, laid := [("unicode/utf8.acceptRanges", laid_unicode_utf8_acceptRanges), ("unicode/utf8.first", laid_unicode_utf8_first)], narrowed := true }
def FnExactMoreInUptoSaid : Prop := fnExactMoreInUptoRow.holds Tryd.pinned (OpenSpec.upto fnExactMoreInSpec)

/-- 'laws.FnExactAddrsOf', WHERE WHAT IT READS IS OF BULK AT MOST 1048576: true; the input reads as it did. -/
def fnExactAddrsOfUptoRow : OpenClaim := { program := "ytepbpkfchioicaadoor", sum := "480ca8838f5704849d1fec2f03022ed8357ab9175008a657c24f4ed91b2f9652", func := "loop.example/g00497/laws.FnExactAddrsOf", spec := "fnExactAddrsOf", inPlace := ["internal/bytealg.CountString", "internal/bytealg.IndexByteString", "internal/bytealg.IndexString"], unfollowed := true, recurses := true, named := ["unicode/utf8.first", "unicode/utf8.acceptRanges", "internal/bytealg.MaxLen"], apart := false, laid := [("unicode/utf8.acceptRanges", laid_unicode_utf8_acceptRanges), ("unicode/utf8.first", laid_unicode_utf8_first)], narrowed := true }
def FnExactAddrsOfUptoSaid : Prop := fnExactAddrsOfUptoRow.holds Tryd.pinned (OpenSpec.upto fnExactAddrsOfSpec)

/-- 'laws.FnExactHelpIn', WHERE WHAT IT READS IS OF BULK AT MOST 1048576: true; the input reads as it did. -/
def fnExactHelpInUptoRow : OpenClaim := { program := "ytepbpkfchioicaadoor", sum := "480ca8838f5704849d1fec2f03022ed8357ab9175008a657c24f4ed91b2f9652", func := "loop.example/g00497/laws.FnExactHelpIn", spec := "fnExactHelpIn", inPlace := ["internal/bytealg.CountString", "internal/bytealg.IndexByteString", "internal/bytealg.IndexString"], unfollowed := true, recurses := true, named := ["unicode/utf8.first", "unicode/utf8.acceptRanges", "internal/bytealg.MaxLen"], apart := false, laid := [("unicode/utf8.acceptRanges", laid_unicode_utf8_acceptRanges), ("unicode/utf8.first", laid_unicode_utf8_first)], narrowed := true }
def FnExactHelpInUptoSaid : Prop := fnExactHelpInUptoRow.holds Tryd.pinned (OpenSpec.upto fnExactHelpInSpec)

/-- 'laws.FnExactZoneOk', WHERE WHAT IT READS IS OF BULK AT MOST 1048576: true; the input reads as it did. -/
def fnExactZoneOkUptoRow : OpenClaim := { program := "ytepbpkfchioicaadoor", sum := "480ca8838f5704849d1fec2f03022ed8357ab9175008a657c24f4ed91b2f9652", func := "loop.example/g00497/laws.FnExactZoneOk", spec := "fnExactZoneOk", inPlace := ["internal/bytealg.CountString", "internal/bytealg.IndexByteString", "internal/bytealg.IndexString"], unfollowed := true, recurses := true, named := ["unicode/utf8.first", "unicode/utf8.acceptRanges", "internal/bytealg.MaxLen"], apart := false, laid := [("unicode/utf8.acceptRanges", laid_unicode_utf8_acceptRanges), ("unicode/utf8.first", laid_unicode_utf8_first)], narrowed := true }
def FnExactZoneOkUptoSaid : Prop := fnExactZoneOkUptoRow.holds Tryd.pinned (OpenSpec.upto fnExactZoneOkSpec)

/-- 'laws.FnExactEndOf', WHERE WHAT IT READS IS OF BULK AT MOST 1048576: true; the input reads as it did. -/
def fnExactEndOfUptoRow : OpenClaim := { program := "ytepbpkfchioicaadoor", sum := "480ca8838f5704849d1fec2f03022ed8357ab9175008a657c24f4ed91b2f9652", func := "loop.example/g00497/laws.FnExactEndOf", spec := "fnExactEndOf", inPlace := ["internal/bytealg.CountString", "internal/bytealg.IndexByteString", "internal/bytealg.IndexString"], unfollowed := true, recurses := true, named := ["unicode/utf8.first", "unicode/utf8.acceptRanges", "internal/bytealg.MaxLen"], apart := false, laid := [("unicode/utf8.acceptRanges", laid_unicode_utf8_acceptRanges), ("unicode/utf8.first", laid_unicode_utf8_first)], narrowed := true }
def FnExactEndOfUptoSaid : Prop := fnExactEndOfUptoRow.holds Tryd.pinned (OpenSpec.upto fnExactEndOfSpec)

/-- 'laws.FnExactLinkAt', WHERE WHAT IT READS IS OF BULK AT MOST 1048576: true; the input reads as it did. -/
def fnExactLinkAtUptoRow : OpenClaim := { program := "ytepbpkfchioicaadoor", sum := "480ca8838f5704849d1fec2f03022ed8357ab9175008a657c24f4ed91b2f9652", func := "loop.example/g00497/laws.FnExactLinkAt", spec := "fnExactLinkAt", inPlace := ["internal/bytealg.CountString", "internal/bytealg.IndexByteString", "internal/bytealg.IndexString"], unfollowed := true, recurses := true, named := ["unicode/utf8.first", "unicode/utf8.acceptRanges", "internal/bytealg.MaxLen"], apart := false, laid := [("unicode/utf8.acceptRanges", laid_unicode_utf8_acceptRanges), ("unicode/utf8.first", laid_unicode_utf8_first)], narrowed := true }
def FnExactLinkAtUptoSaid : Prop := fnExactLinkAtUptoRow.holds Tryd.pinned (OpenSpec.upto fnExactLinkAtSpec)

/-- 'laws.FnExactServe', WHERE WHAT IT READS IS OF BULK AT MOST 1048576: true; the input reads as it did. -/
def fnExactServeUptoRow : OpenClaim := { program := "ytepbpkfchioicaadoor", sum := "480ca8838f5704849d1fec2f03022ed8357ab9175008a657c24f4ed91b2f9652", func := "loop.example/g00497/laws.FnExactServe", spec := "fnExactServe", inPlace := ["internal/bytealg.CountString", "internal/bytealg.IndexByteString", "internal/bytealg.IndexString"], unfollowed := true, recurses := true, named := ["unicode/utf8.first", "unicode/utf8.acceptRanges", "internal/bytealg.MaxLen"], apart := false, laid := [("unicode/utf8.acceptRanges", laid_unicode_utf8_acceptRanges), ("unicode/utf8.first", laid_unicode_utf8_first)], narrowed := true }
def FnExactServeUptoSaid : Prop := fnExactServeUptoRow.holds Tryd.pinned (OpenSpec.upto fnExactServeSpec)

/-- 'laws.FnExactFactOf', WHERE WHAT IT READS IS OF BULK AT MOST 1048576: true; the input reads as it did. -/
def fnExactFactOfUptoRow : OpenClaim := { program := "ytepbpkfchioicaadoor", sum := "480ca8838f5704849d1fec2f03022ed8357ab9175008a657c24f4ed91b2f9652", func := "loop.example/g00497/laws.FnExactFactOf", spec := "fnExactFactOf", inPlace := ["internal/bytealg.CountString", "internal/bytealg.IndexByteString", "internal/bytealg.IndexString"], unfollowed := true, recurses := true, named := ["unicode/utf8.first", "unicode/utf8.acceptRanges", "internal/bytealg.MaxLen"], apart := false, laid := [("unicode/utf8.acceptRanges", laid_unicode_utf8_acceptRanges), ("unicode/utf8.first", laid_unicode_utf8_first)], narrowed := true }
def FnExactFactOfUptoSaid : Prop := fnExactFactOfUptoRow.holds Tryd.pinned (OpenSpec.upto fnExactFactOfSpec)

end Rows
end Go.Proofs.YtepbpkfchioicaaDoor
