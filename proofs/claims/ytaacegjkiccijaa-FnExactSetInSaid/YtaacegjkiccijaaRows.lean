/-
  No cell of these rows narrows 'for every input' (looked for: loops, veiled, ifaces, maps, wideKeys, modest, calm, conditions, laid).
  DERIVED. THE GIVEN ROWS OF THIS SEAT. 3 by the template 'for every input the law returns true; each argument reads behind the call as it read before'; 0 by the template 'total and deterministic' (their statements: YtaacegjkiccijaaTotals.lean).
  GIVEN WITH THE SEED: the statements are not yours to turn. If you find one false, say at which input.
  Laid BY PROGRAM, IN A SANDBOX (cutbox-rows.mjs): the forced cells as the released guide's own fill.sh prints them over the translation f8519bc7c0e4c2da… (all of the seat's roots in one cut). By AI agents, Wed Nov 11 2026. No macro, syntax, notation, axiom, sorry.
-/
import Derived.Test.YtaacegjkiccijaaChecked
import GoSem.Claim
import GoSem.ClaimJoined
import GoSem.ClaimMapViews
import Derived.JoinedTies
import Derived.KernelRfl
namespace Go.Proofs.Ytaacegjkiccijaa
/- THE CELL 'sum', in the pinned program and in every row, IS THE sha256 OF THE DUMP (.gsa) THAT YtaacegjkiccijaaProg.lean LOADS. Nothing in Lean hashes anything: it is a label: what it is worth is what the hold of that sum in a sandbox is worth. -/
noncomputable def Try.pinned : Pinned := { name := "ytaacegjkiccijaa", sum := "f8519bc7c0e4c2da6c1de565a3840274175e215ca78070eba7a88c6afea8305d", checked := Try.checked }
namespace Rows
def none {H : Type} : Left H := { results := [], args := [] }

/-- 'laws.FnExactSameFact': WHATEVER THE INPUT: true; the input reads as it did. -/
def fnExactSameFactSpec : ChangeSpec := { name := "fnExactSameFact", fn := fun _ => fun
  | [d1, d2] => { results := [.lit (.bool true)], args := [d1, d2] }
  | _ => none }
def fnExactSameFactRow : OpenClaim := { program := "ytaacegjkiccijaa", sum := "f8519bc7c0e4c2da6c1de565a3840274175e215ca78070eba7a88c6afea8305d", func := "loop.example/g00497/laws.FnExactSameFact", spec := "fnExactSameFact", unfollowed := true, recurses := true, apart := false }
def FnExactSameFactSaid : Prop := fnExactSameFactRow.holds Try.pinned (OpenSpec.ofChange fnExactSameFactSpec)

/-- ITS FALSE NEIGHBOUR: 'it returns false'. Refute it at one input. -/
def fnExactSameFactWrong : ChangeSpec := { name := "fnExactSameFact", fn := fun _ => fun
  | [d1, d2] => { results := [.lit (.bool false)], args := [d1, d2] }
  | _ => none }
def FnExactSameFactWrongFalsely : Prop := fnExactSameFactRow.holds Try.pinned (OpenSpec.ofChange fnExactSameFactWrong)

/-- 'laws.FnExactGlue': WHATEVER THE INPUT: true; the input reads as it did. -/
def fnExactGlueSpec : ChangeSpec := { name := "fnExactGlue", fn := fun _ => fun
  | [d1, d2] => { results := [.lit (.bool true)], args := [d1, d2] }
  | _ => none }
def fnExactGlueRow : OpenClaim := { program := "ytaacegjkiccijaa", sum := "f8519bc7c0e4c2da6c1de565a3840274175e215ca78070eba7a88c6afea8305d", func := "loop.example/g00497/laws.FnExactGlue", spec := "fnExactGlue", apart := false }
def FnExactGlueSaid : Prop := fnExactGlueRow.holds Try.pinned (OpenSpec.ofChange fnExactGlueSpec)

/-- ITS FALSE NEIGHBOUR: 'it returns false'. Refute it at one input. -/
def fnExactGlueWrong : ChangeSpec := { name := "fnExactGlue", fn := fun _ => fun
  | [d1, d2] => { results := [.lit (.bool false)], args := [d1, d2] }
  | _ => none }
def FnExactGlueWrongFalsely : Prop := fnExactGlueRow.holds Try.pinned (OpenSpec.ofChange fnExactGlueWrong)

/-- 'laws.FnExactSetIn': WHATEVER THE INPUT: true; the input reads as it did. -/
def fnExactSetInSpec : ChangeSpec := { name := "fnExactSetIn", fn := fun _ => fun
  | [d] => { results := [.lit (.bool true)], args := [d] }
  | _ => none }
def fnExactSetInRow : OpenClaim := { program := "ytaacegjkiccijaa", sum := "f8519bc7c0e4c2da6c1de565a3840274175e215ca78070eba7a88c6afea8305d", func := "loop.example/g00497/laws.FnExactSetIn", spec := "fnExactSetIn", apart := false }
def FnExactSetInSaid : Prop := fnExactSetInRow.holds Try.pinned (OpenSpec.ofChange fnExactSetInSpec)

/-- ITS FALSE NEIGHBOUR: 'it returns false'. Refute it at one input. -/
def fnExactSetInWrong : ChangeSpec := { name := "fnExactSetIn", fn := fun _ => fun
  | [d] => { results := [.lit (.bool false)], args := [d] }
  | _ => none }
def FnExactSetInWrongFalsely : Prop := fnExactSetInRow.holds Try.pinned (OpenSpec.ofChange fnExactSetInWrong)

/- THE SECOND FORM. 'bulk': how many values and letters a reading holds, each counted each time it is reached (what is shared counts as often as it is met; a slice's spare places count too). A statement '..UptoSaid' is the law's where the arguments, and the package variables that the reading takes, are together of bulk at most 1048576: NARROWER than '..Said'. Prove '..Said' where nothing that the law and all that it calls make is longer than what came in: it says more and counts as full. Else prove '..UptoSaid'. A law counts once. -/
mutual
def uptoBulk {H : Type} : DataW H → Nat
  | .lit (.string bytes) => bytes.length + 1
  | .lit _ => 1
  | .nil => 1
  | .ptr d => uptoBulk d + 1
  | .slice elems spare => uptoBulkAll elems + uptoBulkAll spare + 1
  | .agg parts => uptoBulkAll parts + 1
  | .iface _ d => uptoBulk d + 1
  | .map entries => uptoBulkEntries entries + 1
  | .held _ => 1
def uptoBulkAll {H : Type} : List (DataW H) → Nat
  | [] => 0
  | d :: r => uptoBulk d + uptoBulkAll r
def uptoBulkEntries {H : Type} : List (Lit × DataW H) → Nat
  | [] => 0
  | x :: r => uptoBulkEntry x + uptoBulkEntries r
def uptoBulkEntry {H : Type} : Lit × DataW H → Nat
  | (.string bytes, d) => bytes.length + uptoBulk d + 1
  | (_, d) => uptoBulk d + 1
 end
def uptoSmall : (H : Type) → List (DataW H) → Bool := fun _ ds => decide (uptoBulkAll ds ≤ 1048576)
def OpenSpec.upto (s : _root_.Go.ChangeSpec) : _root_.Go.OpenSpec := { _root_.Go.OpenSpec.ofChange s with cond := some uptoSmall }

/-- 'laws.FnExactSameFact', WHERE WHAT IT READS IS OF BULK AT MOST 1048576: true; the input reads as it did. -/
def fnExactSameFactUptoRow : OpenClaim := { program := "ytaacegjkiccijaa", sum := "f8519bc7c0e4c2da6c1de565a3840274175e215ca78070eba7a88c6afea8305d", func := "loop.example/g00497/laws.FnExactSameFact", spec := "fnExactSameFact", unfollowed := true, recurses := true, apart := false, narrowed := true }
def FnExactSameFactUptoSaid : Prop := fnExactSameFactUptoRow.holds Try.pinned (OpenSpec.upto fnExactSameFactSpec)

/-- 'laws.FnExactGlue', WHERE WHAT IT READS IS OF BULK AT MOST 1048576: true; the input reads as it did. -/
def fnExactGlueUptoRow : OpenClaim := { program := "ytaacegjkiccijaa", sum := "f8519bc7c0e4c2da6c1de565a3840274175e215ca78070eba7a88c6afea8305d", func := "loop.example/g00497/laws.FnExactGlue", spec := "fnExactGlue", apart := false, narrowed := true }
def FnExactGlueUptoSaid : Prop := fnExactGlueUptoRow.holds Try.pinned (OpenSpec.upto fnExactGlueSpec)

/-- 'laws.FnExactSetIn', WHERE WHAT IT READS IS OF BULK AT MOST 1048576: true; the input reads as it did. -/
def fnExactSetInUptoRow : OpenClaim := { program := "ytaacegjkiccijaa", sum := "f8519bc7c0e4c2da6c1de565a3840274175e215ca78070eba7a88c6afea8305d", func := "loop.example/g00497/laws.FnExactSetIn", spec := "fnExactSetIn", apart := false, narrowed := true }
def FnExactSetInUptoSaid : Prop := fnExactSetInUptoRow.holds Try.pinned (OpenSpec.upto fnExactSetInSpec)

end Rows
end Go.Proofs.Ytaacegjkiccijaa
