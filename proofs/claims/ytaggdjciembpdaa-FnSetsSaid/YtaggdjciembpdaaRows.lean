/-
  No cell of these rows narrows 'for every input' (looked for: loops, veiled, ifaces, maps, wideKeys, modest, calm, conditions, laid).
  DERIVED. THE GIVEN ROWS OF THIS SEAT. 12 by the template 'for every input the law returns true; each argument reads behind the call as it read before'; 0 by the template 'total and deterministic' (their statements: YtaggdjciembpdaaTotals.lean).
  GIVEN WITH THE SEED: the statements are not yours to turn. If you find one false, say at which input.
  Laid BY PROGRAM, IN A SANDBOX (cutbox-rows.mjs): the forced cells as the released guide's own fill.sh prints them over the translation b2fc13569f963a27… (all of the seat's roots in one cut). By AI agents, Wed Nov 11 2026. No macro, syntax, notation, axiom, sorry.
-/
import Derived.Test.YtaggdjciembpdaaChecked
import GoSem.Claim
import GoSem.ClaimJoined
import GoSem.ClaimMapViews
import Derived.JoinedTies
import Derived.KernelRfl
namespace Go.Proofs.Ytaggdjciembpdaa
/- THE CELL 'sum', in the pinned program and in every row, IS THE sha256 OF THE DUMP (.gsa) THAT YtaggdjciembpdaaProg.lean LOADS. Nothing in Lean hashes anything: it is a label: what it is worth is what the hold of that sum in a sandbox is worth. -/
noncomputable def Try.pinned : Pinned := { name := "ytaggdjciembpdaa", sum := "b2fc13569f963a27e2b133fea165c39042ed3a8d1b1a975f7253a746eb050949", checked := Try.checked }
namespace Rows
def none {H : Type} : Left H := { results := [], args := [] }

/-- 'laws.FnExactKindText': WHATEVER THE INPUT: true; the input reads as it did. -/
def fnExactKindTextSpec : ChangeSpec := { name := "fnExactKindText", fn := fun _ => fun
  | [d] => { results := [.lit (.bool true)], args := [d] }
  | _ => none }
def fnExactKindTextRow : OpenClaim := { program := "ytaggdjciembpdaa", sum := "b2fc13569f963a27e2b133fea165c39042ed3a8d1b1a975f7253a746eb050949", func := "loop.example/g00497/laws.FnExactKindText", spec := "fnExactKindText", apart := false }
def FnExactKindTextSaid : Prop := fnExactKindTextRow.holds Try.pinned (OpenSpec.ofChange fnExactKindTextSpec)

/-- ITS FALSE NEIGHBOUR: 'it returns false'. Refute it at one input. -/
def fnExactKindTextWrong : ChangeSpec := { name := "fnExactKindText", fn := fun _ => fun
  | [d] => { results := [.lit (.bool false)], args := [d] }
  | _ => none }
def FnExactKindTextWrongFalsely : Prop := fnExactKindTextRow.holds Try.pinned (OpenSpec.ofChange fnExactKindTextWrong)

/-- 'laws.FnExactLeastTtl': WHATEVER THE INPUT: true; the input reads as it did. -/
def fnExactLeastTtlSpec : ChangeSpec := { name := "fnExactLeastTtl", fn := fun _ => fun
  | [d] => { results := [.lit (.bool true)], args := [d] }
  | _ => none }
def fnExactLeastTtlRow : OpenClaim := { program := "ytaggdjciembpdaa", sum := "b2fc13569f963a27e2b133fea165c39042ed3a8d1b1a975f7253a746eb050949", func := "loop.example/g00497/laws.FnExactLeastTtl", spec := "fnExactLeastTtl", apart := false }
def FnExactLeastTtlSaid : Prop := fnExactLeastTtlRow.holds Try.pinned (OpenSpec.ofChange fnExactLeastTtlSpec)

/-- ITS FALSE NEIGHBOUR: 'it returns false'. Refute it at one input. -/
def fnExactLeastTtlWrong : ChangeSpec := { name := "fnExactLeastTtl", fn := fun _ => fun
  | [d] => { results := [.lit (.bool false)], args := [d] }
  | _ => none }
def FnExactLeastTtlWrongFalsely : Prop := fnExactLeastTtlRow.holds Try.pinned (OpenSpec.ofChange fnExactLeastTtlWrong)

/-- 'laws.FnExactNoLater': WHATEVER THE INPUT: true; the input reads as it did. -/
def fnExactNoLaterSpec : ChangeSpec := { name := "fnExactNoLater", fn := fun _ => fun
  | [d1, d2] => { results := [.lit (.bool true)], args := [d1, d2] }
  | _ => none }
def fnExactNoLaterRow : OpenClaim := { program := "ytaggdjciembpdaa", sum := "b2fc13569f963a27e2b133fea165c39042ed3a8d1b1a975f7253a746eb050949", func := "loop.example/g00497/laws.FnExactNoLater", spec := "fnExactNoLater", unfollowed := true, recurses := true, apart := false }
def FnExactNoLaterSaid : Prop := fnExactNoLaterRow.holds Try.pinned (OpenSpec.ofChange fnExactNoLaterSpec)

/-- ITS FALSE NEIGHBOUR: 'it returns false'. Refute it at one input. -/
def fnExactNoLaterWrong : ChangeSpec := { name := "fnExactNoLater", fn := fun _ => fun
  | [d1, d2] => { results := [.lit (.bool false)], args := [d1, d2] }
  | _ => none }
def FnExactNoLaterWrongFalsely : Prop := fnExactNoLaterRow.holds Try.pinned (OpenSpec.ofChange fnExactNoLaterWrong)

/-- 'laws.FnExactStartOf': WHATEVER THE INPUT: true; the input reads as it did. -/
def fnExactStartOfSpec : ChangeSpec := { name := "fnExactStartOf", fn := fun _ => fun
  | [d] => { results := [.lit (.bool true)], args := [d] }
  | _ => none }
def fnExactStartOfRow : OpenClaim := { program := "ytaggdjciembpdaa", sum := "b2fc13569f963a27e2b133fea165c39042ed3a8d1b1a975f7253a746eb050949", func := "loop.example/g00497/laws.FnExactStartOf", spec := "fnExactStartOf", apart := false }
def FnExactStartOfSaid : Prop := fnExactStartOfRow.holds Try.pinned (OpenSpec.ofChange fnExactStartOfSpec)

/-- ITS FALSE NEIGHBOUR: 'it returns false'. Refute it at one input. -/
def fnExactStartOfWrong : ChangeSpec := { name := "fnExactStartOf", fn := fun _ => fun
  | [d] => { results := [.lit (.bool false)], args := [d] }
  | _ => none }
def FnExactStartOfWrongFalsely : Prop := fnExactStartOfRow.holds Try.pinned (OpenSpec.ofChange fnExactStartOfWrong)

/-- 'laws.FnExactSameData': WHATEVER THE INPUT: true; the input reads as it did. -/
def fnExactSameDataSpec : ChangeSpec := { name := "fnExactSameData", fn := fun _ => fun
  | [d1, d2] => { results := [.lit (.bool true)], args := [d1, d2] }
  | _ => none }
def fnExactSameDataRow : OpenClaim := { program := "ytaggdjciembpdaa", sum := "b2fc13569f963a27e2b133fea165c39042ed3a8d1b1a975f7253a746eb050949", func := "loop.example/g00497/laws.FnExactSameData", spec := "fnExactSameData", unfollowed := true, recurses := true, apart := false }
def FnExactSameDataSaid : Prop := fnExactSameDataRow.holds Try.pinned (OpenSpec.ofChange fnExactSameDataSpec)

/-- ITS FALSE NEIGHBOUR: 'it returns false'. Refute it at one input. -/
def fnExactSameDataWrong : ChangeSpec := { name := "fnExactSameData", fn := fun _ => fun
  | [d1, d2] => { results := [.lit (.bool false)], args := [d1, d2] }
  | _ => none }
def FnExactSameDataWrongFalsely : Prop := fnExactSameDataRow.holds Try.pinned (OpenSpec.ofChange fnExactSameDataWrong)

/-- 'laws.FnExactSetOf': WHATEVER THE INPUT: true; the input reads as it did. -/
def fnExactSetOfSpec : ChangeSpec := { name := "fnExactSetOf", fn := fun _ => fun
  | [d1, d2, d3] => { results := [.lit (.bool true)], args := [d1, d2, d3] }
  | _ => none }
def fnExactSetOfRow : OpenClaim := { program := "ytaggdjciembpdaa", sum := "b2fc13569f963a27e2b133fea165c39042ed3a8d1b1a975f7253a746eb050949", func := "loop.example/g00497/laws.FnExactSetOf", spec := "fnExactSetOf", apart := false }
def FnExactSetOfSaid : Prop := fnExactSetOfRow.holds Try.pinned (OpenSpec.ofChange fnExactSetOfSpec)

/-- ITS FALSE NEIGHBOUR: 'it returns false'. Refute it at one input. -/
def fnExactSetOfWrong : ChangeSpec := { name := "fnExactSetOf", fn := fun _ => fun
  | [d1, d2, d3] => { results := [.lit (.bool false)], args := [d1, d2, d3] }
  | _ => none }
def FnExactSetOfWrongFalsely : Prop := fnExactSetOfRow.holds Try.pinned (OpenSpec.ofChange fnExactSetOfWrong)

/-- 'laws.FnExactWithTtl': WHATEVER THE INPUT: true; the input reads as it did. -/
def fnExactWithTtlSpec : ChangeSpec := { name := "fnExactWithTtl", fn := fun _ => fun
  | [d1, d2] => { results := [.lit (.bool true)], args := [d1, d2] }
  | _ => none }
def fnExactWithTtlRow : OpenClaim := { program := "ytaggdjciembpdaa", sum := "b2fc13569f963a27e2b133fea165c39042ed3a8d1b1a975f7253a746eb050949", func := "loop.example/g00497/laws.FnExactWithTtl", spec := "fnExactWithTtl", apart := false }
def FnExactWithTtlSaid : Prop := fnExactWithTtlRow.holds Try.pinned (OpenSpec.ofChange fnExactWithTtlSpec)

/-- ITS FALSE NEIGHBOUR: 'it returns false'. Refute it at one input. -/
def fnExactWithTtlWrong : ChangeSpec := { name := "fnExactWithTtl", fn := fun _ => fun
  | [d1, d2] => { results := [.lit (.bool false)], args := [d1, d2] }
  | _ => none }
def FnExactWithTtlWrongFalsely : Prop := fnExactWithTtlRow.holds Try.pinned (OpenSpec.ofChange fnExactWithTtlWrong)

/-- 'laws.FnExactAddrs': WHATEVER THE INPUT: true; the input reads as it did. -/
def fnExactAddrsSpec : ChangeSpec := { name := "fnExactAddrs", fn := fun _ => fun
  | [d1, d2] => { results := [.lit (.bool true)], args := [d1, d2] }
  | _ => none }
def fnExactAddrsRow : OpenClaim := { program := "ytaggdjciembpdaa", sum := "b2fc13569f963a27e2b133fea165c39042ed3a8d1b1a975f7253a746eb050949", func := "loop.example/g00497/laws.FnExactAddrs", spec := "fnExactAddrs", apart := false }
def FnExactAddrsSaid : Prop := fnExactAddrsRow.holds Try.pinned (OpenSpec.ofChange fnExactAddrsSpec)

/-- ITS FALSE NEIGHBOUR: 'it returns false'. Refute it at one input. -/
def fnExactAddrsWrong : ChangeSpec := { name := "fnExactAddrs", fn := fun _ => fun
  | [d1, d2] => { results := [.lit (.bool false)], args := [d1, d2] }
  | _ => none }
def FnExactAddrsWrongFalsely : Prop := fnExactAddrsRow.holds Try.pinned (OpenSpec.ofChange fnExactAddrsWrong)

/-- 'laws.FnExactHosts': WHATEVER THE INPUT: true; the input reads as it did. -/
def fnExactHostsSpec : ChangeSpec := { name := "fnExactHosts", fn := fun _ => fun
  | [d] => { results := [.lit (.bool true)], args := [d] }
  | _ => none }
def fnExactHostsRow : OpenClaim := { program := "ytaggdjciembpdaa", sum := "b2fc13569f963a27e2b133fea165c39042ed3a8d1b1a975f7253a746eb050949", func := "loop.example/g00497/laws.FnExactHosts", spec := "fnExactHosts", apart := false }
def FnExactHostsSaid : Prop := fnExactHostsRow.holds Try.pinned (OpenSpec.ofChange fnExactHostsSpec)

/-- ITS FALSE NEIGHBOUR: 'it returns false'. Refute it at one input. -/
def fnExactHostsWrong : ChangeSpec := { name := "fnExactHosts", fn := fun _ => fun
  | [d] => { results := [.lit (.bool false)], args := [d] }
  | _ => none }
def FnExactHostsWrongFalsely : Prop := fnExactHostsRow.holds Try.pinned (OpenSpec.ofChange fnExactHostsWrong)

/-- 'laws.FnExactKeysOf': WHATEVER THE INPUT: true; the input reads as it did. -/
def fnExactKeysOfSpec : ChangeSpec := { name := "fnExactKeysOf", fn := fun _ => fun
  | [d] => { results := [.lit (.bool true)], args := [d] }
  | _ => none }
def fnExactKeysOfRow : OpenClaim := { program := "ytaggdjciembpdaa", sum := "b2fc13569f963a27e2b133fea165c39042ed3a8d1b1a975f7253a746eb050949", func := "loop.example/g00497/laws.FnExactKeysOf", spec := "fnExactKeysOf", apart := false }
def FnExactKeysOfSaid : Prop := fnExactKeysOfRow.holds Try.pinned (OpenSpec.ofChange fnExactKeysOfSpec)

/-- ITS FALSE NEIGHBOUR: 'it returns false'. Refute it at one input. -/
def fnExactKeysOfWrong : ChangeSpec := { name := "fnExactKeysOf", fn := fun _ => fun
  | [d] => { results := [.lit (.bool false)], args := [d] }
  | _ => none }
def FnExactKeysOfWrongFalsely : Prop := fnExactKeysOfRow.holds Try.pinned (OpenSpec.ofChange fnExactKeysOfWrong)

/-- 'laws.FnSets': WHATEVER THE INPUT: true; the input reads as it did. -/
def fnSetsSpec : ChangeSpec := { name := "fnSets", fn := fun _ => fun
  | [d] => { results := [.lit (.bool true)], args := [d] }
  | _ => none }
def fnSetsRow : OpenClaim := { program := "ytaggdjciembpdaa", sum := "b2fc13569f963a27e2b133fea165c39042ed3a8d1b1a975f7253a746eb050949", func := "loop.example/g00497/laws.FnSets", spec := "fnSets", apart := false }
def FnSetsSaid : Prop := fnSetsRow.holds Try.pinned (OpenSpec.ofChange fnSetsSpec)

/-- ITS FALSE NEIGHBOUR: 'it returns false'. Refute it at one input. -/
def fnSetsWrong : ChangeSpec := { name := "fnSets", fn := fun _ => fun
  | [d] => { results := [.lit (.bool false)], args := [d] }
  | _ => none }
def FnSetsWrongFalsely : Prop := fnSetsRow.holds Try.pinned (OpenSpec.ofChange fnSetsWrong)

/-- 'laws.FnExactAliasIn': WHATEVER THE INPUT: true; the input reads as it did. -/
def fnExactAliasInSpec : ChangeSpec := { name := "fnExactAliasIn", fn := fun _ => fun
  | [d] => { results := [.lit (.bool true)], args := [d] }
  | _ => none }
def fnExactAliasInRow : OpenClaim := { program := "ytaggdjciembpdaa", sum := "b2fc13569f963a27e2b133fea165c39042ed3a8d1b1a975f7253a746eb050949", func := "loop.example/g00497/laws.FnExactAliasIn", spec := "fnExactAliasIn", apart := false }
def FnExactAliasInSaid : Prop := fnExactAliasInRow.holds Try.pinned (OpenSpec.ofChange fnExactAliasInSpec)

/-- ITS FALSE NEIGHBOUR: 'it returns false'. Refute it at one input. -/
def fnExactAliasInWrong : ChangeSpec := { name := "fnExactAliasIn", fn := fun _ => fun
  | [d] => { results := [.lit (.bool false)], args := [d] }
  | _ => none }
def FnExactAliasInWrongFalsely : Prop := fnExactAliasInRow.holds Try.pinned (OpenSpec.ofChange fnExactAliasInWrong)

/- THE SECOND FORM. 'bulk': how many values and letters a reading holds, each counted each time it is reached (what is shared counts as often as it is met; a slice's spare places count too). A statement '..UptoSaid' is the law's where the arguments, and the package variables that the reading takes, are together of bulk at most 1048576: NARROWER than '..Said'. Prove '..Said' where nothing that the law and all that it calls make is longer than what came in: it says more and counts as full. Else prove '..UptoSaid'. A law counts once. -/
mutual
def uptoBulk {H : Type} : DataW H → Nat
  | .lit (.string bytes) => bytes.length + 1
  | .lit _ => 1
  | .nil => 1
  | .ptr d => uptoBulk d + 1
  | .slice elems spare => uptoBulkAll elems + uptoBulkAll spare + 1
  | .agg parts => uptoBulkAll parts + 1
  | .iface _ d => uptoBulk d + 1
  | .map entries => uptoBulkEntries entries + 1
  | .held _ => 1
def uptoBulkAll {H : Type} : List (DataW H) → Nat
  | [] => 0
  | d :: r => uptoBulk d + uptoBulkAll r
def uptoBulkEntries {H : Type} : List (Lit × DataW H) → Nat
  | [] => 0
  | x :: r => uptoBulkEntry x + uptoBulkEntries r
def uptoBulkEntry {H : Type} : Lit × DataW H → Nat
  | (.string bytes, d) => bytes.length + uptoBulk d + 1
  | (_, d) => uptoBulk d + 1
 end
def uptoSmall : (H : Type) → List (DataW H) → Bool := fun _ ds => decide (uptoBulkAll ds ≤ 1048576)
def OpenSpec.upto (s : _root_.Go.ChangeSpec) : _root_.Go.OpenSpec := { _root_.Go.OpenSpec.ofChange s with cond := some uptoSmall }

/-- 'laws.FnExactKindText', WHERE WHAT IT READS IS OF BULK AT MOST 1048576: true; the input reads as it did. -/
def fnExactKindTextUptoRow : OpenClaim := { program := "ytaggdjciembpdaa", sum := "b2fc13569f963a27e2b133fea165c39042ed3a8d1b1a975f7253a746eb050949", func := "loop.example/g00497/laws.FnExactKindText", spec := "fnExactKindText", apart := false, narrowed := true }
def FnExactKindTextUptoSaid : Prop := fnExactKindTextUptoRow.holds Try.pinned (OpenSpec.upto fnExactKindTextSpec)

/-- 'laws.FnExactLeastTtl', WHERE WHAT IT READS IS OF BULK AT MOST 1048576: true; the input reads as it did. -/
def fnExactLeastTtlUptoRow : OpenClaim := { program := "ytaggdjciembpdaa", sum := "b2fc13569f963a27e2b133fea165c39042ed3a8d1b1a975f7253a746eb050949", func := "loop.example/g00497/laws.FnExactLeastTtl", spec := "fnExactLeastTtl", apart := false, narrowed := true }
def FnExactLeastTtlUptoSaid : Prop := fnExactLeastTtlUptoRow.holds Try.pinned (OpenSpec.upto fnExactLeastTtlSpec)

/-- 'laws.FnExactNoLater', WHERE WHAT IT READS IS OF BULK AT MOST 1048576: true; the input reads as it did. -/
def fnExactNoLaterUptoRow : OpenClaim := { program := "ytaggdjciembpdaa", sum := "b2fc13569f963a27e2b133fea165c39042ed3a8d1b1a975f7253a746eb050949", func := "loop.example/g00497/laws.FnExactNoLater", spec := "fnExactNoLater", unfollowed := true, recurses := true, apart := false, narrowed := true }
def FnExactNoLaterUptoSaid : Prop := fnExactNoLaterUptoRow.holds Try.pinned (OpenSpec.upto fnExactNoLaterSpec)

/-- 'laws.FnExactStartOf', WHERE WHAT IT READS IS OF BULK AT MOST 1048576: true; the input reads as it did. -/
def fnExactStartOfUptoRow : OpenClaim := { program := "ytaggdjciembpdaa", sum := "b2fc13569f963a27e2b133fea165c39042ed3a8d1b1a975f7253a746eb050949", func := "loop.example/g00497/laws.FnExactStartOf", spec := "fnExactStartOf", apart := false, narrowed := true }
def FnExactStartOfUptoSaid : Prop := fnExactStartOfUptoRow.holds Try.pinned (OpenSpec.upto fnExactStartOfSpec)

/-- 'laws.FnExactSameData', WHERE WHAT IT READS IS OF BULK AT MOST 1048576: true; the input reads as it did. -/
def fnExactSameDataUptoRow : OpenClaim := { program := "ytaggdjciembpdaa", sum := "b2fc13569f963a27e2b133fea165c39042ed3a8d1b1a975f7253a746eb050949", func := "loop.example/g00497/laws.FnExactSameData", spec := "fnExactSameData", unfollowed := true, recurses := true, apart := false, narrowed := true }
def FnExactSameDataUptoSaid : Prop := fnExactSameDataUptoRow.holds Try.pinned (OpenSpec.upto fnExactSameDataSpec)

/-- 'laws.FnExactSetOf', WHERE WHAT IT READS IS OF BULK AT MOST 1048576: true; the input reads as it did. -/
def fnExactSetOfUptoRow : OpenClaim := { program := "ytaggdjciembpdaa", sum := "b2fc13569f963a27e2b133fea165c39042ed3a8d1b1a975f7253a746eb050949", func := "loop.example/g00497/laws.FnExactSetOf", spec := "fnExactSetOf", apart := false, narrowed := true }
def FnExactSetOfUptoSaid : Prop := fnExactSetOfUptoRow.holds Try.pinned (OpenSpec.upto fnExactSetOfSpec)

/-- 'laws.FnExactWithTtl', WHERE WHAT IT READS IS OF BULK AT MOST 1048576: true; the input reads as it did. -/
def fnExactWithTtlUptoRow : OpenClaim := { program := "ytaggdjciembpdaa", sum := "b2fc13569f963a27e2b133fea165c39042ed3a8d1b1a975f7253a746eb050949", func := "loop.example/g00497/laws.FnExactWithTtl", spec := "fnExactWithTtl", apart := false, narrowed := true }
def FnExactWithTtlUptoSaid : Prop := fnExactWithTtlUptoRow.holds Try.pinned (OpenSpec.upto fnExactWithTtlSpec)

/-- 'laws.FnExactAddrs', WHERE WHAT IT READS IS OF BULK AT MOST 1048576: true; the input reads as it did. -/
def fnExactAddrsUptoRow : OpenClaim := { program := "ytaggdjciembpdaa", sum := "b2fc13569f963a27e2b133fea165c39042ed3a8d1b1a975f7253a746eb050949", func := "loop.example/g00497/laws.FnExactAddrs", spec := "fnExactAddrs", apart := false, narrowed := true }
def FnExactAddrsUptoSaid : Prop := fnExactAddrsUptoRow.holds Try.pinned (OpenSpec.upto fnExactAddrsSpec)

/-- 'laws.FnExactHosts', WHERE WHAT IT READS IS OF BULK AT MOST 1048576: true; the input reads as it did. -/
def fnExactHostsUptoRow : OpenClaim := { program := "ytaggdjciembpdaa", sum := "b2fc13569f963a27e2b133fea165c39042ed3a8d1b1a975f7253a746eb050949", func := "loop.example/g00497/laws.FnExactHosts", spec := "fnExactHosts", apart := false, narrowed := true }
def FnExactHostsUptoSaid : Prop := fnExactHostsUptoRow.holds Try.pinned (OpenSpec.upto fnExactHostsSpec)

/-- 'laws.FnExactKeysOf', WHERE WHAT IT READS IS OF BULK AT MOST 1048576: true; the input reads as it did. -/
def fnExactKeysOfUptoRow : OpenClaim := { program := "ytaggdjciembpdaa", sum := "b2fc13569f963a27e2b133fea165c39042ed3a8d1b1a975f7253a746eb050949", func := "loop.example/g00497/laws.FnExactKeysOf", spec := "fnExactKeysOf", apart := false, narrowed := true }
def FnExactKeysOfUptoSaid : Prop := fnExactKeysOfUptoRow.holds Try.pinned (OpenSpec.upto fnExactKeysOfSpec)

/-- 'laws.FnSets', WHERE WHAT IT READS IS OF BULK AT MOST 1048576: true; the input reads as it did. -/
def fnSetsUptoRow : OpenClaim := { program := "ytaggdjciembpdaa", sum := "b2fc13569f963a27e2b133fea165c39042ed3a8d1b1a975f7253a746eb050949", func := "loop.example/g00497/laws.FnSets", spec := "fnSets", apart := false, narrowed := true }
def FnSetsUptoSaid : Prop := fnSetsUptoRow.holds Try.pinned (OpenSpec.upto fnSetsSpec)

/-- 'laws.FnExactAliasIn', WHERE WHAT IT READS IS OF BULK AT MOST 1048576: true; the input reads as it did. -/
def fnExactAliasInUptoRow : OpenClaim := { program := "ytaggdjciembpdaa", sum := "b2fc13569f963a27e2b133fea165c39042ed3a8d1b1a975f7253a746eb050949", func := "loop.example/g00497/laws.FnExactAliasIn", spec := "fnExactAliasIn", apart := false, narrowed := true }
def FnExactAliasInUptoSaid : Prop := fnExactAliasInUptoRow.holds Try.pinned (OpenSpec.upto fnExactAliasInSpec)

end Rows
end Go.Proofs.Ytaggdjciembpdaa
