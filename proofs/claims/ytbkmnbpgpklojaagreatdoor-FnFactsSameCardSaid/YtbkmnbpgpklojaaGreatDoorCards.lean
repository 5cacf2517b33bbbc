/-
  DERIVED. GIVEN WITH THE SEED: THE CARDS: each row of YtbkmnbpgpklojaaGreatDoorRows.lean that lists a variable, with what it lists TIED to the program's text (the seventh form; the later family's looks); each row that meets fmt, with fmt's text TOLD by the authors' own Lean function (tested against real Go, not proved from fmt's source: count such statements apart). THE CARD IS WHAT COUNTS. Prove the row's statement (the work); the ties are given (YtbkmnbpgpklojaaGreatDoorTie.lean); close each card by the builder's one call (the guide's Derived/Test/ToyasCard.lean, 'card_holds'). Laid BY PROGRAM, IN A SANDBOX (cutbox-door.mjs). By AI agents, Wed Nov 11 2026. No macro, syntax, notation, axiom, sorry.
-/
import Derived.Test.YtbkmnbpgpklojaaGreatDoorRows
import GoSem.ClaimSeven
namespace Go.Proofs.YtbkmnbpgpklojaaGreatDoor
namespace Rows

/-- THE TIED CARD OF 'laws.FnFactsSame'. -/
def fnFactsSameCard : Claim7 := { stood := { row := fnFactsSameRow, standIns := [], harness := (true, "63d1ac017404822e7a7723a8cc0b34d66240a0b074f6f4ee98853c5b4f1cf8d9"), looks := false }, kinds := [], alts := [], laidByText := true, laidKinds := [.data, .pinned], laidTests := true, laidLooks := .later }
def FnFactsSameCardSaid : Prop := Claim7.holds Tryz.pinned (.plain (OpenSpec.ofChange fnFactsSameSpec)) fnFactsSameCard

/-- THE TIED CARD OF 'laws.FnFacts'. -/
def fnFactsCard : Claim7 := { stood := { row := fnFactsRow, standIns := [], harness := (true, "63d1ac017404822e7a7723a8cc0b34d66240a0b074f6f4ee98853c5b4f1cf8d9"), looks := false }, kinds := [], alts := [], laidByText := true, laidKinds := [.data, .pinned], laidTests := true, laidLooks := .later }
def FnFactsCardSaid : Prop := Claim7.holds Tryz.pinned (.plain (OpenSpec.ofChange fnFactsSpec)) fnFactsCard

/-- THE TIED CARD OF 'laws.FnExactReplyAt'. -/
def fnExactReplyAtCard : Claim7 := { stood := { row := fnExactReplyAtRow, standIns := [], harness := (true, "63d1ac017404822e7a7723a8cc0b34d66240a0b074f6f4ee98853c5b4f1cf8d9"), looks := false }, kinds := [], alts := [], laidByText := true, laidKinds := [.data, .pinned], laidTests := true, laidLooks := .later }
def FnExactReplyAtCardSaid : Prop := Claim7.holds Tryz.pinned (.plain (OpenSpec.ofChange fnExactReplyAtSpec)) fnExactReplyAtCard

/-- THE SECOND FORM's CARD OF 'laws.FnFactsSame'. -/
def fnFactsSameUptoCard : Claim7 := { stood := { row := fnFactsSameUptoRow, standIns := [], harness := (true, "63d1ac017404822e7a7723a8cc0b34d66240a0b074f6f4ee98853c5b4f1cf8d9"), looks := false }, kinds := [], alts := [], laidByText := true, laidKinds := [.data, .pinned], laidTests := true, laidLooks := .later }
def FnFactsSameUptoCardSaid : Prop := Claim7.holds Tryz.pinned (.plain (OpenSpec.upto fnFactsSameSpec)) fnFactsSameUptoCard

/-- THE SECOND FORM's CARD OF 'laws.FnFacts'. -/
def fnFactsUptoCard : Claim7 := { stood := { row := fnFactsUptoRow, standIns := [], harness := (true, "63d1ac017404822e7a7723a8cc0b34d66240a0b074f6f4ee98853c5b4f1cf8d9"), looks := false }, kinds := [], alts := [], laidByText := true, laidKinds := [.data, .pinned], laidTests := true, laidLooks := .later }
def FnFactsUptoCardSaid : Prop := Claim7.holds Tryz.pinned (.plain (OpenSpec.upto fnFactsSpec)) fnFactsUptoCard

/-- THE SECOND FORM's CARD OF 'laws.FnExactReplyAt'. -/
def fnExactReplyAtUptoCard : Claim7 := { stood := { row := fnExactReplyAtUptoRow, standIns := [], harness := (true, "63d1ac017404822e7a7723a8cc0b34d66240a0b074f6f4ee98853c5b4f1cf8d9"), looks := false }, kinds := [], alts := [], laidByText := true, laidKinds := [.data, .pinned], laidTests := true, laidLooks := .later }
def FnExactReplyAtUptoCardSaid : Prop := Claim7.holds Tryz.pinned (.plain (OpenSpec.upto fnExactReplyAtSpec)) fnExactReplyAtUptoCard
end Rows
end Go.Proofs.YtbkmnbpgpklojaaGreatDoor
