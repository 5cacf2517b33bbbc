/-
  DERIVED. GIVEN WITH THE SEED: THE CARDS: each row of YtepbpkfchioicaaDoorRows.lean that lists a variable, with what it lists TIED to the program's text (the seventh form; the later family's looks); each row that meets fmt, with fmt's text TOLD by the authors' own Lean function (tested against real Go, not proved from fmt's source: count such statements apart). THE CARD IS WHAT COUNTS. Prove the row's statement (the work); the ties are given (YtepbpkfchioicaaDoorTie.lean); close each card by the builder's one call (the guide's Derived/Test/ToyasCard.lean, 'card_holds'). Laid BY PROGRAM, IN A SANDBOX (cutbox-door.mjs). By AI agents, Wed Nov 11 2026. No macro, syntax, notation, axiom, sorry.
-/
import Derived.Test.YtepbpkfchioicaaDoorRows
import GoSem.ClaimSeven
namespace Go.Proofs.YtepbpkfchioicaaDoor
namespace Rows

/-- THE TIED CARD OF 'laws.FnExactZoneOf'. -/
def fnExactZoneOfCard : Claim7 := { stood := { row := fnExactZoneOfRow, standIns := [], harness := (true, "aba22e9863321b1f953d434fa85994bf258661f2cb7dde9aa07464fe50a364ef"), looks := false }, kinds := [], alts := [], laidByText := true, laidKinds := [.data, .pinned], laidTests := true, laidLooks := .later }
def FnExactZoneOfCardSaid : Prop := Claim7.holds Tryd.pinned (.plain (OpenSpec.ofChange fnExactZoneOfSpec)) fnExactZoneOfCard

/-- THE TIED CARD OF 'laws.FnExactKindIn'. -/
def fnExactKindInCard : Claim7 := { stood := { row := fnExactKindInRow, standIns := [], harness := (true, "aba22e9863321b1f953d434fa85994bf258661f2cb7dde9aa07464fe50a364ef"), looks := false }, kinds := [], alts := [], laidByText := true, laidKinds := [.data, .pinned], laidTests := true, laidLooks := .later }
def FnExactKindInCardSaid : Prop := Claim7.holds Tryd.pinned (.plain (OpenSpec.ofChange fnExactKindInSpec)) fnExactKindInCard

/-- THE TIED CARD OF 'laws.FnExactZoneAt'. -/
def fnExactZoneAtCard : Claim7 := { stood := { row := fnExactZoneAtRow, standIns := [], harness := (true, "aba22e9863321b1f953d434fa85994bf258661f2cb7dde9aa07464fe50a364ef"), looks := false }, kinds := [], alts := [], laidByText := true, laidKinds := [.data, .pinned], laidTests := true, laidLooks := .later }
def FnExactZoneAtCardSaid : Prop := Claim7.holds Tryd.pinned (.plain (OpenSpec.ofChange fnExactZoneAtSpec)) fnExactZoneAtCard

/-- THE TIED CARD OF 'laws.FnExactAnswerIn'. -/
def fnExactAnswerInCard : Claim7 := { stood := { row := fnExactAnswerInRow, standIns := [], harness := (true, "aba22e9863321b1f953d434fa85994bf258661f2cb7dde9aa07464fe50a364ef"), looks := false }, kinds := [], alts := [], laidByText := true, laidKinds := [.data, .pinned], laidTests := true, laidLooks := .later }
def FnExactAnswerInCardSaid : Prop := Claim7.holds Tryd.pinned (.plain (OpenSpec.ofChange fnExactAnswerInSpec)) fnExactAnswerInCard

/-- THE TIED CARD OF 'laws.FnExactMoreIn'. -/
def fnExactMoreInCard : Claim7 := { stood := { row := fnExactMoreInRow, standIns := [], harness := (true, "aba22e9863321b1f953d434fa85994bf258661f2cb7dde9aa07464fe50a364ef"), looks := false }, kinds := [], alts := [], laidByText := true, laidKinds := [.data, .pinned], laidTests := true, laidLooks := .later }
def FnExactMoreInCardSaid : Prop := Claim7.holds Tryd.pinned (.plain (OpenSpec.ofChange fnExactMoreInSpec)) fnExactMoreInCard

/-- THE TIED CARD OF 'laws.FnExactAddrsOf'. -/
def fnExactAddrsOfCard : Claim7 := { stood := { row := fnExactAddrsOfRow, standIns := [], harness := (true, "aba22e9863321b1f953d434fa85994bf258661f2cb7dde9aa07464fe50a364ef"), looks := false }, kinds := [], alts := [], laidByText := true, laidKinds := [.data, .pinned], laidTests := true, laidLooks := .later }
def FnExactAddrsOfCardSaid : Prop := Claim7.holds Tryd.pinned (.plain (OpenSpec.ofChange fnExactAddrsOfSpec)) fnExactAddrsOfCard

/-- THE TIED CARD OF 'laws.FnExactHelpIn'. -/
def fnExactHelpInCard : Claim7 := { stood := { row := fnExactHelpInRow, standIns := [], harness := (true, "aba22e9863321b1f953d434fa85994bf258661f2cb7dde9aa07464fe50a364ef"), looks := false }, kinds := [], alts := [], laidByText := true, laidKinds := [.data, .pinned], laidTests := true, laidLooks := .later }
def FnExactHelpInCardSaid : Prop := Claim7.holds Tryd.pinned (.plain (OpenSpec.ofChange fnExactHelpInSpec)) fnExactHelpInCard

/-- THE TIED CARD OF 'laws.FnExactZoneOk'. -/
def fnExactZoneOkCard : Claim7 := { stood := { row := fnExactZoneOkRow, standIns := [], harness := (true, "aba22e9863321b1f953d434fa85994bf258661f2cb7dde9aa07464fe50a364ef"), looks := false }, kinds := [], alts := [], laidByText := true, laidKinds := [.data, .pinned], laidTests := true, laidLooks := .later }
def FnExactZoneOkCardSaid : Prop := Claim7.holds Tryd.pinned (.plain (OpenSpec.ofChange fnExactZoneOkSpec)) fnExactZoneOkCard

/-- THE TIED CARD OF 'laws.FnExactEndOf'. -/
def fnExactEndOfCard : Claim7 := { stood := { row := fnExactEndOfRow, standIns := [], harness := (true, "aba22e9863321b1f953d434fa85994bf258661f2cb7dde9aa07464fe50a364ef"), looks := false }, kinds := [], alts := [], laidByText := true, laidKinds := [.data, .pinned], laidTests := true, laidLooks := .later }
def FnExactEndOfCardSaid : Prop := Claim7.holds Tryd.pinned (.plain (OpenSpec.ofChange fnExactEndOfSpec)) fnExactEndOfCard

/-- THE TIED CARD OF 'laws.FnExactLinkAt'. -/
def fnExactLinkAtCard : Claim7 := { stood := { row := fnExactLinkAtRow, standIns := [], harness := (true, "aba22e9863321b1f953d434fa85994bf258661f2cb7dde9aa07464fe50a364ef"), looks := false }, kinds := [], alts := [], laidByText := true, laidKinds := [.data, .pinned], laidTests := true, laidLooks := .later }
def FnExactLinkAtCardSaid : Prop := Claim7.holds Tryd.pinned (.plain (OpenSpec.ofChange fnExactLinkAtSpec)) fnExactLinkAtCard

/-- THE TIED CARD OF 'laws.FnExactServe'. -/
def fnExactServeCard : Claim7 := { stood := { row := fnExactServeRow, standIns := [], harness := (true, "aba22e9863321b1f953d434fa85994bf258661f2cb7dde9aa07464fe50a364ef"), looks := false }, kinds := [], alts := [], laidByText := true, laidKinds := [.data, .pinned], laidTests := true, laidLooks := .later }
def FnExactServeCardSaid : Prop := Claim7.holds Tryd.pinned (.plain (OpenSpec.ofChange fnExactServeSpec)) fnExactServeCard

/-- THE TIED CARD OF 'laws.FnExactFactOf'. -/
def fnExactFactOfCard : Claim7 := { stood := { row := fnExactFactOfRow, standIns := [], harness := (true, "aba22e9863321b1f953d434fa85994bf258661f2cb7dde9aa07464fe50a364ef"), looks := false }, kinds := [], alts := [], laidByText := true, laidKinds := [.data, .pinned], laidTests := true, laidLooks := .later }
def FnExactFactOfCardSaid : Prop := Claim7.holds Tryd.pinned (.plain (OpenSpec.ofChange fnExactFactOfSpec)) fnExactFactOfCard

/-- THE SECOND FORM's CARD OF 'laws.FnExactZoneOf'. -/
def fnExactZoneOfUptoCard : Claim7 := { stood := { row := fnExactZoneOfUptoRow, standIns := [], harness := (true, "aba22e9863321b1f953d434fa85994bf258661f2cb7dde9aa07464fe50a364ef"), looks := false }, kinds := [], alts := [], laidByText := true, laidKinds := [.data, .pinned], laidTests := true, laidLooks := .later }
def FnExactZoneOfUptoCardSaid : Prop := Claim7.holds Tryd.pinned (.plain (OpenSpec.upto fnExactZoneOfSpec)) fnExactZoneOfUptoCard

/-- THE SECOND FORM's CARD OF 'laws.FnExactKindIn'. -/
def fnExactKindInUptoCard : Claim7 := { stood := { row := fnExactKindInUptoRow, standIns := [], harness := (true, "aba22e9863321b1f953d434fa85994bf258661f2cb7dde9aa07464fe50a364ef"), looks := false }, kinds := [], alts := [], laidByText := true, laidKinds := [.data, .pinned], laidTests := true, laidLooks := .later }
def FnExactKindInUptoCardSaid : Prop := Claim7.holds Tryd.pinned (.plain (OpenSpec.upto fnExactKindInSpec)) fnExactKindInUptoCard

/-- THE SECOND FORM's CARD OF 'laws.FnExactZoneAt'. -/
def fnExactZoneAtUptoCard : Claim7 := { stood := { row := fnExactZoneAtUptoRow, standIns := [], harness := (true, "aba22e9863321b1f953d434fa85994bf258661f2cb7dde9aa07464fe50a364ef"), looks := false }, kinds := [], alts := [], laidByText := true, laidKinds := [.data, .pinned], laidTests := true, laidLooks := .later }
def FnExactZoneAtUptoCardSaid : Prop := Claim7.holds Tryd.pinned (.plain (OpenSpec.upto fnExactZoneAtSpec)) fnExactZoneAtUptoCard

/-- THE SECOND FORM's CARD OF 'laws.FnExactAnswerIn'. -/
def fnExactAnswerInUptoCard : Claim7 := { stood := { row := fnExactAnswerInUptoRow, standIns := [], harness := (true, "aba22e9863321b1f953d434fa85994bf258661f2cb7dde9aa07464fe50a364ef"), looks := false }, kinds := [], alts := [], laidByText := true, laidKinds := [.data, .pinned], laidTests := true, laidLooks := .later }
def FnExactAnswerInUptoCardSaid : Prop := Claim7.holds Tryd.pinned (.plain (OpenSpec.upto fnExactAnswerInSpec)) fnExactAnswerInUptoCard

/-- THE SECOND FORM's CARD OF 'laws.FnExactMoreIn'. -/
def fnExactMoreInUptoCard : Claim7 := { stood := { row := fnExactMoreInUptoRow, standIns := [], harness := (true, "aba22e9863321b1f953d434fa85994bf258661f2cb7dde9aa07464fe50a364ef"), looks := false }, kinds := [], alts := [], laidByText := true, laidKinds := [.data, .pinned], laidTests := true, laidLooks := .later }
def FnExactMoreInUptoCardSaid : Prop := Claim7.holds Tryd.pinned (.plain (OpenSpec.upto fnExactMoreInSpec)) fnExactMoreInUptoCard

/-- THE SECOND FORM's CARD OF 'laws.FnExactAddrsOf'. -/
def fnExactAddrsOfUptoCard : Claim7 := { stood := { row := fnExactAddrsOfUptoRow, standIns := [], harness := (true, "aba22e9863321b1f953d434fa85994bf258661f2cb7dde9aa07464fe50a364ef"), looks := false }, kinds := [], alts := [], laidByText := true, laidKinds := [.data, .pinned], laidTests := true, laidLooks := .later }
def FnExactAddrsOfUptoCardSaid : Prop := Claim7.holds Tryd.pinned (.plain (OpenSpec.upto fnExactAddrsOfSpec)) fnExactAddrsOfUptoCard

/-- THE SECOND FORM's CARD OF 'laws.FnExactHelpIn'. -/
def fnExactHelpInUptoCard : Claim7 := { stood := { row := fnExactHelpInUptoRow, standIns := [], harness := (true, "aba22e9863321b1f953d434fa85994bf258661f2cb7dde9aa07464fe50a364ef"), looks := false }, kinds := [], alts := [], laidByText := true, laidKinds := [.data, .pinned], laidTests := true, laidLooks := .later }
def FnExactHelpInUptoCardSaid : Prop := Claim7.holds Tryd.pinned (.plain (OpenSpec.upto fnExactHelpInSpec)) fnExactHelpInUptoCard

/-- THE SECOND FORM's CARD OF 'laws.FnExactZoneOk'. -/
def fnExactZoneOkUptoCard : Claim7 := { stood := { row := fnExactZoneOkUptoRow, standIns := [], harness := (true, "aba22e9863321b1f953d434fa85994bf258661f2cb7dde9aa07464fe50a364ef"), looks := false }, kinds := [], alts := [], laidByText := true, laidKinds := [.data, .pinned], laidTests := true, laidLooks := .later }
def FnExactZoneOkUptoCardSaid : Prop := Claim7.holds Tryd.pinned (.plain (OpenSpec.upto fnExactZoneOkSpec)) fnExactZoneOkUptoCard

/-- THE SECOND FORM's CARD OF 'laws.FnExactEndOf'. -/
def fnExactEndOfUptoCard : Claim7 := { stood := { row := fnExactEndOfUptoRow, standIns := [], harness := (true, "aba22e9863321b1f953d434fa85994bf258661f2cb7dde9aa07464fe50a364ef"), looks := false }, kinds := [], alts := [], laidByText := true, laidKinds := [.data, .pinned], laidTests := true, laidLooks := .later }
def FnExactEndOfUptoCardSaid : Prop := Claim7.holds Tryd.pinned (.plain (OpenSpec.upto fnExactEndOfSpec)) fnExactEndOfUptoCard

/-- THE SECOND FORM's CARD OF 'laws.FnExactLinkAt'. -/
def fnExactLinkAtUptoCard : Claim7 := { stood := { row := fnExactLinkAtUptoRow, standIns := [], harness := (true, "aba22e9863321b1f953d434fa85994bf258661f2cb7dde9aa07464fe50a364ef"), looks := false }, kinds := [], alts := [], laidByText := true, laidKinds := [.data, .pinned], laidTests := true, laidLooks := .later }
def FnExactLinkAtUptoCardSaid : Prop := Claim7.holds Tryd.pinned (.plain (OpenSpec.upto fnExactLinkAtSpec)) fnExactLinkAtUptoCard

/-- THE SECOND FORM's CARD OF 'laws.FnExactServe'. -/
def fnExactServeUptoCard : Claim7 := { stood := { row := fnExactServeUptoRow, standIns := [], harness := (true, "aba22e9863321b1f953d434fa85994bf258661f2cb7dde9aa07464fe50a364ef"), looks := false }, kinds := [], alts := [], laidByText := true, laidKinds := [.data, .pinned], laidTests := true, laidLooks := .later }
def FnExactServeUptoCardSaid : Prop := Claim7.holds Tryd.pinned (.plain (OpenSpec.upto fnExactServeSpec)) fnExactServeUptoCard

/-- THE SECOND FORM's CARD OF 'laws.FnExactFactOf'. -/
def fnExactFactOfUptoCard : Claim7 := { stood := { row := fnExactFactOfUptoRow, standIns := [], harness := (true, "aba22e9863321b1f953d434fa85994bf258661f2cb7dde9aa07464fe50a364ef"), looks := false }, kinds := [], alts := [], laidByText := true, laidKinds := [.data, .pinned], laidTests := true, laidLooks := .later }
def FnExactFactOfUptoCardSaid : Prop := Claim7.holds Tryd.pinned (.plain (OpenSpec.upto fnExactFactOfSpec)) fnExactFactOfUptoCard
end Rows
end Go.Proofs.YtepbpkfchioicaaDoor
