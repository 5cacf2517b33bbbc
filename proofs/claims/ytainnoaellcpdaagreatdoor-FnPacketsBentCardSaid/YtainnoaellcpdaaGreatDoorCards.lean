/-
  DERIVED. GIVEN WITH THE SEED: THE CARDS: each row of YtainnoaellcpdaaGreatDoorRows.lean that lists a variable, with what it lists TIED to the program's text (the seventh form; the later family's looks); each row that meets fmt, with fmt's text TOLD by the authors' own Lean function (tested against real Go, not proved from fmt's source: count such statements apart). THE CARD IS WHAT COUNTS. Prove the row's statement (the work); the ties are given (YtainnoaellcpdaaGreatDoorTie.lean); close each card by the builder's one call (the guide's Derived/Test/ToyasCard.lean, 'card_holds'). Laid BY PROGRAM, IN A SANDBOX (cutbox-door.mjs). By AI agents, Wed Nov 11 2026. No macro, syntax, notation, axiom, sorry.
-/
import Derived.Test.YtainnoaellcpdaaGreatDoorRows
import GoSem.ClaimSeven
namespace Go.Proofs.YtainnoaellcpdaaGreatDoor
namespace Rows

/-- THE TIED CARD OF 'laws.FnPackets'. -/
def fnPacketsCard : Claim7 := { stood := { row := fnPacketsRow, standIns := [], harness := (true, "d4f08c89fbfa46e5c76db273f6ae3f99c740fe98f45bca1a9cde2fc8f6d3c739"), looks := false }, kinds := [], alts := [], laidByText := true, laidKinds := [.data, .pinned], laidTests := true, laidLooks := .later }
def FnPacketsCardSaid : Prop := Claim7.holds Tryz.pinned (.plain (OpenSpec.ofChange fnPacketsSpec)) fnPacketsCard

/-- THE TIED CARD OF 'laws.FnPacketsBent'. -/
def fnPacketsBentCard : Claim7 := { stood := { row := fnPacketsBentRow, standIns := [], harness := (true, "d4f08c89fbfa46e5c76db273f6ae3f99c740fe98f45bca1a9cde2fc8f6d3c739"), looks := false }, kinds := [], alts := [], laidByText := true, laidKinds := [.data, .pinned], laidTests := true, laidLooks := .later }
def FnPacketsBentCardSaid : Prop := Claim7.holds Tryz.pinned (.plain (OpenSpec.ofChange fnPacketsBentSpec)) fnPacketsBentCard

/-- THE TIED CARD OF 'laws.FnExactSizeOf'. -/
def fnExactSizeOfCard : Claim7 := { stood := { row := fnExactSizeOfRow, standIns := [], harness := (true, "d4f08c89fbfa46e5c76db273f6ae3f99c740fe98f45bca1a9cde2fc8f6d3c739"), looks := false }, kinds := [], alts := [], laidByText := true, laidKinds := [.data, .pinned], laidTests := true, laidLooks := .later }
def FnExactSizeOfCardSaid : Prop := Claim7.holds Tryz.pinned (.plain (OpenSpec.ofChange fnExactSizeOfSpec)) fnExactSizeOfCard

/-- THE TIED CARD OF 'laws.FnExactFits'. -/
def fnExactFitsCard : Claim7 := { stood := { row := fnExactFitsRow, standIns := [], harness := (true, "d4f08c89fbfa46e5c76db273f6ae3f99c740fe98f45bca1a9cde2fc8f6d3c739"), looks := false }, kinds := [], alts := [], laidByText := true, laidKinds := [.data, .pinned], laidTests := true, laidLooks := .later }
def FnExactFitsCardSaid : Prop := Claim7.holds Tryz.pinned (.plain (OpenSpec.ofChange fnExactFitsSpec)) fnExactFitsCard

/-- THE TIED CARD OF 'laws.FnExactPutMsg'. -/
def fnExactPutMsgCard : Claim7 := { stood := { row := fnExactPutMsgRow, standIns := [], harness := (true, "d4f08c89fbfa46e5c76db273f6ae3f99c740fe98f45bca1a9cde2fc8f6d3c739"), looks := false }, kinds := [], alts := [], laidByText := true, laidKinds := [.data, .pinned], laidTests := true, laidLooks := .later }
def FnExactPutMsgCardSaid : Prop := Claim7.holds Tryz.pinned (.plain (OpenSpec.ofChange fnExactPutMsgSpec)) fnExactPutMsgCard

/-- THE SECOND FORM's CARD OF 'laws.FnPackets'. -/
def fnPacketsUptoCard : Claim7 := { stood := { row := fnPacketsUptoRow, standIns := [], harness := (true, "d4f08c89fbfa46e5c76db273f6ae3f99c740fe98f45bca1a9cde2fc8f6d3c739"), looks := false }, kinds := [], alts := [], laidByText := true, laidKinds := [.data, .pinned], laidTests := true, laidLooks := .later }
def FnPacketsUptoCardSaid : Prop := Claim7.holds Tryz.pinned (.plain (OpenSpec.upto fnPacketsSpec)) fnPacketsUptoCard

/-- THE SECOND FORM's CARD OF 'laws.FnPacketsBent'. -/
def fnPacketsBentUptoCard : Claim7 := { stood := { row := fnPacketsBentUptoRow, standIns := [], harness := (true, "d4f08c89fbfa46e5c76db273f6ae3f99c740fe98f45bca1a9cde2fc8f6d3c739"), looks := false }, kinds := [], alts := [], laidByText := true, laidKinds := [.data, .pinned], laidTests := true, laidLooks := .later }
def FnPacketsBentUptoCardSaid : Prop := Claim7.holds Tryz.pinned (.plain (OpenSpec.upto fnPacketsBentSpec)) fnPacketsBentUptoCard

/-- THE SECOND FORM's CARD OF 'laws.FnExactSizeOf'. -/
def fnExactSizeOfUptoCard : Claim7 := { stood := { row := fnExactSizeOfUptoRow, standIns := [], harness := (true, "d4f08c89fbfa46e5c76db273f6ae3f99c740fe98f45bca1a9cde2fc8f6d3c739"), looks := false }, kinds := [], alts := [], laidByText := true, laidKinds := [.data, .pinned], laidTests := true, laidLooks := .later }
def FnExactSizeOfUptoCardSaid : Prop := Claim7.holds Tryz.pinned (.plain (OpenSpec.upto fnExactSizeOfSpec)) fnExactSizeOfUptoCard

/-- THE SECOND FORM's CARD OF 'laws.FnExactFits'. -/
def fnExactFitsUptoCard : Claim7 := { stood := { row := fnExactFitsUptoRow, standIns := [], harness := (true, "d4f08c89fbfa46e5c76db273f6ae3f99c740fe98f45bca1a9cde2fc8f6d3c739"), looks := false }, kinds := [], alts := [], laidByText := true, laidKinds := [.data, .pinned], laidTests := true, laidLooks := .later }
def FnExactFitsUptoCardSaid : Prop := Claim7.holds Tryz.pinned (.plain (OpenSpec.upto fnExactFitsSpec)) fnExactFitsUptoCard

/-- THE SECOND FORM's CARD OF 'laws.FnExactPutMsg'. -/
def fnExactPutMsgUptoCard : Claim7 := { stood := { row := fnExactPutMsgUptoRow, standIns := [], harness := (true, "d4f08c89fbfa46e5c76db273f6ae3f99c740fe98f45bca1a9cde2fc8f6d3c739"), looks := false }, kinds := [], alts := [], laidByText := true, laidKinds := [.data, .pinned], laidTests := true, laidLooks := .later }
def FnExactPutMsgUptoCardSaid : Prop := Claim7.holds Tryz.pinned (.plain (OpenSpec.upto fnExactPutMsgSpec)) fnExactPutMsgUptoCard
end Rows
end Go.Proofs.YtainnoaellcpdaaGreatDoor
