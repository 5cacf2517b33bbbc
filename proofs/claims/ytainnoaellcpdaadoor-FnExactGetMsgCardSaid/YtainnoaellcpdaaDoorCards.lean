/-
  DERIVED. GIVEN WITH THE SEED: THE CARDS: each row of YtainnoaellcpdaaDoorRows.lean that lists a variable, with what it lists TIED to the program's text (the seventh form; the later family's looks); each row that meets fmt, with fmt's text TOLD by the authors' own Lean function (tested against real Go, not proved from fmt's source: count such statements apart). THE CARD IS WHAT COUNTS. Prove the row's statement (the work); the ties are given (YtainnoaellcpdaaDoorTie.lean); close each card by the builder's one call (the guide's Derived/Test/ToyasCard.lean, 'card_holds'). Laid BY PROGRAM, IN A SANDBOX (cutbox-door.mjs). By AI agents, Wed Nov 11 2026. No macro, syntax, notation, axiom, sorry.
-/
import Derived.Test.YtainnoaellcpdaaDoorRows
import GoSem.ClaimSeven
namespace Go.Proofs.YtainnoaellcpdaaDoor
namespace Rows

/-- THE TIED CARD OF 'laws.FnExactGetQuest'. -/
def fnExactGetQuestCard : Claim7 := { stood := { row := fnExactGetQuestRow, standIns := [], harness := (true, "8a8bd7cfde56ec2b72554323215d060d49d20c04c36beaf15211be9c61ba5b77"), looks := false }, kinds := [], alts := [], laidByText := true, laidKinds := [.data, .pinned], laidTests := true, laidLooks := .later }
def FnExactGetQuestCardSaid : Prop := Claim7.holds Tryd.pinned (.plain (OpenSpec.ofChange fnExactGetQuestSpec)) fnExactGetQuestCard

/-- THE TIED CARD OF 'laws.FnExactGetMsg'. -/
def fnExactGetMsgCard : Claim7 := { stood := { row := fnExactGetMsgRow, standIns := [], harness := (true, "8a8bd7cfde56ec2b72554323215d060d49d20c04c36beaf15211be9c61ba5b77"), looks := false }, kinds := [], alts := [], laidByText := true, laidKinds := [.data, .pinned], laidTests := true, laidLooks := .later }
def FnExactGetMsgCardSaid : Prop := Claim7.holds Tryd.pinned (.plain (OpenSpec.ofChange fnExactGetMsgSpec)) fnExactGetMsgCard

/-- THE SECOND FORM's CARD OF 'laws.FnExactGetQuest'. -/
def fnExactGetQuestUptoCard : Claim7 := { stood := { row := fnExactGetQuestUptoRow, standIns := [], harness := (true, "8a8bd7cfde56ec2b72554323215d060d49d20c04c36beaf15211be9c61ba5b77"), looks := false }, kinds := [], alts := [], laidByText := true, laidKinds := [.data, .pinned], laidTests := true, laidLooks := .later }
def FnExactGetQuestUptoCardSaid : Prop := Claim7.holds Tryd.pinned (.plain (OpenSpec.upto fnExactGetQuestSpec)) fnExactGetQuestUptoCard

/-- THE SECOND FORM's CARD OF 'laws.FnExactGetMsg'. -/
def fnExactGetMsgUptoCard : Claim7 := { stood := { row := fnExactGetMsgUptoRow, standIns := [], harness := (true, "8a8bd7cfde56ec2b72554323215d060d49d20c04c36beaf15211be9c61ba5b77"), looks := false }, kinds := [], alts := [], laidByText := true, laidKinds := [.data, .pinned], laidTests := true, laidLooks := .later }
def FnExactGetMsgUptoCardSaid : Prop := Claim7.holds Tryd.pinned (.plain (OpenSpec.upto fnExactGetMsgSpec)) fnExactGetMsgUptoCard
end Rows
end Go.Proofs.YtainnoaellcpdaaDoor
