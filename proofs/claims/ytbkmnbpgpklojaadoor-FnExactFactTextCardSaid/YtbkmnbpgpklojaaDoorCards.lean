/-
  DERIVED. GIVEN WITH THE SEED: THE CARDS: each row of YtbkmnbpgpklojaaDoorRows.lean that lists a variable, with what it lists TIED to the program's text (the seventh form; the later family's looks); each row that meets fmt, with fmt's text TOLD by the authors' own Lean function (tested against real Go, not proved from fmt's source: count such statements apart). THE CARD IS WHAT COUNTS. Prove the row's statement (the work); the ties are given (YtbkmnbpgpklojaaDoorTie.lean); close each card by the builder's one call (the guide's Derived/Test/ToyasCard.lean, 'card_holds'). Laid BY PROGRAM, IN A SANDBOX (cutbox-door.mjs). By AI agents, Wed Nov 11 2026. No macro, syntax, notation, axiom, sorry.
-/
import Derived.Test.YtbkmnbpgpklojaaDoorRows
import GoSem.ClaimSeven
namespace Go.Proofs.YtbkmnbpgpklojaaDoor
namespace Rows

/-- THE TIED CARD OF 'laws.FnZones'. -/
def fnZonesCard : Claim7 := { stood := { row := fnZonesRow, standIns := [], harness := (true, "af1cf9464fca2b1bb791a0140b0fc934fbb0941d7507bd942cdd8c497edaf840"), looks := false }, kinds := [], alts := [], laidByText := true, laidKinds := [.data, .pinned], laidTests := true, laidLooks := .later }
def FnZonesCardSaid : Prop := Claim7.holds Tryd.pinned (.plain (OpenSpec.ofChange fnZonesSpec)) fnZonesCard

/-- THE TIED CARD OF 'laws.FnClasses'. -/
def fnClassesCard : Claim7 := { stood := { row := fnClassesRow, standIns := [], harness := (true, "af1cf9464fca2b1bb791a0140b0fc934fbb0941d7507bd942cdd8c497edaf840"), looks := false }, kinds := [], alts := [], laidByText := true, laidKinds := [.data, .pinned], laidTests := true, laidLooks := .later }
def FnClassesCardSaid : Prop := Claim7.holds Tryd.pinned (.plain (OpenSpec.ofChange fnClassesSpec)) fnClassesCard

/-- THE TIED CARD OF 'laws.FnExactFactText'. -/
def fnExactFactTextCard : Claim7 := { stood := { row := fnExactFactTextRow, standIns := [], harness := (true, "af1cf9464fca2b1bb791a0140b0fc934fbb0941d7507bd942cdd8c497edaf840"), looks := false }, kinds := [], alts := [], laidByText := true, laidKinds := [.data, .pinned], laidTests := true, laidLooks := .later }
def FnExactFactTextCardSaid : Prop := Claim7.holds Tryd.pinned (.plain (OpenSpec.ofChange fnExactFactTextSpec)) fnExactFactTextCard

/-- THE TIED CARD OF 'laws.FnDataSame'. -/
def fnDataSameCard : Claim7 := { stood := { row := fnDataSameRow, standIns := [], harness := (true, "af1cf9464fca2b1bb791a0140b0fc934fbb0941d7507bd942cdd8c497edaf840"), looks := false }, kinds := [], alts := [], laidByText := true, laidKinds := [.data, .pinned], laidTests := true, laidLooks := .later }
def FnDataSameCardSaid : Prop := Claim7.holds Tryd.pinned (.plain (OpenSpec.ofChange fnDataSameSpec)) fnDataSameCard

/-- THE TIED CARD OF 'laws.FnServes'. -/
def fnServesCard : Claim7 := { stood := { row := fnServesRow, standIns := [], harness := (true, "af1cf9464fca2b1bb791a0140b0fc934fbb0941d7507bd942cdd8c497edaf840"), looks := false }, kinds := [], alts := [], laidByText := true, laidKinds := [.data, .pinned], laidTests := true, laidLooks := .later }
def FnServesCardSaid : Prop := Claim7.holds Tryd.pinned (.plain (OpenSpec.ofChange fnServesSpec)) fnServesCard

/-- THE TIED CARD OF 'laws.FnKinds'. -/
def fnKindsCard : Claim7 := { stood := { row := fnKindsRow, standIns := [], harness := (true, "af1cf9464fca2b1bb791a0140b0fc934fbb0941d7507bd942cdd8c497edaf840"), looks := false }, kinds := [], alts := [], laidByText := true, laidKinds := [.data, .pinned], laidTests := true, laidLooks := .later }
def FnKindsCardSaid : Prop := Claim7.holds Tryd.pinned (.plain (OpenSpec.ofChange fnKindsSpec)) fnKindsCard

/-- THE TIED CARD OF 'laws.FnZonesBent'. -/
def fnZonesBentCard : Claim7 := { stood := { row := fnZonesBentRow, standIns := [], harness := (true, "af1cf9464fca2b1bb791a0140b0fc934fbb0941d7507bd942cdd8c497edaf840"), looks := false }, kinds := [], alts := [], laidByText := true, laidKinds := [.data, .pinned], laidTests := true, laidLooks := .later }
def FnZonesBentCardSaid : Prop := Claim7.holds Tryd.pinned (.plain (OpenSpec.ofChange fnZonesBentSpec)) fnZonesBentCard

/-- THE TIED CARD OF 'laws.FnClassesBent'. -/
def fnClassesBentCard : Claim7 := { stood := { row := fnClassesBentRow, standIns := [], harness := (true, "af1cf9464fca2b1bb791a0140b0fc934fbb0941d7507bd942cdd8c497edaf840"), looks := false }, kinds := [], alts := [], laidByText := true, laidKinds := [.data, .pinned], laidTests := true, laidLooks := .later }
def FnClassesBentCardSaid : Prop := Claim7.holds Tryd.pinned (.plain (OpenSpec.ofChange fnClassesBentSpec)) fnClassesBentCard

/-- THE SECOND FORM's CARD OF 'laws.FnZones'. -/
def fnZonesUptoCard : Claim7 := { stood := { row := fnZonesUptoRow, standIns := [], harness := (true, "af1cf9464fca2b1bb791a0140b0fc934fbb0941d7507bd942cdd8c497edaf840"), looks := false }, kinds := [], alts := [], laidByText := true, laidKinds := [.data, .pinned], laidTests := true, laidLooks := .later }
def FnZonesUptoCardSaid : Prop := Claim7.holds Tryd.pinned (.plain (OpenSpec.upto fnZonesSpec)) fnZonesUptoCard

/-- THE SECOND FORM's CARD OF 'laws.FnClasses'. -/
def fnClassesUptoCard : Claim7 := { stood := { row := fnClassesUptoRow, standIns := [], harness := (true, "af1cf9464fca2b1bb791a0140b0fc934fbb0941d7507bd942cdd8c497edaf840"), looks := false }, kinds := [], alts := [], laidByText := true, laidKinds := [.data, .pinned], laidTests := true, laidLooks := .later }
def FnClassesUptoCardSaid : Prop := Claim7.holds Tryd.pinned (.plain (OpenSpec.upto fnClassesSpec)) fnClassesUptoCard

/-- THE SECOND FORM's CARD OF 'laws.FnExactFactText'. -/
def fnExactFactTextUptoCard : Claim7 := { stood := { row := fnExactFactTextUptoRow, standIns := [], harness := (true, "af1cf9464fca2b1bb791a0140b0fc934fbb0941d7507bd942cdd8c497edaf840"), looks := false }, kinds := [], alts := [], laidByText := true, laidKinds := [.data, .pinned], laidTests := true, laidLooks := .later }
def FnExactFactTextUptoCardSaid : Prop := Claim7.holds Tryd.pinned (.plain (OpenSpec.upto fnExactFactTextSpec)) fnExactFactTextUptoCard

/-- THE SECOND FORM's CARD OF 'laws.FnDataSame'. -/
def fnDataSameUptoCard : Claim7 := { stood := { row := fnDataSameUptoRow, standIns := [], harness := (true, "af1cf9464fca2b1bb791a0140b0fc934fbb0941d7507bd942cdd8c497edaf840"), looks := false }, kinds := [], alts := [], laidByText := true, laidKinds := [.data, .pinned], laidTests := true, laidLooks := .later }
def FnDataSameUptoCardSaid : Prop := Claim7.holds Tryd.pinned (.plain (OpenSpec.upto fnDataSameSpec)) fnDataSameUptoCard

/-- THE SECOND FORM's CARD OF 'laws.FnServes'. -/
def fnServesUptoCard : Claim7 := { stood := { row := fnServesUptoRow, standIns := [], harness := (true, "af1cf9464fca2b1bb791a0140b0fc934fbb0941d7507bd942cdd8c497edaf840"), looks := false }, kinds := [], alts := [], laidByText := true, laidKinds := [.data, .pinned], laidTests := true, laidLooks := .later }
def FnServesUptoCardSaid : Prop := Claim7.holds Tryd.pinned (.plain (OpenSpec.upto fnServesSpec)) fnServesUptoCard

/-- THE SECOND FORM's CARD OF 'laws.FnKinds'. -/
def fnKindsUptoCard : Claim7 := { stood := { row := fnKindsUptoRow, standIns := [], harness := (true, "af1cf9464fca2b1bb791a0140b0fc934fbb0941d7507bd942cdd8c497edaf840"), looks := false }, kinds := [], alts := [], laidByText := true, laidKinds := [.data, .pinned], laidTests := true, laidLooks := .later }
def FnKindsUptoCardSaid : Prop := Claim7.holds Tryd.pinned (.plain (OpenSpec.upto fnKindsSpec)) fnKindsUptoCard

/-- THE SECOND FORM's CARD OF 'laws.FnZonesBent'. -/
def fnZonesBentUptoCard : Claim7 := { stood := { row := fnZonesBentUptoRow, standIns := [], harness := (true, "af1cf9464fca2b1bb791a0140b0fc934fbb0941d7507bd942cdd8c497edaf840"), looks := false }, kinds := [], alts := [], laidByText := true, laidKinds := [.data, .pinned], laidTests := true, laidLooks := .later }
def FnZonesBentUptoCardSaid : Prop := Claim7.holds Tryd.pinned (.plain (OpenSpec.upto fnZonesBentSpec)) fnZonesBentUptoCard

/-- THE SECOND FORM's CARD OF 'laws.FnClassesBent'. -/
def fnClassesBentUptoCard : Claim7 := { stood := { row := fnClassesBentUptoRow, standIns := [], harness := (true, "af1cf9464fca2b1bb791a0140b0fc934fbb0941d7507bd942cdd8c497edaf840"), looks := false }, kinds := [], alts := [], laidByText := true, laidKinds := [.data, .pinned], laidTests := true, laidLooks := .later }
def FnClassesBentUptoCardSaid : Prop := Claim7.holds Tryd.pinned (.plain (OpenSpec.upto fnClassesBentSpec)) fnClassesBentUptoCard
end Rows
end Go.Proofs.YtbkmnbpgpklojaaDoor
