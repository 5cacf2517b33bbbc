/-
  DERIVED. GIVEN WITH THE SEED: THE CARDS: each row of YtaacegjkiccijaaDoorRows.lean that lists a variable, with what it lists TIED to the program's text (the seventh form; the later family's looks); each row that meets fmt, with fmt's text TOLD by the authors' own Lean function (tested against real Go, not proved from fmt's source: count such statements apart). THE CARD IS WHAT COUNTS. Prove the row's statement (the work); the ties are given (YtaacegjkiccijaaDoorTie.lean); close each card by the builder's one call (the guide's Derived/Test/ToyasCard.lean, 'card_holds'). Laid BY PROGRAM, IN A SANDBOX (cutbox-door.mjs). By AI agents, Wed Nov 11 2026. No macro, syntax, notation, axiom, sorry.
-/
import Derived.Test.YtaacegjkiccijaaDoorRows
import GoSem.ClaimSeven
namespace Go.Proofs.YtaacegjkiccijaaDoor
namespace Rows

/-- THE TIED CARD OF 'laws.FnExactExists'. -/
def fnExactExistsCard : Claim7 := { stood := { row := fnExactExistsRow, standIns := [], harness := (true, "11abe7941859f799633604c3f36f678cd18a42bb0031dfbcc2ade1dc4257a36b"), looks := false }, kinds := [], alts := [], laidByText := true, laidKinds := [.data, .pinned], laidTests := true, laidLooks := .later }
def FnExactExistsCardSaid : Prop := Claim7.holds Tryd.pinned (.plain (OpenSpec.ofChange fnExactExistsSpec)) fnExactExistsCard

/-- THE TIED CARD OF 'laws.FnExactCutOf'. -/
def fnExactCutOfCard : Claim7 := { stood := { row := fnExactCutOfRow, standIns := [], harness := (true, "11abe7941859f799633604c3f36f678cd18a42bb0031dfbcc2ade1dc4257a36b"), looks := false }, kinds := [], alts := [], laidByText := true, laidKinds := [.data, .pinned], laidTests := true, laidLooks := .later }
def FnExactCutOfCardSaid : Prop := Claim7.holds Tryd.pinned (.plain (OpenSpec.ofChange fnExactCutOfSpec)) fnExactCutOfCard

/-- THE TIED CARD OF 'laws.FnExactInZone'. -/
def fnExactInZoneCard : Claim7 := { stood := { row := fnExactInZoneRow, standIns := [], harness := (true, "11abe7941859f799633604c3f36f678cd18a42bb0031dfbcc2ade1dc4257a36b"), looks := false }, kinds := [], alts := [], laidByText := true, laidKinds := [.data, .pinned], laidTests := true, laidLooks := .later }
def FnExactInZoneCardSaid : Prop := Claim7.holds Tryd.pinned (.plain (OpenSpec.ofChange fnExactInZoneSpec)) fnExactInZoneCard

/-- THE TIED CARD OF 'laws.FnExactDownIn'. -/
def fnExactDownInCard : Claim7 := { stood := { row := fnExactDownInRow, standIns := [], harness := (true, "11abe7941859f799633604c3f36f678cd18a42bb0031dfbcc2ade1dc4257a36b"), looks := false }, kinds := [], alts := [], laidByText := true, laidKinds := [.data, .pinned], laidTests := true, laidLooks := .later }
def FnExactDownInCardSaid : Prop := Claim7.holds Tryd.pinned (.plain (OpenSpec.ofChange fnExactDownInSpec)) fnExactDownInCard

/-- THE TIED CARD OF 'laws.FnExactNothingFor'. -/
def fnExactNothingForCard : Claim7 := { stood := { row := fnExactNothingForRow, standIns := [], harness := (true, "11abe7941859f799633604c3f36f678cd18a42bb0031dfbcc2ade1dc4257a36b"), looks := false }, kinds := [], alts := [], laidByText := true, laidKinds := [.data, .pinned], laidTests := true, laidLooks := .later }
def FnExactNothingForCardSaid : Prop := Claim7.holds Tryd.pinned (.plain (OpenSpec.ofChange fnExactNothingForSpec)) fnExactNothingForCard

/-- THE TIED CARD OF 'laws.FnExactCutsOf'. -/
def fnExactCutsOfCard : Claim7 := { stood := { row := fnExactCutsOfRow, standIns := [], harness := (true, "11abe7941859f799633604c3f36f678cd18a42bb0031dfbcc2ade1dc4257a36b"), looks := false }, kinds := [], alts := [], laidByText := true, laidKinds := [.data, .pinned], laidTests := true, laidLooks := .later }
def FnExactCutsOfCardSaid : Prop := Claim7.holds Tryd.pinned (.plain (OpenSpec.ofChange fnExactCutsOfSpec)) fnExactCutsOfCard

/-- THE TIED CARD OF 'laws.FnExactClassOf'. -/
def fnExactClassOfCard : Claim7 := { stood := { row := fnExactClassOfRow, standIns := [], harness := (true, "11abe7941859f799633604c3f36f678cd18a42bb0031dfbcc2ade1dc4257a36b"), looks := false }, kinds := [], alts := [], laidByText := true, laidKinds := [.data, .pinned], laidTests := true, laidLooks := .later }
def FnExactClassOfCardSaid : Prop := Claim7.holds Tryd.pinned (.plain (OpenSpec.ofChange fnExactClassOfSpec)) fnExactClassOfCard

/-- THE TIED CARD OF 'laws.FnExactServersIn'. -/
def fnExactServersInCard : Claim7 := { stood := { row := fnExactServersInRow, standIns := [], harness := (true, "11abe7941859f799633604c3f36f678cd18a42bb0031dfbcc2ade1dc4257a36b"), looks := false }, kinds := [], alts := [], laidByText := true, laidKinds := [.data, .pinned], laidTests := true, laidLooks := .later }
def FnExactServersInCardSaid : Prop := Claim7.holds Tryd.pinned (.plain (OpenSpec.ofChange fnExactServersInSpec)) fnExactServersInCard

/-- THE TIED CARD OF 'laws.FnExactHelpersIn'. -/
def fnExactHelpersInCard : Claim7 := { stood := { row := fnExactHelpersInRow, standIns := [], harness := (true, "11abe7941859f799633604c3f36f678cd18a42bb0031dfbcc2ade1dc4257a36b"), looks := false }, kinds := [], alts := [], laidByText := true, laidKinds := [.data, .pinned], laidTests := true, laidLooks := .later }
def FnExactHelpersInCardSaid : Prop := Claim7.holds Tryd.pinned (.plain (OpenSpec.ofChange fnExactHelpersInSpec)) fnExactHelpersInCard

/-- THE SECOND FORM's CARD OF 'laws.FnExactExists'. -/
def fnExactExistsUptoCard : Claim7 := { stood := { row := fnExactExistsUptoRow, standIns := [], harness := (true, "11abe7941859f799633604c3f36f678cd18a42bb0031dfbcc2ade1dc4257a36b"), looks := false }, kinds := [], alts := [], laidByText := true, laidKinds := [.data, .pinned], laidTests := true, laidLooks := .later }
def FnExactExistsUptoCardSaid : Prop := Claim7.holds Tryd.pinned (.plain (OpenSpec.upto fnExactExistsSpec)) fnExactExistsUptoCard

/-- THE SECOND FORM's CARD OF 'laws.FnExactCutOf'. -/
def fnExactCutOfUptoCard : Claim7 := { stood := { row := fnExactCutOfUptoRow, standIns := [], harness := (true, "11abe7941859f799633604c3f36f678cd18a42bb0031dfbcc2ade1dc4257a36b"), looks := false }, kinds := [], alts := [], laidByText := true, laidKinds := [.data, .pinned], laidTests := true, laidLooks := .later }
def FnExactCutOfUptoCardSaid : Prop := Claim7.holds Tryd.pinned (.plain (OpenSpec.upto fnExactCutOfSpec)) fnExactCutOfUptoCard

/-- THE SECOND FORM's CARD OF 'laws.FnExactInZone'. -/
def fnExactInZoneUptoCard : Claim7 := { stood := { row := fnExactInZoneUptoRow, standIns := [], harness := (true, "11abe7941859f799633604c3f36f678cd18a42bb0031dfbcc2ade1dc4257a36b"), looks := false }, kinds := [], alts := [], laidByText := true, laidKinds := [.data, .pinned], laidTests := true, laidLooks := .later }
def FnExactInZoneUptoCardSaid : Prop := Claim7.holds Tryd.pinned (.plain (OpenSpec.upto fnExactInZoneSpec)) fnExactInZoneUptoCard

/-- THE SECOND FORM's CARD OF 'laws.FnExactDownIn'. -/
def fnExactDownInUptoCard : Claim7 := { stood := { row := fnExactDownInUptoRow, standIns := [], harness := (true, "11abe7941859f799633604c3f36f678cd18a42bb0031dfbcc2ade1dc4257a36b"), looks := false }, kinds := [], alts := [], laidByText := true, laidKinds := [.data, .pinned], laidTests := true, laidLooks := .later }
def FnExactDownInUptoCardSaid : Prop := Claim7.holds Tryd.pinned (.plain (OpenSpec.upto fnExactDownInSpec)) fnExactDownInUptoCard

/-- THE SECOND FORM's CARD OF 'laws.FnExactNothingFor'. -/
def fnExactNothingForUptoCard : Claim7 := { stood := { row := fnExactNothingForUptoRow, standIns := [], harness := (true, "11abe7941859f799633604c3f36f678cd18a42bb0031dfbcc2ade1dc4257a36b"), looks := false }, kinds := [], alts := [], laidByText := true, laidKinds := [.data, .pinned], laidTests := true, laidLooks := .later }
def FnExactNothingForUptoCardSaid : Prop := Claim7.holds Tryd.pinned (.plain (OpenSpec.upto fnExactNothingForSpec)) fnExactNothingForUptoCard

/-- THE SECOND FORM's CARD OF 'laws.FnExactCutsOf'. -/
def fnExactCutsOfUptoCard : Claim7 := { stood := { row := fnExactCutsOfUptoRow, standIns := [], harness := (true, "11abe7941859f799633604c3f36f678cd18a42bb0031dfbcc2ade1dc4257a36b"), looks := false }, kinds := [], alts := [], laidByText := true, laidKinds := [.data, .pinned], laidTests := true, laidLooks := .later }
def FnExactCutsOfUptoCardSaid : Prop := Claim7.holds Tryd.pinned (.plain (OpenSpec.upto fnExactCutsOfSpec)) fnExactCutsOfUptoCard

/-- THE SECOND FORM's CARD OF 'laws.FnExactClassOf'. -/
def fnExactClassOfUptoCard : Claim7 := { stood := { row := fnExactClassOfUptoRow, standIns := [], harness := (true, "11abe7941859f799633604c3f36f678cd18a42bb0031dfbcc2ade1dc4257a36b"), looks := false }, kinds := [], alts := [], laidByText := true, laidKinds := [.data, .pinned], laidTests := true, laidLooks := .later }
def FnExactClassOfUptoCardSaid : Prop := Claim7.holds Tryd.pinned (.plain (OpenSpec.upto fnExactClassOfSpec)) fnExactClassOfUptoCard

/-- THE SECOND FORM's CARD OF 'laws.FnExactServersIn'. -/
def fnExactServersInUptoCard : Claim7 := { stood := { row := fnExactServersInUptoRow, standIns := [], harness := (true, "11abe7941859f799633604c3f36f678cd18a42bb0031dfbcc2ade1dc4257a36b"), looks := false }, kinds := [], alts := [], laidByText := true, laidKinds := [.data, .pinned], laidTests := true, laidLooks := .later }
def FnExactServersInUptoCardSaid : Prop := Claim7.holds Tryd.pinned (.plain (OpenSpec.upto fnExactServersInSpec)) fnExactServersInUptoCard

/-- THE SECOND FORM's CARD OF 'laws.FnExactHelpersIn'. -/
def fnExactHelpersInUptoCard : Claim7 := { stood := { row := fnExactHelpersInUptoRow, standIns := [], harness := (true, "11abe7941859f799633604c3f36f678cd18a42bb0031dfbcc2ade1dc4257a36b"), looks := false }, kinds := [], alts := [], laidByText := true, laidKinds := [.data, .pinned], laidTests := true, laidLooks := .later }
def FnExactHelpersInUptoCardSaid : Prop := Claim7.holds Tryd.pinned (.plain (OpenSpec.upto fnExactHelpersInSpec)) fnExactHelpersInUptoCard
end Rows
end Go.Proofs.YtaacegjkiccijaaDoor
