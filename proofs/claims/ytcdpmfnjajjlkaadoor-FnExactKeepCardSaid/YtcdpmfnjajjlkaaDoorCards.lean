/-
  DERIVED. GIVEN WITH THE SEED: THE CARDS: each row of YtcdpmfnjajjlkaaDoorRows.lean that lists a variable, with what it lists TIED to the program's text (the seventh form; the later family's looks); each row that meets fmt, with fmt's text TOLD by the authors' own Lean function (tested against real Go, not proved from fmt's source: count such statements apart). THE CARD IS WHAT COUNTS. Prove the row's statement (the work); the ties are given (YtcdpmfnjajjlkaaDoorTie.lean); close each card by the builder's one call (the guide's Derived/Test/ToyasCard.lean, 'card_holds'). Laid BY PROGRAM, IN A SANDBOX (cutbox-door.mjs). By AI agents, Wed Nov 11 2026. No macro, syntax, notation, axiom, sorry.
-/
import Derived.Test.YtcdpmfnjajjlkaaDoorRows
import GoSem.ClaimSeven
namespace Go.Proofs.YtcdpmfnjajjlkaaDoor
namespace Rows

/-- THE TIED CARD OF 'laws.FnExactEntryOk'. -/
def fnExactEntryOkCard : Claim7 := { stood := { row := fnExactEntryOkRow, standIns := [], harness := (true, "52ac7b560b88569ec3b5f15806baf43117219bf8ca080aae744325b803715c33"), looks := false }, kinds := [], alts := [], laidByText := true, laidKinds := [.data, .pinned], laidTests := true, laidLooks := .later }
def FnExactEntryOkCardSaid : Prop := Claim7.holds Tryd.pinned (.plain (OpenSpec.ofChange fnExactEntryOkSpec)) fnExactEntryOkCard

/-- THE TIED CARD OF 'laws.FnExactCacheOk'. -/
def fnExactCacheOkCard : Claim7 := { stood := { row := fnExactCacheOkRow, standIns := [], harness := (true, "52ac7b560b88569ec3b5f15806baf43117219bf8ca080aae744325b803715c33"), looks := false }, kinds := [], alts := [], laidByText := true, laidKinds := [.data, .pinned], laidTests := true, laidLooks := .later }
def FnExactCacheOkCardSaid : Prop := Claim7.holds Tryd.pinned (.plain (OpenSpec.ofChange fnExactCacheOkSpec)) fnExactCacheOkCard

/-- THE TIED CARD OF 'laws.FnExpires'. -/
def fnExpiresCard : Claim7 := { stood := { row := fnExpiresRow, standIns := [], harness := (true, "52ac7b560b88569ec3b5f15806baf43117219bf8ca080aae744325b803715c33"), looks := false }, kinds := [], alts := [], laidByText := true, laidKinds := [.data, .pinned], laidTests := true, laidLooks := .later }
def FnExpiresCardSaid : Prop := Claim7.holds Tryd.pinned (.plain (OpenSpec.ofChange fnExpiresSpec)) fnExpiresCard

/-- THE TIED CARD OF 'laws.FnKeepsBent'. -/
def fnKeepsBentCard : Claim7 := { stood := { row := fnKeepsBentRow, standIns := [], harness := (true, "52ac7b560b88569ec3b5f15806baf43117219bf8ca080aae744325b803715c33"), looks := false }, kinds := [], alts := [], laidByText := true, laidKinds := [.data, .pinned], laidTests := true, laidLooks := .later }
def FnKeepsBentCardSaid : Prop := Claim7.holds Tryd.pinned (.plain (OpenSpec.ofChange fnKeepsBentSpec)) fnKeepsBentCard

/-- THE TIED CARD OF 'laws.FnKeeps'. -/
def fnKeepsCard : Claim7 := { stood := { row := fnKeepsRow, standIns := [], harness := (true, "52ac7b560b88569ec3b5f15806baf43117219bf8ca080aae744325b803715c33"), looks := false }, kinds := [], alts := [], laidByText := true, laidKinds := [.data, .pinned], laidTests := true, laidLooks := .later }
def FnKeepsCardSaid : Prop := Claim7.holds Tryd.pinned (.plain (OpenSpec.ofChange fnKeepsSpec)) fnKeepsCard

/-- THE TIED CARD OF 'laws.FnExactKeep'. -/
def fnExactKeepCard : Claim7 := { stood := { row := fnExactKeepRow, standIns := [], harness := (true, "52ac7b560b88569ec3b5f15806baf43117219bf8ca080aae744325b803715c33"), looks := false }, kinds := [], alts := [], laidByText := true, laidKinds := [.data, .pinned], laidTests := true, laidLooks := .later }
def FnExactKeepCardSaid : Prop := Claim7.holds Tryd.pinned (.plain (OpenSpec.ofChange fnExactKeepSpec)) fnExactKeepCard

/-- THE SECOND FORM's CARD OF 'laws.FnExactEntryOk'. -/
def fnExactEntryOkUptoCard : Claim7 := { stood := { row := fnExactEntryOkUptoRow, standIns := [], harness := (true, "52ac7b560b88569ec3b5f15806baf43117219bf8ca080aae744325b803715c33"), looks := false }, kinds := [], alts := [], laidByText := true, laidKinds := [.data, .pinned], laidTests := true, laidLooks := .later }
def FnExactEntryOkUptoCardSaid : Prop := Claim7.holds Tryd.pinned (.plain (OpenSpec.upto fnExactEntryOkSpec)) fnExactEntryOkUptoCard

/-- THE SECOND FORM's CARD OF 'laws.FnExactCacheOk'. -/
def fnExactCacheOkUptoCard : Claim7 := { stood := { row := fnExactCacheOkUptoRow, standIns := [], harness := (true, "52ac7b560b88569ec3b5f15806baf43117219bf8ca080aae744325b803715c33"), looks := false }, kinds := [], alts := [], laidByText := true, laidKinds := [.data, .pinned], laidTests := true, laidLooks := .later }
def FnExactCacheOkUptoCardSaid : Prop := Claim7.holds Tryd.pinned (.plain (OpenSpec.upto fnExactCacheOkSpec)) fnExactCacheOkUptoCard

/-- THE SECOND FORM's CARD OF 'laws.FnExpires'. -/
def fnExpiresUptoCard : Claim7 := { stood := { row := fnExpiresUptoRow, standIns := [], harness := (true, "52ac7b560b88569ec3b5f15806baf43117219bf8ca080aae744325b803715c33"), looks := false }, kinds := [], alts := [], laidByText := true, laidKinds := [.data, .pinned], laidTests := true, laidLooks := .later }
def FnExpiresUptoCardSaid : Prop := Claim7.holds Tryd.pinned (.plain (OpenSpec.upto fnExpiresSpec)) fnExpiresUptoCard

/-- THE SECOND FORM's CARD OF 'laws.FnKeepsBent'. -/
def fnKeepsBentUptoCard : Claim7 := { stood := { row := fnKeepsBentUptoRow, standIns := [], harness := (true, "52ac7b560b88569ec3b5f15806baf43117219bf8ca080aae744325b803715c33"), looks := false }, kinds := [], alts := [], laidByText := true, laidKinds := [.data, .pinned], laidTests := true, laidLooks := .later }
def FnKeepsBentUptoCardSaid : Prop := Claim7.holds Tryd.pinned (.plain (OpenSpec.upto fnKeepsBentSpec)) fnKeepsBentUptoCard

/-- THE SECOND FORM's CARD OF 'laws.FnKeeps'. -/
def fnKeepsUptoCard : Claim7 := { stood := { row := fnKeepsUptoRow, standIns := [], harness := (true, "52ac7b560b88569ec3b5f15806baf43117219bf8ca080aae744325b803715c33"), looks := false }, kinds := [], alts := [], laidByText := true, laidKinds := [.data, .pinned], laidTests := true, laidLooks := .later }
def FnKeepsUptoCardSaid : Prop := Claim7.holds Tryd.pinned (.plain (OpenSpec.upto fnKeepsSpec)) fnKeepsUptoCard

/-- THE SECOND FORM's CARD OF 'laws.FnExactKeep'. -/
def fnExactKeepUptoCard : Claim7 := { stood := { row := fnExactKeepUptoRow, standIns := [], harness := (true, "52ac7b560b88569ec3b5f15806baf43117219bf8ca080aae744325b803715c33"), looks := false }, kinds := [], alts := [], laidByText := true, laidKinds := [.data, .pinned], laidTests := true, laidLooks := .later }
def FnExactKeepUptoCardSaid : Prop := Claim7.holds Tryd.pinned (.plain (OpenSpec.upto fnExactKeepSpec)) fnExactKeepUptoCard
end Rows
end Go.Proofs.YtcdpmfnjajjlkaaDoor
