/-
  DERIVED. GIVEN WITH THE SEED: THE CARDS: each row of YtmckdmopoeakfaaDoorRows.lean that lists a variable, with what it lists TIED to the program's text (the seventh form; the later family's looks); each row that meets fmt, with fmt's text TOLD by the authors' own Lean function (tested against real Go, not proved from fmt's source: count such statements apart). THE CARD IS WHAT COUNTS. Prove the row's statement (the work); the ties are given (YtmckdmopoeakfaaDoorTie.lean); close each card by the builder's one call (the guide's Derived/Test/ToyasCard.lean, 'card_holds'). Laid BY PROGRAM, IN A SANDBOX (cutbox-door.mjs). By AI agents, Wed Nov 11 2026. No macro, syntax, notation, axiom, sorry.
-/
import Derived.Test.YtmckdmopoeakfaaDoorRows
import GoSem.ClaimSeven
namespace Go.Proofs.YtmckdmopoeakfaaDoor
namespace Rows

/-- THE TIED CARD OF 'laws.FnFour'. -/
def fnFourCard : Claim7 := { stood := { row := fnFourRow, standIns := [], harness := (true, "9477a8448e375e764119365be8f6a4865a1c2b996e74e8b49eb8dee15f86dfd9"), looks := false }, kinds := [], alts := [], laidByText := true, laidKinds := [.data, .data, .data, .data, .pinned], laidTests := true, laidLooks := .later }
def FnFourCardSaid : Prop := Claim7.holds Tryd.pinned (.plain (OpenSpec.ofChange fnFourSpec)) fnFourCard

/-- THE TIED CARD OF 'laws.FnHostText'. -/
def fnHostTextCard : Claim7 := { stood := { row := fnHostTextRow, standIns := [], harness := (true, "9477a8448e375e764119365be8f6a4865a1c2b996e74e8b49eb8dee15f86dfd9"), looks := false }, kinds := [], alts := [], laidByText := true, laidKinds := [.data, .data, .data, .data, .pinned], laidTests := true, laidLooks := .later }
def FnHostTextCardSaid : Prop := Claim7.holds Tryd.pinned (.plain (OpenSpec.ofChange fnHostTextSpec)) fnHostTextCard

/-- THE TIED CARD OF 'laws.FnHostSite'. -/
def fnHostSiteCard : Claim7 := { stood := { row := fnHostSiteRow, standIns := [], harness := (true, "9477a8448e375e764119365be8f6a4865a1c2b996e74e8b49eb8dee15f86dfd9"), looks := false }, kinds := [], alts := [], laidByText := true, laidKinds := [.data, .data, .data, .data, .pinned], laidTests := true, laidLooks := .later }
def FnHostSiteCardSaid : Prop := Claim7.holds Tryd.pinned (.plain (OpenSpec.ofChange fnHostSiteSpec)) fnHostSiteCard

/-- THE SECOND FORM's CARD OF 'laws.FnFour'. -/
def fnFourUptoCard : Claim7 := { stood := { row := fnFourUptoRow, standIns := [], harness := (true, "9477a8448e375e764119365be8f6a4865a1c2b996e74e8b49eb8dee15f86dfd9"), looks := false }, kinds := [], alts := [], laidByText := true, laidKinds := [.data, .data, .data, .data, .pinned], laidTests := true, laidLooks := .later }
def FnFourUptoCardSaid : Prop := Claim7.holds Tryd.pinned (.plain (OpenSpec.upto fnFourSpec)) fnFourUptoCard

/-- THE SECOND FORM's CARD OF 'laws.FnHostText'. -/
def fnHostTextUptoCard : Claim7 := { stood := { row := fnHostTextUptoRow, standIns := [], harness := (true, "9477a8448e375e764119365be8f6a4865a1c2b996e74e8b49eb8dee15f86dfd9"), looks := false }, kinds := [], alts := [], laidByText := true, laidKinds := [.data, .data, .data, .data, .pinned], laidTests := true, laidLooks := .later }
def FnHostTextUptoCardSaid : Prop := Claim7.holds Tryd.pinned (.plain (OpenSpec.upto fnHostTextSpec)) fnHostTextUptoCard

/-- THE SECOND FORM's CARD OF 'laws.FnHostSite'. -/
def fnHostSiteUptoCard : Claim7 := { stood := { row := fnHostSiteUptoRow, standIns := [], harness := (true, "9477a8448e375e764119365be8f6a4865a1c2b996e74e8b49eb8dee15f86dfd9"), looks := false }, kinds := [], alts := [], laidByText := true, laidKinds := [.data, .data, .data, .data, .pinned], laidTests := true, laidLooks := .later }
def FnHostSiteUptoCardSaid : Prop := Claim7.holds Tryd.pinned (.plain (OpenSpec.upto fnHostSiteSpec)) fnHostSiteUptoCard
end Rows
end Go.Proofs.YtmckdmopoeakfaaDoor
