/-
  DERIVED. GIVEN WITH THE SEED: THE CARDS: each row of YtekeimhhffnjpaaDoorRows.lean that lists a variable, with what it lists TIED to the program's text (the seventh form; the later family's looks); each row that meets fmt, with fmt's text TOLD by the authors' own Lean function (tested against real Go, not proved from fmt's source: count such statements apart). THE CARD IS WHAT COUNTS. Prove the row's statement (the work); the ties are given (YtekeimhhffnjpaaDoorTie.lean); close each card by the builder's one call (the guide's Derived/Test/ToyasCard.lean, 'card_holds'). Laid BY PROGRAM, IN A SANDBOX (cutbox-door.mjs). By AI agents, Wed Nov 11 2026. No macro, syntax, notation, axiom, sorry.
-/
import Derived.Test.YtekeimhhffnjpaaDoorRows
import GoSem.ClaimSeven
namespace Go.Proofs.YtekeimhhffnjpaaDoor
namespace Rows

/-- THE TIED CARD OF 'laws.FnEncode'. -/
def fnEncodeCard : Claim7 := { stood := { row := fnEncodeRow, standIns := [], harness := (true, "b9dd900ba6dd8959fcd985b7715aed24efaf27b9786602cdcc51e86083a6e1a2"), looks := false }, kinds := [], alts := [], laidByText := true, laidKinds := [.data], laidTests := true, laidLooks := .later }
def FnEncodeCardSaid : Prop := Claim7.holds Tryd.pinned (.plain (OpenSpec.ofChange fnEncodeSpec)) fnEncodeCard

/-- THE TIED CARD OF 'laws.FnEncodeParts'. -/
def fnEncodePartsCard : Claim7 := { stood := { row := fnEncodePartsRow, standIns := [], harness := (true, "b9dd900ba6dd8959fcd985b7715aed24efaf27b9786602cdcc51e86083a6e1a2"), looks := false }, kinds := [], alts := [], laidByText := true, laidKinds := [.data], laidTests := true, laidLooks := .later }
def FnEncodePartsCardSaid : Prop := Claim7.holds Tryd.pinned (.plain (OpenSpec.ofChange fnEncodePartsSpec)) fnEncodePartsCard

/-- THE TIED CARD OF 'laws.FnFormMore'. -/
def fnFormMoreCard : Claim7 := { stood := { row := fnFormMoreRow, standIns := [], harness := (true, "b9dd900ba6dd8959fcd985b7715aed24efaf27b9786602cdcc51e86083a6e1a2"), looks := false }, kinds := [], alts := [], laidByText := true, laidKinds := [.data, .pinned], laidTests := true, laidLooks := .later }
def FnFormMoreCardSaid : Prop := Claim7.holds Tryd.pinned (.plain (OpenSpec.ofChange fnFormMoreSpec)) fnFormMoreCard

/-- THE TIED CARD OF 'laws.FnExactFormGet'. -/
def fnExactFormGetCard : Claim7 := { stood := { row := fnExactFormGetRow, standIns := [], harness := (true, "b9dd900ba6dd8959fcd985b7715aed24efaf27b9786602cdcc51e86083a6e1a2"), looks := false }, kinds := [], alts := [], laidByText := true, laidKinds := [.data, .pinned], laidTests := true, laidLooks := .later }
def FnExactFormGetCardSaid : Prop := Claim7.holds Tryd.pinned (.plain (OpenSpec.ofChange fnExactFormGetSpec)) fnExactFormGetCard

/-- THE TIED CARD OF 'laws.FnForm'. -/
def fnFormCard : Claim7 := { stood := { row := fnFormRow, standIns := [], harness := (true, "b9dd900ba6dd8959fcd985b7715aed24efaf27b9786602cdcc51e86083a6e1a2"), looks := false }, kinds := [], alts := [], laidByText := true, laidKinds := [.data, .pinned], laidTests := true, laidLooks := .later }
def FnFormCardSaid : Prop := Claim7.holds Tryd.pinned (.plain (OpenSpec.ofChange fnFormSpec)) fnFormCard

/-- THE TIED CARD OF 'laws.FnExactPathGet'. -/
def fnExactPathGetCard : Claim7 := { stood := { row := fnExactPathGetRow, standIns := [], harness := (true, "b9dd900ba6dd8959fcd985b7715aed24efaf27b9786602cdcc51e86083a6e1a2"), looks := false }, kinds := [], alts := [], laidByText := true, laidKinds := [.data, .data, .pinned], laidTests := true, laidLooks := .later }
def FnExactPathGetCardSaid : Prop := Claim7.holds Tryd.pinned (.plain (OpenSpec.ofChange fnExactPathGetSpec)) fnExactPathGetCard

/-- THE TIED CARD OF 'laws.FnPathBack'. -/
def fnPathBackCard : Claim7 := { stood := { row := fnPathBackRow, standIns := [], harness := (true, "b9dd900ba6dd8959fcd985b7715aed24efaf27b9786602cdcc51e86083a6e1a2"), looks := false }, kinds := [], alts := [], laidByText := true, laidKinds := [.data, .data, .pinned], laidTests := true, laidLooks := .later }
def FnPathBackCardSaid : Prop := Claim7.holds Tryd.pinned (.plain (OpenSpec.ofChange fnPathBackSpec)) fnPathBackCard

/-- THE TIED CARD OF 'laws.FnPathJoin'. -/
def fnPathJoinCard : Claim7 := { stood := { row := fnPathJoinRow, standIns := [], harness := (true, "b9dd900ba6dd8959fcd985b7715aed24efaf27b9786602cdcc51e86083a6e1a2"), looks := false }, kinds := [], alts := [], laidByText := true, laidKinds := [.data, .data, .pinned], laidTests := true, laidLooks := .later }
def FnPathJoinCardSaid : Prop := Claim7.holds Tryd.pinned (.plain (OpenSpec.ofChange fnPathJoinSpec)) fnPathJoinCard

/-- THE TIED CARD OF 'laws.FnPath'. -/
def fnPathCard : Claim7 := { stood := { row := fnPathRow, standIns := [], harness := (true, "b9dd900ba6dd8959fcd985b7715aed24efaf27b9786602cdcc51e86083a6e1a2"), looks := false }, kinds := [], alts := [], laidByText := true, laidKinds := [.data, .data, .pinned], laidTests := true, laidLooks := .later }
def FnPathCardSaid : Prop := Claim7.holds Tryd.pinned (.plain (OpenSpec.ofChange fnPathSpec)) fnPathCard

/-- THE TIED CARD OF 'laws.FnHostLower'. -/
def fnHostLowerCard : Claim7 := { stood := { row := fnHostLowerRow, standIns := [], harness := (true, "b9dd900ba6dd8959fcd985b7715aed24efaf27b9786602cdcc51e86083a6e1a2"), looks := false }, kinds := [], alts := [], laidByText := true, laidKinds := [.data, .pinned], laidTests := true, laidLooks := .later }
def FnHostLowerCardSaid : Prop := Claim7.holds Tryd.pinned (.plain (OpenSpec.ofChange fnHostLowerSpec)) fnHostLowerCard

/-- THE TIED CARD OF 'laws.FnExactHostPut'. -/
def fnExactHostPutCard : Claim7 := { stood := { row := fnExactHostPutRow, standIns := [], harness := (true, "b9dd900ba6dd8959fcd985b7715aed24efaf27b9786602cdcc51e86083a6e1a2"), looks := false }, kinds := [], alts := [], laidByText := true, laidKinds := [.data, .data, .data, .data, .pinned], laidTests := true, laidLooks := .later }
def FnExactHostPutCardSaid : Prop := Claim7.holds Tryd.pinned (.plain (OpenSpec.ofChange fnExactHostPutSpec)) fnExactHostPutCard

/-- THE TIED CARD OF 'laws.FnExactHostSite'. -/
def fnExactHostSiteCard : Claim7 := { stood := { row := fnExactHostSiteRow, standIns := [], harness := (true, "b9dd900ba6dd8959fcd985b7715aed24efaf27b9786602cdcc51e86083a6e1a2"), looks := false }, kinds := [], alts := [], laidByText := true, laidKinds := [.data, .data, .data, .data, .pinned], laidTests := true, laidLooks := .later }
def FnExactHostSiteCardSaid : Prop := Claim7.holds Tryd.pinned (.plain (OpenSpec.ofChange fnExactHostSiteSpec)) fnExactHostSiteCard

/-- THE SECOND FORM's CARD OF 'laws.FnEncode'. -/
def fnEncodeUptoCard : Claim7 := { stood := { row := fnEncodeUptoRow, standIns := [], harness := (true, "b9dd900ba6dd8959fcd985b7715aed24efaf27b9786602cdcc51e86083a6e1a2"), looks := false }, kinds := [], alts := [], laidByText := true, laidKinds := [.data], laidTests := true, laidLooks := .later }
def FnEncodeUptoCardSaid : Prop := Claim7.holds Tryd.pinned (.plain (OpenSpec.upto fnEncodeSpec)) fnEncodeUptoCard

/-- THE SECOND FORM's CARD OF 'laws.FnEncodeParts'. -/
def fnEncodePartsUptoCard : Claim7 := { stood := { row := fnEncodePartsUptoRow, standIns := [], harness := (true, "b9dd900ba6dd8959fcd985b7715aed24efaf27b9786602cdcc51e86083a6e1a2"), looks := false }, kinds := [], alts := [], laidByText := true, laidKinds := [.data], laidTests := true, laidLooks := .later }
def FnEncodePartsUptoCardSaid : Prop := Claim7.holds Tryd.pinned (.plain (OpenSpec.upto fnEncodePartsSpec)) fnEncodePartsUptoCard

/-- THE SECOND FORM's CARD OF 'laws.FnFormMore'. -/
def fnFormMoreUptoCard : Claim7 := { stood := { row := fnFormMoreUptoRow, standIns := [], harness := (true, "b9dd900ba6dd8959fcd985b7715aed24efaf27b9786602cdcc51e86083a6e1a2"), looks := false }, kinds := [], alts := [], laidByText := true, laidKinds := [.data, .pinned], laidTests := true, laidLooks := .later }
def FnFormMoreUptoCardSaid : Prop := Claim7.holds Tryd.pinned (.plain (OpenSpec.upto fnFormMoreSpec)) fnFormMoreUptoCard

/-- THE SECOND FORM's CARD OF 'laws.FnExactFormGet'. -/
def fnExactFormGetUptoCard : Claim7 := { stood := { row := fnExactFormGetUptoRow, standIns := [], harness := (true, "b9dd900ba6dd8959fcd985b7715aed24efaf27b9786602cdcc51e86083a6e1a2"), looks := false }, kinds := [], alts := [], laidByText := true, laidKinds := [.data, .pinned], laidTests := true, laidLooks := .later }
def FnExactFormGetUptoCardSaid : Prop := Claim7.holds Tryd.pinned (.plain (OpenSpec.upto fnExactFormGetSpec)) fnExactFormGetUptoCard

/-- THE SECOND FORM's CARD OF 'laws.FnForm'. -/
def fnFormUptoCard : Claim7 := { stood := { row := fnFormUptoRow, standIns := [], harness := (true, "b9dd900ba6dd8959fcd985b7715aed24efaf27b9786602cdcc51e86083a6e1a2"), looks := false }, kinds := [], alts := [], laidByText := true, laidKinds := [.data, .pinned], laidTests := true, laidLooks := .later }
def FnFormUptoCardSaid : Prop := Claim7.holds Tryd.pinned (.plain (OpenSpec.upto fnFormSpec)) fnFormUptoCard

/-- THE SECOND FORM's CARD OF 'laws.FnExactPathGet'. -/
def fnExactPathGetUptoCard : Claim7 := { stood := { row := fnExactPathGetUptoRow, standIns := [], harness := (true, "b9dd900ba6dd8959fcd985b7715aed24efaf27b9786602cdcc51e86083a6e1a2"), looks := false }, kinds := [], alts := [], laidByText := true, laidKinds := [.data, .data, .pinned], laidTests := true, laidLooks := .later }
def FnExactPathGetUptoCardSaid : Prop := Claim7.holds Tryd.pinned (.plain (OpenSpec.upto fnExactPathGetSpec)) fnExactPathGetUptoCard

/-- THE SECOND FORM's CARD OF 'laws.FnPathBack'. -/
def fnPathBackUptoCard : Claim7 := { stood := { row := fnPathBackUptoRow, standIns := [], harness := (true, "b9dd900ba6dd8959fcd985b7715aed24efaf27b9786602cdcc51e86083a6e1a2"), looks := false }, kinds := [], alts := [], laidByText := true, laidKinds := [.data, .data, .pinned], laidTests := true, laidLooks := .later }
def FnPathBackUptoCardSaid : Prop := Claim7.holds Tryd.pinned (.plain (OpenSpec.upto fnPathBackSpec)) fnPathBackUptoCard

/-- THE SECOND FORM's CARD OF 'laws.FnPathJoin'. -/
def fnPathJoinUptoCard : Claim7 := { stood := { row := fnPathJoinUptoRow, standIns := [], harness := (true, "b9dd900ba6dd8959fcd985b7715aed24efaf27b9786602cdcc51e86083a6e1a2"), looks := false }, kinds := [], alts := [], laidByText := true, laidKinds := [.data, .data, .pinned], laidTests := true, laidLooks := .later }
def FnPathJoinUptoCardSaid : Prop := Claim7.holds Tryd.pinned (.plain (OpenSpec.upto fnPathJoinSpec)) fnPathJoinUptoCard

/-- THE SECOND FORM's CARD OF 'laws.FnPath'. -/
def fnPathUptoCard : Claim7 := { stood := { row := fnPathUptoRow, standIns := [], harness := (true, "b9dd900ba6dd8959fcd985b7715aed24efaf27b9786602cdcc51e86083a6e1a2"), looks := false }, kinds := [], alts := [], laidByText := true, laidKinds := [.data, .data, .pinned], laidTests := true, laidLooks := .later }
def FnPathUptoCardSaid : Prop := Claim7.holds Tryd.pinned (.plain (OpenSpec.upto fnPathSpec)) fnPathUptoCard

/-- THE SECOND FORM's CARD OF 'laws.FnHostLower'. -/
def fnHostLowerUptoCard : Claim7 := { stood := { row := fnHostLowerUptoRow, standIns := [], harness := (true, "b9dd900ba6dd8959fcd985b7715aed24efaf27b9786602cdcc51e86083a6e1a2"), looks := false }, kinds := [], alts := [], laidByText := true, laidKinds := [.data, .pinned], laidTests := true, laidLooks := .later }
def FnHostLowerUptoCardSaid : Prop := Claim7.holds Tryd.pinned (.plain (OpenSpec.upto fnHostLowerSpec)) fnHostLowerUptoCard

/-- THE SECOND FORM's CARD OF 'laws.FnExactHostPut'. -/
def fnExactHostPutUptoCard : Claim7 := { stood := { row := fnExactHostPutUptoRow, standIns := [], harness := (true, "b9dd900ba6dd8959fcd985b7715aed24efaf27b9786602cdcc51e86083a6e1a2"), looks := false }, kinds := [], alts := [], laidByText := true, laidKinds := [.data, .data, .data, .data, .pinned], laidTests := true, laidLooks := .later }
def FnExactHostPutUptoCardSaid : Prop := Claim7.holds Tryd.pinned (.plain (OpenSpec.upto fnExactHostPutSpec)) fnExactHostPutUptoCard

/-- THE SECOND FORM's CARD OF 'laws.FnExactHostSite'. -/
def fnExactHostSiteUptoCard : Claim7 := { stood := { row := fnExactHostSiteUptoRow, standIns := [], harness := (true, "b9dd900ba6dd8959fcd985b7715aed24efaf27b9786602cdcc51e86083a6e1a2"), looks := false }, kinds := [], alts := [], laidByText := true, laidKinds := [.data, .data, .data, .data, .pinned], laidTests := true, laidLooks := .later }
def FnExactHostSiteUptoCardSaid : Prop := Claim7.holds Tryd.pinned (.plain (OpenSpec.upto fnExactHostSiteSpec)) fnExactHostSiteUptoCard
end Rows
end Go.Proofs.YtekeimhhffnjpaaDoor
