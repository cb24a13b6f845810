/-
  DERIVED. GIVEN WITH THE SEED: THE CARDS: each row of YteldemgdcpmmfaaGreatDoorRows.lean that lists a variable, with what it lists TIED to the program's text (the seventh form; the later family's looks); each row that meets fmt, with fmt's text TOLD by the authors' own Lean function (tested against real Go, not proved from fmt's source: count such statements apart). THE CARD IS WHAT COUNTS. Prove the row's statement (the work); the ties are given (YteldemgdcpmmfaaGreatDoorTie.lean); close each card by the builder's one call (the guide's Derived/Test/ToyasCard.lean, 'card_holds'). Laid BY PROGRAM, IN A SANDBOX (cutbox-door.mjs). By AI agents, Wed Nov 11 2026. No macro, syntax, notation, axiom, sorry.
-/
import Derived.Test.YteldemgdcpmmfaaGreatDoorRows
import GoSem.ClaimSeven
namespace Go.Proofs.YteldemgdcpmmfaaGreatDoor
namespace Rows

/-- THE TIED CARD OF 'laws.FnUrlSpace'. -/
def fnUrlSpaceCard : Claim7 := { stood := { row := fnUrlSpaceRow, standIns := [], harness := (true, "227c0cd1032f739d9475e4d29df77037307d1b624b4e2d3409a1dafb63bcd0d3"), looks := false }, kinds := [], alts := [], laidByText := true, laidKinds := [.data, .data, .data, .data, .data, .pinned], laidTests := true, laidLooks := .later }
def FnUrlSpaceCardSaid : Prop := Claim7.holds Tryz.pinned (.plain (OpenSpec.ofChange fnUrlSpaceSpec)) fnUrlSpaceCard

/-- THE TIED CARD OF 'laws.FnExactUrlGet'. -/
def fnExactUrlGetCard : Claim7 := { stood := { row := fnExactUrlGetRow, standIns := [], harness := (true, "227c0cd1032f739d9475e4d29df77037307d1b624b4e2d3409a1dafb63bcd0d3"), looks := false }, kinds := [], alts := [], laidByText := true, laidKinds := [.data, .data, .data, .data, .data, .pinned], laidTests := true, laidLooks := .later }
def FnExactUrlGetCardSaid : Prop := Claim7.holds Tryz.pinned (.plain (OpenSpec.ofChange fnExactUrlGetSpec)) fnExactUrlGetCard

/-- THE TIED CARD OF 'laws.FnPortOf'. -/
def fnPortOfCard : Claim7 := { stood := { row := fnPortOfRow, standIns := [], harness := (true, "227c0cd1032f739d9475e4d29df77037307d1b624b4e2d3409a1dafb63bcd0d3"), looks := false }, kinds := [], alts := [], laidByText := true, laidKinds := [.data, .data, .data, .data, .data, .pinned], laidTests := true, laidLooks := .later }
def FnPortOfCardSaid : Prop := Claim7.holds Tryz.pinned (.plain (OpenSpec.ofChange fnPortOfSpec)) fnPortOfCard

/-- THE TIED CARD OF 'laws.FnUrlParts'. -/
def fnUrlPartsCard : Claim7 := { stood := { row := fnUrlPartsRow, standIns := [], harness := (true, "227c0cd1032f739d9475e4d29df77037307d1b624b4e2d3409a1dafb63bcd0d3"), looks := false }, kinds := [], alts := [], laidByText := true, laidKinds := [.data, .data, .data, .data, .data, .pinned], laidTests := true, laidLooks := .later }
def FnUrlPartsCardSaid : Prop := Claim7.holds Tryz.pinned (.plain (OpenSpec.ofChange fnUrlPartsSpec)) fnUrlPartsCard

/-- THE TIED CARD OF 'laws.FnExactUrlOk'. -/
def fnExactUrlOkCard : Claim7 := { stood := { row := fnExactUrlOkRow, standIns := [], harness := (true, "227c0cd1032f739d9475e4d29df77037307d1b624b4e2d3409a1dafb63bcd0d3"), looks := false }, kinds := [], alts := [], laidByText := true, laidKinds := [.data, .data, .data, .data, .data, .pinned], laidTests := true, laidLooks := .later }
def FnExactUrlOkCardSaid : Prop := Claim7.holds Tryz.pinned (.plain (OpenSpec.ofChange fnExactUrlOkSpec)) fnExactUrlOkCard

/-- THE TIED CARD OF 'laws.FnUrlCase'. -/
def fnUrlCaseCard : Claim7 := { stood := { row := fnUrlCaseRow, standIns := [], harness := (true, "227c0cd1032f739d9475e4d29df77037307d1b624b4e2d3409a1dafb63bcd0d3"), looks := false }, kinds := [], alts := [], laidByText := true, laidKinds := [.data, .data, .data, .data, .data, .pinned], laidTests := true, laidLooks := .later }
def FnUrlCaseCardSaid : Prop := Claim7.holds Tryz.pinned (.plain (OpenSpec.ofChange fnUrlCaseSpec)) fnUrlCaseCard

/-- THE TIED CARD OF 'laws.FnUrlSlash'. -/
def fnUrlSlashCard : Claim7 := { stood := { row := fnUrlSlashRow, standIns := [], harness := (true, "227c0cd1032f739d9475e4d29df77037307d1b624b4e2d3409a1dafb63bcd0d3"), looks := false }, kinds := [], alts := [], laidByText := true, laidKinds := [.data, .data, .data, .data, .data, .pinned], laidTests := true, laidLooks := .later }
def FnUrlSlashCardSaid : Prop := Claim7.holds Tryz.pinned (.plain (OpenSpec.ofChange fnUrlSlashSpec)) fnUrlSlashCard

/-- THE TIED CARD OF 'laws.FnExactUrlPut'. -/
def fnExactUrlPutCard : Claim7 := { stood := { row := fnExactUrlPutRow, standIns := [], harness := (true, "227c0cd1032f739d9475e4d29df77037307d1b624b4e2d3409a1dafb63bcd0d3"), looks := false }, kinds := [], alts := [], laidByText := true, laidKinds := [.data, .data, .data, .data, .data, .pinned], laidTests := true, laidLooks := .later }
def FnExactUrlPutCardSaid : Prop := Claim7.holds Tryz.pinned (.plain (OpenSpec.ofChange fnExactUrlPutSpec)) fnExactUrlPutCard

/-- THE TIED CARD OF 'laws.FnUrlText'. -/
def fnUrlTextCard : Claim7 := { stood := { row := fnUrlTextRow, standIns := [], harness := (true, "227c0cd1032f739d9475e4d29df77037307d1b624b4e2d3409a1dafb63bcd0d3"), looks := false }, kinds := [], alts := [], laidByText := true, laidKinds := [.data, .data, .data, .data, .data, .pinned], laidTests := true, laidLooks := .later }
def FnUrlTextCardSaid : Prop := Claim7.holds Tryz.pinned (.plain (OpenSpec.ofChange fnUrlTextSpec)) fnUrlTextCard

/-- THE TIED CARD OF 'laws.FnExactPortOf'. -/
def fnExactPortOfCard : Claim7 := { stood := { row := fnExactPortOfRow, standIns := [], harness := (true, "227c0cd1032f739d9475e4d29df77037307d1b624b4e2d3409a1dafb63bcd0d3"), looks := false }, kinds := [], alts := [], laidByText := true, laidKinds := [.data, .data, .data, .data, .data, .pinned], laidTests := true, laidLooks := .later }
def FnExactPortOfCardSaid : Prop := Claim7.holds Tryz.pinned (.plain (OpenSpec.ofChange fnExactPortOfSpec)) fnExactPortOfCard

/-- THE TIED CARD OF 'laws.FnOriginText'. -/
def fnOriginTextCard : Claim7 := { stood := { row := fnOriginTextRow, standIns := [], harness := (true, "227c0cd1032f739d9475e4d29df77037307d1b624b4e2d3409a1dafb63bcd0d3"), looks := false }, kinds := [], alts := [], laidByText := true, laidKinds := [.data, .data, .data, .data, .data, .pinned], laidTests := true, laidLooks := .later }
def FnOriginTextCardSaid : Prop := Claim7.holds Tryz.pinned (.plain (OpenSpec.ofChange fnOriginTextSpec)) fnOriginTextCard

/-- THE TIED CARD OF 'laws.FnExactOriginOf'. -/
def fnExactOriginOfCard : Claim7 := { stood := { row := fnExactOriginOfRow, standIns := [], harness := (true, "227c0cd1032f739d9475e4d29df77037307d1b624b4e2d3409a1dafb63bcd0d3"), looks := false }, kinds := [], alts := [], laidByText := true, laidKinds := [.data, .data, .data, .data, .data, .pinned], laidTests := true, laidLooks := .later }
def FnExactOriginOfCardSaid : Prop := Claim7.holds Tryz.pinned (.plain (OpenSpec.ofChange fnExactOriginOfSpec)) fnExactOriginOfCard

/-- THE SECOND FORM's CARD OF 'laws.FnUrlSpace'. -/
def fnUrlSpaceUptoCard : Claim7 := { stood := { row := fnUrlSpaceUptoRow, standIns := [], harness := (true, "227c0cd1032f739d9475e4d29df77037307d1b624b4e2d3409a1dafb63bcd0d3"), looks := false }, kinds := [], alts := [], laidByText := true, laidKinds := [.data, .data, .data, .data, .data, .pinned], laidTests := true, laidLooks := .later }
def FnUrlSpaceUptoCardSaid : Prop := Claim7.holds Tryz.pinned (.plain (OpenSpec.upto fnUrlSpaceSpec)) fnUrlSpaceUptoCard

/-- THE SECOND FORM's CARD OF 'laws.FnExactUrlGet'. -/
def fnExactUrlGetUptoCard : Claim7 := { stood := { row := fnExactUrlGetUptoRow, standIns := [], harness := (true, "227c0cd1032f739d9475e4d29df77037307d1b624b4e2d3409a1dafb63bcd0d3"), looks := false }, kinds := [], alts := [], laidByText := true, laidKinds := [.data, .data, .data, .data, .data, .pinned], laidTests := true, laidLooks := .later }
def FnExactUrlGetUptoCardSaid : Prop := Claim7.holds Tryz.pinned (.plain (OpenSpec.upto fnExactUrlGetSpec)) fnExactUrlGetUptoCard

/-- THE SECOND FORM's CARD OF 'laws.FnPortOf'. -/
def fnPortOfUptoCard : Claim7 := { stood := { row := fnPortOfUptoRow, standIns := [], harness := (true, "227c0cd1032f739d9475e4d29df77037307d1b624b4e2d3409a1dafb63bcd0d3"), looks := false }, kinds := [], alts := [], laidByText := true, laidKinds := [.data, .data, .data, .data, .data, .pinned], laidTests := true, laidLooks := .later }
def FnPortOfUptoCardSaid : Prop := Claim7.holds Tryz.pinned (.plain (OpenSpec.upto fnPortOfSpec)) fnPortOfUptoCard

/-- THE SECOND FORM's CARD OF 'laws.FnUrlParts'. -/
def fnUrlPartsUptoCard : Claim7 := { stood := { row := fnUrlPartsUptoRow, standIns := [], harness := (true, "227c0cd1032f739d9475e4d29df77037307d1b624b4e2d3409a1dafb63bcd0d3"), looks := false }, kinds := [], alts := [], laidByText := true, laidKinds := [.data, .data, .data, .data, .data, .pinned], laidTests := true, laidLooks := .later }
def FnUrlPartsUptoCardSaid : Prop := Claim7.holds Tryz.pinned (.plain (OpenSpec.upto fnUrlPartsSpec)) fnUrlPartsUptoCard

/-- THE SECOND FORM's CARD OF 'laws.FnExactUrlOk'. -/
def fnExactUrlOkUptoCard : Claim7 := { stood := { row := fnExactUrlOkUptoRow, standIns := [], harness := (true, "227c0cd1032f739d9475e4d29df77037307d1b624b4e2d3409a1dafb63bcd0d3"), looks := false }, kinds := [], alts := [], laidByText := true, laidKinds := [.data, .data, .data, .data, .data, .pinned], laidTests := true, laidLooks := .later }
def FnExactUrlOkUptoCardSaid : Prop := Claim7.holds Tryz.pinned (.plain (OpenSpec.upto fnExactUrlOkSpec)) fnExactUrlOkUptoCard

/-- THE SECOND FORM's CARD OF 'laws.FnUrlCase'. -/
def fnUrlCaseUptoCard : Claim7 := { stood := { row := fnUrlCaseUptoRow, standIns := [], harness := (true, "227c0cd1032f739d9475e4d29df77037307d1b624b4e2d3409a1dafb63bcd0d3"), looks := false }, kinds := [], alts := [], laidByText := true, laidKinds := [.data, .data, .data, .data, .data, .pinned], laidTests := true, laidLooks := .later }
def FnUrlCaseUptoCardSaid : Prop := Claim7.holds Tryz.pinned (.plain (OpenSpec.upto fnUrlCaseSpec)) fnUrlCaseUptoCard

/-- THE SECOND FORM's CARD OF 'laws.FnUrlSlash'. -/
def fnUrlSlashUptoCard : Claim7 := { stood := { row := fnUrlSlashUptoRow, standIns := [], harness := (true, "227c0cd1032f739d9475e4d29df77037307d1b624b4e2d3409a1dafb63bcd0d3"), looks := false }, kinds := [], alts := [], laidByText := true, laidKinds := [.data, .data, .data, .data, .data, .pinned], laidTests := true, laidLooks := .later }
def FnUrlSlashUptoCardSaid : Prop := Claim7.holds Tryz.pinned (.plain (OpenSpec.upto fnUrlSlashSpec)) fnUrlSlashUptoCard

/-- THE SECOND FORM's CARD OF 'laws.FnExactUrlPut'. -/
def fnExactUrlPutUptoCard : Claim7 := { stood := { row := fnExactUrlPutUptoRow, standIns := [], harness := (true, "227c0cd1032f739d9475e4d29df77037307d1b624b4e2d3409a1dafb63bcd0d3"), looks := false }, kinds := [], alts := [], laidByText := true, laidKinds := [.data, .data, .data, .data, .data, .pinned], laidTests := true, laidLooks := .later }
def FnExactUrlPutUptoCardSaid : Prop := Claim7.holds Tryz.pinned (.plain (OpenSpec.upto fnExactUrlPutSpec)) fnExactUrlPutUptoCard

/-- THE SECOND FORM's CARD OF 'laws.FnUrlText'. -/
def fnUrlTextUptoCard : Claim7 := { stood := { row := fnUrlTextUptoRow, standIns := [], harness := (true, "227c0cd1032f739d9475e4d29df77037307d1b624b4e2d3409a1dafb63bcd0d3"), looks := false }, kinds := [], alts := [], laidByText := true, laidKinds := [.data, .data, .data, .data, .data, .pinned], laidTests := true, laidLooks := .later }
def FnUrlTextUptoCardSaid : Prop := Claim7.holds Tryz.pinned (.plain (OpenSpec.upto fnUrlTextSpec)) fnUrlTextUptoCard

/-- THE SECOND FORM's CARD OF 'laws.FnExactPortOf'. -/
def fnExactPortOfUptoCard : Claim7 := { stood := { row := fnExactPortOfUptoRow, standIns := [], harness := (true, "227c0cd1032f739d9475e4d29df77037307d1b624b4e2d3409a1dafb63bcd0d3"), looks := false }, kinds := [], alts := [], laidByText := true, laidKinds := [.data, .data, .data, .data, .data, .pinned], laidTests := true, laidLooks := .later }
def FnExactPortOfUptoCardSaid : Prop := Claim7.holds Tryz.pinned (.plain (OpenSpec.upto fnExactPortOfSpec)) fnExactPortOfUptoCard

/-- THE SECOND FORM's CARD OF 'laws.FnOriginText'. -/
def fnOriginTextUptoCard : Claim7 := { stood := { row := fnOriginTextUptoRow, standIns := [], harness := (true, "227c0cd1032f739d9475e4d29df77037307d1b624b4e2d3409a1dafb63bcd0d3"), looks := false }, kinds := [], alts := [], laidByText := true, laidKinds := [.data, .data, .data, .data, .data, .pinned], laidTests := true, laidLooks := .later }
def FnOriginTextUptoCardSaid : Prop := Claim7.holds Tryz.pinned (.plain (OpenSpec.upto fnOriginTextSpec)) fnOriginTextUptoCard

/-- THE SECOND FORM's CARD OF 'laws.FnExactOriginOf'. -/
def fnExactOriginOfUptoCard : Claim7 := { stood := { row := fnExactOriginOfUptoRow, standIns := [], harness := (true, "227c0cd1032f739d9475e4d29df77037307d1b624b4e2d3409a1dafb63bcd0d3"), looks := false }, kinds := [], alts := [], laidByText := true, laidKinds := [.data, .data, .data, .data, .data, .pinned], laidTests := true, laidLooks := .later }
def FnExactOriginOfUptoCardSaid : Prop := Claim7.holds Tryz.pinned (.plain (OpenSpec.upto fnExactOriginOfSpec)) fnExactOriginOfUptoCard
end Rows
end Go.Proofs.YteldemgdcpmmfaaGreatDoor
