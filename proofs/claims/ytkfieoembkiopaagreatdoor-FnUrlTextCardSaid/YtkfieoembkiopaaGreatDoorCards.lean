/-
  DERIVED. GIVEN WITH THE SEED: THE CARDS: each row of YtkfieoembkiopaaGreatDoorRows.lean that lists a variable, with what it lists TIED to the program's text (the seventh form; the later family's looks); each row that meets fmt, with fmt's text TOLD by the authors' own Lean function (tested against real Go, not proved from fmt's source: count such statements apart). THE CARD IS WHAT COUNTS. Prove the row's statement (the work); the ties are given (YtkfieoembkiopaaGreatDoorTie.lean); close each card by the builder's one call (the guide's Derived/Test/ToyasCard.lean, 'card_holds'). Laid BY PROGRAM, IN A SANDBOX (cutbox-door.mjs). By AI agents, Wed Nov 11 2026. No macro, syntax, notation, axiom, sorry.
-/
import Derived.Test.YtkfieoembkiopaaGreatDoorRows
import GoSem.ClaimSeven
namespace Go.Proofs.YtkfieoembkiopaaGreatDoor
namespace Rows

/-- THE TIED CARD OF 'laws.FnUrlSpace'. -/
def fnUrlSpaceCard : Claim7 := { stood := { row := fnUrlSpaceRow, standIns := [], harness := (true, "53fafe910d4e7d9ffba9c01c2235e58cc8b4b18072dbb2abcddc17d5c4d02b6f"), looks := false }, kinds := [], alts := [], laidByText := true, laidKinds := [.data, .data, .data, .data, .data, .pinned], laidTests := true, laidLooks := .later }
def FnUrlSpaceCardSaid : Prop := Claim7.holds Tryz.pinned (.plain (OpenSpec.ofChange fnUrlSpaceSpec)) fnUrlSpaceCard

/-- THE TIED CARD OF 'laws.FnPortOf'. -/
def fnPortOfCard : Claim7 := { stood := { row := fnPortOfRow, standIns := [], harness := (true, "53fafe910d4e7d9ffba9c01c2235e58cc8b4b18072dbb2abcddc17d5c4d02b6f"), looks := false }, kinds := [], alts := [], laidByText := true, laidKinds := [.data, .data, .data, .data, .data, .pinned], laidTests := true, laidLooks := .later }
def FnPortOfCardSaid : Prop := Claim7.holds Tryz.pinned (.plain (OpenSpec.ofChange fnPortOfSpec)) fnPortOfCard

/-- THE TIED CARD OF 'laws.FnUrlParts'. -/
def fnUrlPartsCard : Claim7 := { stood := { row := fnUrlPartsRow, standIns := [], harness := (true, "53fafe910d4e7d9ffba9c01c2235e58cc8b4b18072dbb2abcddc17d5c4d02b6f"), looks := false }, kinds := [], alts := [], laidByText := true, laidKinds := [.data, .data, .data, .data, .data, .pinned], laidTests := true, laidLooks := .later }
def FnUrlPartsCardSaid : Prop := Claim7.holds Tryz.pinned (.plain (OpenSpec.ofChange fnUrlPartsSpec)) fnUrlPartsCard

/-- THE TIED CARD OF 'laws.FnUrlCase'. -/
def fnUrlCaseCard : Claim7 := { stood := { row := fnUrlCaseRow, standIns := [], harness := (true, "53fafe910d4e7d9ffba9c01c2235e58cc8b4b18072dbb2abcddc17d5c4d02b6f"), looks := false }, kinds := [], alts := [], laidByText := true, laidKinds := [.data, .data, .data, .data, .data, .pinned], laidTests := true, laidLooks := .later }
def FnUrlCaseCardSaid : Prop := Claim7.holds Tryz.pinned (.plain (OpenSpec.ofChange fnUrlCaseSpec)) fnUrlCaseCard

/-- THE TIED CARD OF 'laws.FnUrlSlash'. -/
def fnUrlSlashCard : Claim7 := { stood := { row := fnUrlSlashRow, standIns := [], harness := (true, "53fafe910d4e7d9ffba9c01c2235e58cc8b4b18072dbb2abcddc17d5c4d02b6f"), looks := false }, kinds := [], alts := [], laidByText := true, laidKinds := [.data, .data, .data, .data, .data, .pinned], laidTests := true, laidLooks := .later }
def FnUrlSlashCardSaid : Prop := Claim7.holds Tryz.pinned (.plain (OpenSpec.ofChange fnUrlSlashSpec)) fnUrlSlashCard

/-- THE TIED CARD OF 'laws.FnUrlText'. -/
def fnUrlTextCard : Claim7 := { stood := { row := fnUrlTextRow, standIns := [], harness := (true, "53fafe910d4e7d9ffba9c01c2235e58cc8b4b18072dbb2abcddc17d5c4d02b6f"), looks := false }, kinds := [], alts := [], laidByText := true, laidKinds := [.data, .data, .data, .data, .data, .pinned], laidTests := true, laidLooks := .later }
def FnUrlTextCardSaid : Prop := Claim7.holds Tryz.pinned (.plain (OpenSpec.ofChange fnUrlTextSpec)) fnUrlTextCard

/-- THE TIED CARD OF 'laws.FnOriginSame'. -/
def fnOriginSameCard : Claim7 := { stood := { row := fnOriginSameRow, standIns := [], harness := (true, "53fafe910d4e7d9ffba9c01c2235e58cc8b4b18072dbb2abcddc17d5c4d02b6f"), looks := false }, kinds := [], alts := [], laidByText := true, laidKinds := [.data, .data, .data, .data, .data, .pinned], laidTests := true, laidLooks := .later }
def FnOriginSameCardSaid : Prop := Claim7.holds Tryz.pinned (.plain (OpenSpec.ofChange fnOriginSameSpec)) fnOriginSameCard

/-- THE TIED CARD OF 'laws.FnSiteSame'. -/
def fnSiteSameCard : Claim7 := { stood := { row := fnSiteSameRow, standIns := [], harness := (true, "53fafe910d4e7d9ffba9c01c2235e58cc8b4b18072dbb2abcddc17d5c4d02b6f"), looks := false }, kinds := [], alts := [], laidByText := true, laidKinds := [.data, .data, .data, .data, .data, .pinned], laidTests := true, laidLooks := .later }
def FnSiteSameCardSaid : Prop := Claim7.holds Tryz.pinned (.plain (OpenSpec.ofChange fnSiteSameSpec)) fnSiteSameCard

/-- THE TIED CARD OF 'laws.FnOriginText'. -/
def fnOriginTextCard : Claim7 := { stood := { row := fnOriginTextRow, standIns := [], harness := (true, "53fafe910d4e7d9ffba9c01c2235e58cc8b4b18072dbb2abcddc17d5c4d02b6f"), looks := false }, kinds := [], alts := [], laidByText := true, laidKinds := [.data, .data, .data, .data, .data, .pinned], laidTests := true, laidLooks := .later }
def FnOriginTextCardSaid : Prop := Claim7.holds Tryz.pinned (.plain (OpenSpec.ofChange fnOriginTextSpec)) fnOriginTextCard

/-- THE TIED CARD OF 'laws.FnHistKey'. -/
def fnHistKeyCard : Claim7 := { stood := { row := fnHistKeyRow, standIns := [], harness := (true, "53fafe910d4e7d9ffba9c01c2235e58cc8b4b18072dbb2abcddc17d5c4d02b6f"), looks := false }, kinds := [], alts := [], laidByText := true, laidKinds := [.data, .data, .data, .data, .data, .pinned], laidTests := true, laidLooks := .later }
def FnHistKeyCardSaid : Prop := Claim7.holds Tryz.pinned (.plain (OpenSpec.ofChange fnHistKeySpec)) fnHistKeyCard

/-- THE TIED CARD OF 'laws.FnHistAt'. -/
def fnHistAtCard : Claim7 := { stood := { row := fnHistAtRow, standIns := [], harness := (true, "53fafe910d4e7d9ffba9c01c2235e58cc8b4b18072dbb2abcddc17d5c4d02b6f"), looks := false }, kinds := [], alts := [], laidByText := true, laidKinds := [.data, .data, .data, .data, .data, .pinned], laidTests := true, laidLooks := .later }
def FnHistAtCardSaid : Prop := Claim7.holds Tryz.pinned (.plain (OpenSpec.ofChange fnHistAtSpec)) fnHistAtCard

/-- THE SECOND FORM's CARD OF 'laws.FnUrlSpace'. -/
def fnUrlSpaceUptoCard : Claim7 := { stood := { row := fnUrlSpaceUptoRow, standIns := [], harness := (true, "53fafe910d4e7d9ffba9c01c2235e58cc8b4b18072dbb2abcddc17d5c4d02b6f"), looks := false }, kinds := [], alts := [], laidByText := true, laidKinds := [.data, .data, .data, .data, .data, .pinned], laidTests := true, laidLooks := .later }
def FnUrlSpaceUptoCardSaid : Prop := Claim7.holds Tryz.pinned (.plain (OpenSpec.upto fnUrlSpaceSpec)) fnUrlSpaceUptoCard

/-- THE SECOND FORM's CARD OF 'laws.FnPortOf'. -/
def fnPortOfUptoCard : Claim7 := { stood := { row := fnPortOfUptoRow, standIns := [], harness := (true, "53fafe910d4e7d9ffba9c01c2235e58cc8b4b18072dbb2abcddc17d5c4d02b6f"), looks := false }, kinds := [], alts := [], laidByText := true, laidKinds := [.data, .data, .data, .data, .data, .pinned], laidTests := true, laidLooks := .later }
def FnPortOfUptoCardSaid : Prop := Claim7.holds Tryz.pinned (.plain (OpenSpec.upto fnPortOfSpec)) fnPortOfUptoCard

/-- THE SECOND FORM's CARD OF 'laws.FnUrlParts'. -/
def fnUrlPartsUptoCard : Claim7 := { stood := { row := fnUrlPartsUptoRow, standIns := [], harness := (true, "53fafe910d4e7d9ffba9c01c2235e58cc8b4b18072dbb2abcddc17d5c4d02b6f"), looks := false }, kinds := [], alts := [], laidByText := true, laidKinds := [.data, .data, .data, .data, .data, .pinned], laidTests := true, laidLooks := .later }
def FnUrlPartsUptoCardSaid : Prop := Claim7.holds Tryz.pinned (.plain (OpenSpec.upto fnUrlPartsSpec)) fnUrlPartsUptoCard

/-- THE SECOND FORM's CARD OF 'laws.FnUrlCase'. -/
def fnUrlCaseUptoCard : Claim7 := { stood := { row := fnUrlCaseUptoRow, standIns := [], harness := (true, "53fafe910d4e7d9ffba9c01c2235e58cc8b4b18072dbb2abcddc17d5c4d02b6f"), looks := false }, kinds := [], alts := [], laidByText := true, laidKinds := [.data, .data, .data, .data, .data, .pinned], laidTests := true, laidLooks := .later }
def FnUrlCaseUptoCardSaid : Prop := Claim7.holds Tryz.pinned (.plain (OpenSpec.upto fnUrlCaseSpec)) fnUrlCaseUptoCard

/-- THE SECOND FORM's CARD OF 'laws.FnUrlSlash'. -/
def fnUrlSlashUptoCard : Claim7 := { stood := { row := fnUrlSlashUptoRow, standIns := [], harness := (true, "53fafe910d4e7d9ffba9c01c2235e58cc8b4b18072dbb2abcddc17d5c4d02b6f"), looks := false }, kinds := [], alts := [], laidByText := true, laidKinds := [.data, .data, .data, .data, .data, .pinned], laidTests := true, laidLooks := .later }
def FnUrlSlashUptoCardSaid : Prop := Claim7.holds Tryz.pinned (.plain (OpenSpec.upto fnUrlSlashSpec)) fnUrlSlashUptoCard

/-- THE SECOND FORM's CARD OF 'laws.FnUrlText'. -/
def fnUrlTextUptoCard : Claim7 := { stood := { row := fnUrlTextUptoRow, standIns := [], harness := (true, "53fafe910d4e7d9ffba9c01c2235e58cc8b4b18072dbb2abcddc17d5c4d02b6f"), looks := false }, kinds := [], alts := [], laidByText := true, laidKinds := [.data, .data, .data, .data, .data, .pinned], laidTests := true, laidLooks := .later }
def FnUrlTextUptoCardSaid : Prop := Claim7.holds Tryz.pinned (.plain (OpenSpec.upto fnUrlTextSpec)) fnUrlTextUptoCard

/-- THE SECOND FORM's CARD OF 'laws.FnOriginSame'. -/
def fnOriginSameUptoCard : Claim7 := { stood := { row := fnOriginSameUptoRow, standIns := [], harness := (true, "53fafe910d4e7d9ffba9c01c2235e58cc8b4b18072dbb2abcddc17d5c4d02b6f"), looks := false }, kinds := [], alts := [], laidByText := true, laidKinds := [.data, .data, .data, .data, .data, .pinned], laidTests := true, laidLooks := .later }
def FnOriginSameUptoCardSaid : Prop := Claim7.holds Tryz.pinned (.plain (OpenSpec.upto fnOriginSameSpec)) fnOriginSameUptoCard

/-- THE SECOND FORM's CARD OF 'laws.FnSiteSame'. -/
def fnSiteSameUptoCard : Claim7 := { stood := { row := fnSiteSameUptoRow, standIns := [], harness := (true, "53fafe910d4e7d9ffba9c01c2235e58cc8b4b18072dbb2abcddc17d5c4d02b6f"), looks := false }, kinds := [], alts := [], laidByText := true, laidKinds := [.data, .data, .data, .data, .data, .pinned], laidTests := true, laidLooks := .later }
def FnSiteSameUptoCardSaid : Prop := Claim7.holds Tryz.pinned (.plain (OpenSpec.upto fnSiteSameSpec)) fnSiteSameUptoCard

/-- THE SECOND FORM's CARD OF 'laws.FnOriginText'. -/
def fnOriginTextUptoCard : Claim7 := { stood := { row := fnOriginTextUptoRow, standIns := [], harness := (true, "53fafe910d4e7d9ffba9c01c2235e58cc8b4b18072dbb2abcddc17d5c4d02b6f"), looks := false }, kinds := [], alts := [], laidByText := true, laidKinds := [.data, .data, .data, .data, .data, .pinned], laidTests := true, laidLooks := .later }
def FnOriginTextUptoCardSaid : Prop := Claim7.holds Tryz.pinned (.plain (OpenSpec.upto fnOriginTextSpec)) fnOriginTextUptoCard

/-- THE SECOND FORM's CARD OF 'laws.FnHistKey'. -/
def fnHistKeyUptoCard : Claim7 := { stood := { row := fnHistKeyUptoRow, standIns := [], harness := (true, "53fafe910d4e7d9ffba9c01c2235e58cc8b4b18072dbb2abcddc17d5c4d02b6f"), looks := false }, kinds := [], alts := [], laidByText := true, laidKinds := [.data, .data, .data, .data, .data, .pinned], laidTests := true, laidLooks := .later }
def FnHistKeyUptoCardSaid : Prop := Claim7.holds Tryz.pinned (.plain (OpenSpec.upto fnHistKeySpec)) fnHistKeyUptoCard

/-- THE SECOND FORM's CARD OF 'laws.FnHistAt'. -/
def fnHistAtUptoCard : Claim7 := { stood := { row := fnHistAtUptoRow, standIns := [], harness := (true, "53fafe910d4e7d9ffba9c01c2235e58cc8b4b18072dbb2abcddc17d5c4d02b6f"), looks := false }, kinds := [], alts := [], laidByText := true, laidKinds := [.data, .data, .data, .data, .data, .pinned], laidTests := true, laidLooks := .later }
def FnHistAtUptoCardSaid : Prop := Claim7.holds Tryz.pinned (.plain (OpenSpec.upto fnHistAtSpec)) fnHistAtUptoCard
end Rows
end Go.Proofs.YtkfieoembkiopaaGreatDoor
