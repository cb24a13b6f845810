/-
  DERIVED. GIVEN WITH THE SEED: THE CARDS: each row of YtndobphgeiamhaaGreatDoorRows.lean that lists a variable, with what it lists TIED to the program's text (the seventh form; the later family's looks); each row that meets fmt, with fmt's text TOLD by the authors' own Lean function (tested against real Go, not proved from fmt's source: count such statements apart). THE CARD IS WHAT COUNTS. Prove the row's statement (the work); the ties are given (YtndobphgeiamhaaGreatDoorTie.lean); close each card by the builder's one call (the guide's Derived/Test/ToyasCard.lean, 'card_holds'). Laid BY PROGRAM, IN A SANDBOX (cutbox-door.mjs). By AI agents, Wed Nov 11 2026. No macro, syntax, notation, axiom, sorry.
-/
import Derived.Test.YtndobphgeiamhaaGreatDoorRows
import GoSem.ClaimSeven
namespace Go.Proofs.YtndobphgeiamhaaGreatDoor
namespace Rows

/-- THE TIED CARD OF 'laws.FnExactOriginOf'. -/
def fnExactOriginOfCard : Claim7 := { stood := { row := fnExactOriginOfRow, standIns := [], harness := (true, "6da13897f50fc5f11709f7f6eb8ed5dcd40b4f18dfbfc6c166c9579e8000bd08"), looks := false }, kinds := [], alts := [], laidByText := true, laidKinds := [.data, .data, .data, .data, .data, .pinned], laidTests := true, laidLooks := .later }
def FnExactOriginOfCardSaid : Prop := Claim7.holds Tryz.pinned (.plain (OpenSpec.ofChange fnExactOriginOfSpec)) fnExactOriginOfCard

/-- THE TIED CARD OF 'laws.FnExactSiteSame'. -/
def fnExactSiteSameCard : Claim7 := { stood := { row := fnExactSiteSameRow, standIns := [], harness := (true, "6da13897f50fc5f11709f7f6eb8ed5dcd40b4f18dfbfc6c166c9579e8000bd08"), looks := false }, kinds := [], alts := [], laidByText := true, laidKinds := [.data, .data, .data, .data, .data, .pinned], laidTests := true, laidLooks := .later }
def FnExactSiteSameCardSaid : Prop := Claim7.holds Tryz.pinned (.plain (OpenSpec.ofChange fnExactSiteSameSpec)) fnExactSiteSameCard

/-- THE TIED CARD OF 'laws.FnExactOriginSame'. -/
def fnExactOriginSameCard : Claim7 := { stood := { row := fnExactOriginSameRow, standIns := [], harness := (true, "6da13897f50fc5f11709f7f6eb8ed5dcd40b4f18dfbfc6c166c9579e8000bd08"), looks := false }, kinds := [], alts := [], laidByText := true, laidKinds := [.data, .data, .data, .data, .data, .pinned], laidTests := true, laidLooks := .later }
def FnExactOriginSameCardSaid : Prop := Claim7.holds Tryz.pinned (.plain (OpenSpec.ofChange fnExactOriginSameSpec)) fnExactOriginSameCard

/-- THE TIED CARD OF 'laws.FnExactHistOk'. -/
def fnExactHistOkCard : Claim7 := { stood := { row := fnExactHistOkRow, standIns := [], harness := (true, "6da13897f50fc5f11709f7f6eb8ed5dcd40b4f18dfbfc6c166c9579e8000bd08"), looks := false }, kinds := [], alts := [], laidByText := true, laidKinds := [.data, .data, .data, .data, .data, .pinned], laidTests := true, laidLooks := .later }
def FnExactHistOkCardSaid : Prop := Claim7.holds Tryz.pinned (.plain (OpenSpec.ofChange fnExactHistOkSpec)) fnExactHistOkCard

/-- THE TIED CARD OF 'laws.FnExactHistKey'. -/
def fnExactHistKeyCard : Claim7 := { stood := { row := fnExactHistKeyRow, standIns := [], harness := (true, "6da13897f50fc5f11709f7f6eb8ed5dcd40b4f18dfbfc6c166c9579e8000bd08"), looks := false }, kinds := [], alts := [], laidByText := true, laidKinds := [.data, .data, .data, .data, .data, .pinned], laidTests := true, laidLooks := .later }
def FnExactHistKeyCardSaid : Prop := Claim7.holds Tryz.pinned (.plain (OpenSpec.ofChange fnExactHistKeySpec)) fnExactHistKeyCard

/-- THE TIED CARD OF 'laws.FnExactHistAt'. -/
def fnExactHistAtCard : Claim7 := { stood := { row := fnExactHistAtRow, standIns := [], harness := (true, "6da13897f50fc5f11709f7f6eb8ed5dcd40b4f18dfbfc6c166c9579e8000bd08"), looks := false }, kinds := [], alts := [], laidByText := true, laidKinds := [.data, .data, .data, .data, .data, .pinned], laidTests := true, laidLooks := .later }
def FnExactHistAtCardSaid : Prop := Claim7.holds Tryz.pinned (.plain (OpenSpec.ofChange fnExactHistAtSpec)) fnExactHistAtCard

/-- THE SECOND FORM's CARD OF 'laws.FnExactOriginOf'. -/
def fnExactOriginOfUptoCard : Claim7 := { stood := { row := fnExactOriginOfUptoRow, standIns := [], harness := (true, "6da13897f50fc5f11709f7f6eb8ed5dcd40b4f18dfbfc6c166c9579e8000bd08"), looks := false }, kinds := [], alts := [], laidByText := true, laidKinds := [.data, .data, .data, .data, .data, .pinned], laidTests := true, laidLooks := .later }
def FnExactOriginOfUptoCardSaid : Prop := Claim7.holds Tryz.pinned (.plain (OpenSpec.upto fnExactOriginOfSpec)) fnExactOriginOfUptoCard

/-- THE SECOND FORM's CARD OF 'laws.FnExactSiteSame'. -/
def fnExactSiteSameUptoCard : Claim7 := { stood := { row := fnExactSiteSameUptoRow, standIns := [], harness := (true, "6da13897f50fc5f11709f7f6eb8ed5dcd40b4f18dfbfc6c166c9579e8000bd08"), looks := false }, kinds := [], alts := [], laidByText := true, laidKinds := [.data, .data, .data, .data, .data, .pinned], laidTests := true, laidLooks := .later }
def FnExactSiteSameUptoCardSaid : Prop := Claim7.holds Tryz.pinned (.plain (OpenSpec.upto fnExactSiteSameSpec)) fnExactSiteSameUptoCard

/-- THE SECOND FORM's CARD OF 'laws.FnExactOriginSame'. -/
def fnExactOriginSameUptoCard : Claim7 := { stood := { row := fnExactOriginSameUptoRow, standIns := [], harness := (true, "6da13897f50fc5f11709f7f6eb8ed5dcd40b4f18dfbfc6c166c9579e8000bd08"), looks := false }, kinds := [], alts := [], laidByText := true, laidKinds := [.data, .data, .data, .data, .data, .pinned], laidTests := true, laidLooks := .later }
def FnExactOriginSameUptoCardSaid : Prop := Claim7.holds Tryz.pinned (.plain (OpenSpec.upto fnExactOriginSameSpec)) fnExactOriginSameUptoCard

/-- THE SECOND FORM's CARD OF 'laws.FnExactHistOk'. -/
def fnExactHistOkUptoCard : Claim7 := { stood := { row := fnExactHistOkUptoRow, standIns := [], harness := (true, "6da13897f50fc5f11709f7f6eb8ed5dcd40b4f18dfbfc6c166c9579e8000bd08"), looks := false }, kinds := [], alts := [], laidByText := true, laidKinds := [.data, .data, .data, .data, .data, .pinned], laidTests := true, laidLooks := .later }
def FnExactHistOkUptoCardSaid : Prop := Claim7.holds Tryz.pinned (.plain (OpenSpec.upto fnExactHistOkSpec)) fnExactHistOkUptoCard

/-- THE SECOND FORM's CARD OF 'laws.FnExactHistKey'. -/
def fnExactHistKeyUptoCard : Claim7 := { stood := { row := fnExactHistKeyUptoRow, standIns := [], harness := (true, "6da13897f50fc5f11709f7f6eb8ed5dcd40b4f18dfbfc6c166c9579e8000bd08"), looks := false }, kinds := [], alts := [], laidByText := true, laidKinds := [.data, .data, .data, .data, .data, .pinned], laidTests := true, laidLooks := .later }
def FnExactHistKeyUptoCardSaid : Prop := Claim7.holds Tryz.pinned (.plain (OpenSpec.upto fnExactHistKeySpec)) fnExactHistKeyUptoCard

/-- THE SECOND FORM's CARD OF 'laws.FnExactHistAt'. -/
def fnExactHistAtUptoCard : Claim7 := { stood := { row := fnExactHistAtUptoRow, standIns := [], harness := (true, "6da13897f50fc5f11709f7f6eb8ed5dcd40b4f18dfbfc6c166c9579e8000bd08"), looks := false }, kinds := [], alts := [], laidByText := true, laidKinds := [.data, .data, .data, .data, .data, .pinned], laidTests := true, laidLooks := .later }
def FnExactHistAtUptoCardSaid : Prop := Claim7.holds Tryz.pinned (.plain (OpenSpec.upto fnExactHistAtSpec)) fnExactHistAtUptoCard
end Rows
end Go.Proofs.YtndobphgeiamhaaGreatDoor
