/-
  DERIVED. GIVEN WITH THE SEED: THE CARDS: each row of YtopcpbokfngpeaaGreatDoorRows.lean that lists a variable, with what it lists TIED to the program's text (the seventh form; the later family's looks); each row that meets fmt, with fmt's text TOLD by the authors' own Lean function (tested against real Go, not proved from fmt's source: count such statements apart). THE CARD IS WHAT COUNTS. Prove the row's statement (the work); the ties are given (YtopcpbokfngpeaaGreatDoorTie.lean); close each card by the builder's one call (the guide's Derived/Test/ToyasCard.lean, 'card_holds'). Laid BY PROGRAM, IN A SANDBOX (cutbox-door.mjs). By AI agents, Wed Nov 11 2026. No macro, syntax, notation, axiom, sorry.
-/
import Derived.Test.YtopcpbokfngpeaaGreatDoorRows
import GoSem.ClaimSeven
namespace Go.Proofs.YtopcpbokfngpeaaGreatDoor
namespace Rows

/-- THE TIED CARD OF 'laws.FnOriginSame'. -/
def fnOriginSameCard : Claim7 := { stood := { row := fnOriginSameRow, standIns := [], harness := (true, "09ea2a416016d82cfa67af8009d4c4b65f6461b53fd65eadc6ecab0c0914026f"), looks := false }, kinds := [], alts := [], laidByText := true, laidKinds := [.data, .data, .data, .data, .data, .pinned], laidTests := true, laidLooks := .later }
def FnOriginSameCardSaid : Prop := Claim7.holds Tryz.pinned (.plain (OpenSpec.ofChange fnOriginSameSpec)) fnOriginSameCard

/-- THE TIED CARD OF 'laws.FnSiteSame'. -/
def fnSiteSameCard : Claim7 := { stood := { row := fnSiteSameRow, standIns := [], harness := (true, "09ea2a416016d82cfa67af8009d4c4b65f6461b53fd65eadc6ecab0c0914026f"), looks := false }, kinds := [], alts := [], laidByText := true, laidKinds := [.data, .data, .data, .data, .data, .pinned], laidTests := true, laidLooks := .later }
def FnSiteSameCardSaid : Prop := Claim7.holds Tryz.pinned (.plain (OpenSpec.ofChange fnSiteSameSpec)) fnSiteSameCard

/-- THE TIED CARD OF 'laws.FnOriginText'. -/
def fnOriginTextCard : Claim7 := { stood := { row := fnOriginTextRow, standIns := [], harness := (true, "09ea2a416016d82cfa67af8009d4c4b65f6461b53fd65eadc6ecab0c0914026f"), looks := false }, kinds := [], alts := [], laidByText := true, laidKinds := [.data, .data, .data, .data, .data, .pinned], laidTests := true, laidLooks := .later }
def FnOriginTextCardSaid : Prop := Claim7.holds Tryz.pinned (.plain (OpenSpec.ofChange fnOriginTextSpec)) fnOriginTextCard

/-- THE TIED CARD OF 'laws.FnHistKey'. -/
def fnHistKeyCard : Claim7 := { stood := { row := fnHistKeyRow, standIns := [], harness := (true, "09ea2a416016d82cfa67af8009d4c4b65f6461b53fd65eadc6ecab0c0914026f"), looks := false }, kinds := [], alts := [], laidByText := true, laidKinds := [.data, .data, .data, .data, .data, .pinned], laidTests := true, laidLooks := .later }
def FnHistKeyCardSaid : Prop := Claim7.holds Tryz.pinned (.plain (OpenSpec.ofChange fnHistKeySpec)) fnHistKeyCard

/-- THE TIED CARD OF 'laws.FnHistAt'. -/
def fnHistAtCard : Claim7 := { stood := { row := fnHistAtRow, standIns := [], harness := (true, "09ea2a416016d82cfa67af8009d4c4b65f6461b53fd65eadc6ecab0c0914026f"), looks := false }, kinds := [], alts := [], laidByText := true, laidKinds := [.data, .data, .data, .data, .data, .pinned], laidTests := true, laidLooks := .later }
def FnHistAtCardSaid : Prop := Claim7.holds Tryz.pinned (.plain (OpenSpec.ofChange fnHistAtSpec)) fnHistAtCard

/-- THE SECOND FORM's CARD OF 'laws.FnOriginSame'. -/
def fnOriginSameUptoCard : Claim7 := { stood := { row := fnOriginSameUptoRow, standIns := [], harness := (true, "09ea2a416016d82cfa67af8009d4c4b65f6461b53fd65eadc6ecab0c0914026f"), looks := false }, kinds := [], alts := [], laidByText := true, laidKinds := [.data, .data, .data, .data, .data, .pinned], laidTests := true, laidLooks := .later }
def FnOriginSameUptoCardSaid : Prop := Claim7.holds Tryz.pinned (.plain (OpenSpec.upto fnOriginSameSpec)) fnOriginSameUptoCard

/-- THE SECOND FORM's CARD OF 'laws.FnSiteSame'. -/
def fnSiteSameUptoCard : Claim7 := { stood := { row := fnSiteSameUptoRow, standIns := [], harness := (true, "09ea2a416016d82cfa67af8009d4c4b65f6461b53fd65eadc6ecab0c0914026f"), looks := false }, kinds := [], alts := [], laidByText := true, laidKinds := [.data, .data, .data, .data, .data, .pinned], laidTests := true, laidLooks := .later }
def FnSiteSameUptoCardSaid : Prop := Claim7.holds Tryz.pinned (.plain (OpenSpec.upto fnSiteSameSpec)) fnSiteSameUptoCard

/-- THE SECOND FORM's CARD OF 'laws.FnOriginText'. -/
def fnOriginTextUptoCard : Claim7 := { stood := { row := fnOriginTextUptoRow, standIns := [], harness := (true, "09ea2a416016d82cfa67af8009d4c4b65f6461b53fd65eadc6ecab0c0914026f"), looks := false }, kinds := [], alts := [], laidByText := true, laidKinds := [.data, .data, .data, .data, .data, .pinned], laidTests := true, laidLooks := .later }
def FnOriginTextUptoCardSaid : Prop := Claim7.holds Tryz.pinned (.plain (OpenSpec.upto fnOriginTextSpec)) fnOriginTextUptoCard

/-- THE SECOND FORM's CARD OF 'laws.FnHistKey'. -/
def fnHistKeyUptoCard : Claim7 := { stood := { row := fnHistKeyUptoRow, standIns := [], harness := (true, "09ea2a416016d82cfa67af8009d4c4b65f6461b53fd65eadc6ecab0c0914026f"), looks := false }, kinds := [], alts := [], laidByText := true, laidKinds := [.data, .data, .data, .data, .data, .pinned], laidTests := true, laidLooks := .later }
def FnHistKeyUptoCardSaid : Prop := Claim7.holds Tryz.pinned (.plain (OpenSpec.upto fnHistKeySpec)) fnHistKeyUptoCard

/-- THE SECOND FORM's CARD OF 'laws.FnHistAt'. -/
def fnHistAtUptoCard : Claim7 := { stood := { row := fnHistAtUptoRow, standIns := [], harness := (true, "09ea2a416016d82cfa67af8009d4c4b65f6461b53fd65eadc6ecab0c0914026f"), looks := false }, kinds := [], alts := [], laidByText := true, laidKinds := [.data, .data, .data, .data, .data, .pinned], laidTests := true, laidLooks := .later }
def FnHistAtUptoCardSaid : Prop := Claim7.holds Tryz.pinned (.plain (OpenSpec.upto fnHistAtSpec)) fnHistAtUptoCard
end Rows
end Go.Proofs.YtopcpbokfngpeaaGreatDoor
