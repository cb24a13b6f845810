/-
  DERIVED. GIVEN WITH THE SEED: THE CARDS: each row of YtocgaicnfahkeaaDoorRows.lean that lists a variable, with what it lists TIED to the program's text (the seventh form; the later family's looks); each row that meets fmt, with fmt's text TOLD by the authors' own Lean function (tested against real Go, not proved from fmt's source: count such statements apart). THE CARD IS WHAT COUNTS. Prove the row's statement (the work); the ties are given (YtocgaicnfahkeaaDoorTie.lean); close each card by the builder's one call (the guide's Derived/Test/ToyasCard.lean, 'card_holds'). Laid BY PROGRAM, IN A SANDBOX (cutbox-door.mjs). By AI agents, Wed Nov 11 2026. No macro, syntax, notation, axiom, sorry.
-/
import Derived.Test.YtocgaicnfahkeaaDoorRows
import GoSem.ClaimSeven
namespace Go.Proofs.YtocgaicnfahkeaaDoor
namespace Rows

/-- THE TIED CARD OF 'laws.FnExactOriginPut'. -/
def fnExactOriginPutCard : Claim7 := { stood := { row := fnExactOriginPutRow, standIns := [], harness := (true, "d0a37dc18b606eb15acb6eafbfa907a7444df202c544de16f42637ba5a7bca17"), looks := false }, kinds := [], alts := [], laidByText := true, laidKinds := [.data, .data, .data, .data, .pinned], laidTests := true, laidLooks := .later }
def FnExactOriginPutCardSaid : Prop := Claim7.holds Tryd.pinned (.plain (OpenSpec.ofChange fnExactOriginPutSpec)) fnExactOriginPutCard

/-- THE SECOND FORM's CARD OF 'laws.FnExactOriginPut'. -/
def fnExactOriginPutUptoCard : Claim7 := { stood := { row := fnExactOriginPutUptoRow, standIns := [], harness := (true, "d0a37dc18b606eb15acb6eafbfa907a7444df202c544de16f42637ba5a7bca17"), looks := false }, kinds := [], alts := [], laidByText := true, laidKinds := [.data, .data, .data, .data, .pinned], laidTests := true, laidLooks := .later }
def FnExactOriginPutUptoCardSaid : Prop := Claim7.holds Tryd.pinned (.plain (OpenSpec.upto fnExactOriginPutSpec)) fnExactOriginPutUptoCard
end Rows
end Go.Proofs.YtocgaicnfahkeaaDoor
