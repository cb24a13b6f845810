/-
  DERIVED. GIVEN WITH THE SEED: THE CARDS: each row of YtafdpgdllmhhmaaDoorRows.lean that lists a variable, with what it lists TIED to the program's text (the seventh form; the later family's looks); each row that meets fmt, with fmt's text TOLD by the authors' own Lean function (tested against real Go, not proved from fmt's source: count such statements apart). THE CARD IS WHAT COUNTS. Prove the row's statement (the work); the ties are given (YtafdpgdllmhhmaaDoorTie.lean); close each card by the builder's one call (the guide's Derived/Test/ToyasCard.lean, 'card_holds'). Laid BY PROGRAM, IN A SANDBOX (cutbox-door.mjs). By AI agents, Wed Nov 11 2026. No macro, syntax, notation, axiom, sorry.
-/
import Derived.Test.YtafdpgdllmhhmaaDoorRows
import GoSem.ClaimSeven
namespace Go.Proofs.YtafdpgdllmhhmaaDoor
namespace Rows

/-- THE TIED CARD OF 'laws.FnEncodeParts'. -/
def fnEncodePartsCard : Claim7 := { stood := { row := fnEncodePartsRow, standIns := [], harness := (true, "8520673b036c7a54bd343cf4c49c92df48a8b345d680afd85a67bc6efc705937"), looks := false }, kinds := [], alts := [], laidByText := true, laidKinds := [.data], laidTests := true, laidLooks := .later }
def FnEncodePartsCardSaid : Prop := Claim7.holds Tryd.pinned (.plain (OpenSpec.ofChange fnEncodePartsSpec)) fnEncodePartsCard

/-- THE TIED CARD OF 'laws.FnEncode'. -/
def fnEncodeCard : Claim7 := { stood := { row := fnEncodeRow, standIns := [], harness := (true, "8520673b036c7a54bd343cf4c49c92df48a8b345d680afd85a67bc6efc705937"), looks := false }, kinds := [], alts := [], laidByText := true, laidKinds := [.data], laidTests := true, laidLooks := .later }
def FnEncodeCardSaid : Prop := Claim7.holds Tryd.pinned (.plain (OpenSpec.ofChange fnEncodeSpec)) fnEncodeCard

/-- THE TIED CARD OF 'laws.FnExactFourGet'. -/
def fnExactFourGetCard : Claim7 := { stood := { row := fnExactFourGetRow, standIns := [], harness := (true, "8520673b036c7a54bd343cf4c49c92df48a8b345d680afd85a67bc6efc705937"), looks := false }, kinds := [], alts := [], laidByText := true, laidKinds := [.data, .pinned], laidTests := true, laidLooks := .later }
def FnExactFourGetCardSaid : Prop := Claim7.holds Tryd.pinned (.plain (OpenSpec.ofChange fnExactFourGetSpec)) fnExactFourGetCard

/-- THE TIED CARD OF 'laws.FnExactDomainIn'. -/
def fnExactDomainInCard : Claim7 := { stood := { row := fnExactDomainInRow, standIns := [], harness := (true, "8520673b036c7a54bd343cf4c49c92df48a8b345d680afd85a67bc6efc705937"), looks := false }, kinds := [], alts := [], laidByText := true, laidKinds := [.data, .pinned], laidTests := true, laidLooks := .later }
def FnExactDomainInCardSaid : Prop := Claim7.holds Tryd.pinned (.plain (OpenSpec.ofChange fnExactDomainInSpec)) fnExactDomainInCard

/-- THE TIED CARD OF 'laws.FnExactHostOk'. -/
def fnExactHostOkCard : Claim7 := { stood := { row := fnExactHostOkRow, standIns := [], harness := (true, "8520673b036c7a54bd343cf4c49c92df48a8b345d680afd85a67bc6efc705937"), looks := false }, kinds := [], alts := [], laidByText := true, laidKinds := [.data, .pinned], laidTests := true, laidLooks := .later }
def FnExactHostOkCardSaid : Prop := Claim7.holds Tryd.pinned (.plain (OpenSpec.ofChange fnExactHostOkSpec)) fnExactHostOkCard

/-- THE TIED CARD OF 'laws.FnDomainIn'. -/
def fnDomainInCard : Claim7 := { stood := { row := fnDomainInRow, standIns := [], harness := (true, "8520673b036c7a54bd343cf4c49c92df48a8b345d680afd85a67bc6efc705937"), looks := false }, kinds := [], alts := [], laidByText := true, laidKinds := [.data, .pinned], laidTests := true, laidLooks := .later }
def FnDomainInCardSaid : Prop := Claim7.holds Tryd.pinned (.plain (OpenSpec.ofChange fnDomainInSpec)) fnDomainInCard

/-- THE TIED CARD OF 'laws.FnFormMore'. -/
def fnFormMoreCard : Claim7 := { stood := { row := fnFormMoreRow, standIns := [], harness := (true, "8520673b036c7a54bd343cf4c49c92df48a8b345d680afd85a67bc6efc705937"), looks := false }, kinds := [], alts := [], laidByText := true, laidKinds := [.data, .pinned], laidTests := true, laidLooks := .later }
def FnFormMoreCardSaid : Prop := Claim7.holds Tryd.pinned (.plain (OpenSpec.ofChange fnFormMoreSpec)) fnFormMoreCard

/-- THE TIED CARD OF 'laws.FnExactFormGet'. -/
def fnExactFormGetCard : Claim7 := { stood := { row := fnExactFormGetRow, standIns := [], harness := (true, "8520673b036c7a54bd343cf4c49c92df48a8b345d680afd85a67bc6efc705937"), looks := false }, kinds := [], alts := [], laidByText := true, laidKinds := [.data, .pinned], laidTests := true, laidLooks := .later }
def FnExactFormGetCardSaid : Prop := Claim7.holds Tryd.pinned (.plain (OpenSpec.ofChange fnExactFormGetSpec)) fnExactFormGetCard

/-- THE TIED CARD OF 'laws.FnForm'. -/
def fnFormCard : Claim7 := { stood := { row := fnFormRow, standIns := [], harness := (true, "8520673b036c7a54bd343cf4c49c92df48a8b345d680afd85a67bc6efc705937"), looks := false }, kinds := [], alts := [], laidByText := true, laidKinds := [.data, .pinned], laidTests := true, laidLooks := .later }
def FnFormCardSaid : Prop := Claim7.holds Tryd.pinned (.plain (OpenSpec.ofChange fnFormSpec)) fnFormCard

/-- THE SECOND FORM's CARD OF 'laws.FnEncodeParts'. -/
def fnEncodePartsUptoCard : Claim7 := { stood := { row := fnEncodePartsUptoRow, standIns := [], harness := (true, "8520673b036c7a54bd343cf4c49c92df48a8b345d680afd85a67bc6efc705937"), looks := false }, kinds := [], alts := [], laidByText := true, laidKinds := [.data], laidTests := true, laidLooks := .later }
def FnEncodePartsUptoCardSaid : Prop := Claim7.holds Tryd.pinned (.plain (OpenSpec.upto fnEncodePartsSpec)) fnEncodePartsUptoCard

/-- THE SECOND FORM's CARD OF 'laws.FnEncode'. -/
def fnEncodeUptoCard : Claim7 := { stood := { row := fnEncodeUptoRow, standIns := [], harness := (true, "8520673b036c7a54bd343cf4c49c92df48a8b345d680afd85a67bc6efc705937"), looks := false }, kinds := [], alts := [], laidByText := true, laidKinds := [.data], laidTests := true, laidLooks := .later }
def FnEncodeUptoCardSaid : Prop := Claim7.holds Tryd.pinned (.plain (OpenSpec.upto fnEncodeSpec)) fnEncodeUptoCard

/-- THE SECOND FORM's CARD OF 'laws.FnExactFourGet'. -/
def fnExactFourGetUptoCard : Claim7 := { stood := { row := fnExactFourGetUptoRow, standIns := [], harness := (true, "8520673b036c7a54bd343cf4c49c92df48a8b345d680afd85a67bc6efc705937"), looks := false }, kinds := [], alts := [], laidByText := true, laidKinds := [.data, .pinned], laidTests := true, laidLooks := .later }
def FnExactFourGetUptoCardSaid : Prop := Claim7.holds Tryd.pinned (.plain (OpenSpec.upto fnExactFourGetSpec)) fnExactFourGetUptoCard

/-- THE SECOND FORM's CARD OF 'laws.FnExactDomainIn'. -/
def fnExactDomainInUptoCard : Claim7 := { stood := { row := fnExactDomainInUptoRow, standIns := [], harness := (true, "8520673b036c7a54bd343cf4c49c92df48a8b345d680afd85a67bc6efc705937"), looks := false }, kinds := [], alts := [], laidByText := true, laidKinds := [.data, .pinned], laidTests := true, laidLooks := .later }
def FnExactDomainInUptoCardSaid : Prop := Claim7.holds Tryd.pinned (.plain (OpenSpec.upto fnExactDomainInSpec)) fnExactDomainInUptoCard

/-- THE SECOND FORM's CARD OF 'laws.FnExactHostOk'. -/
def fnExactHostOkUptoCard : Claim7 := { stood := { row := fnExactHostOkUptoRow, standIns := [], harness := (true, "8520673b036c7a54bd343cf4c49c92df48a8b345d680afd85a67bc6efc705937"), looks := false }, kinds := [], alts := [], laidByText := true, laidKinds := [.data, .pinned], laidTests := true, laidLooks := .later }
def FnExactHostOkUptoCardSaid : Prop := Claim7.holds Tryd.pinned (.plain (OpenSpec.upto fnExactHostOkSpec)) fnExactHostOkUptoCard

/-- THE SECOND FORM's CARD OF 'laws.FnDomainIn'. -/
def fnDomainInUptoCard : Claim7 := { stood := { row := fnDomainInUptoRow, standIns := [], harness := (true, "8520673b036c7a54bd343cf4c49c92df48a8b345d680afd85a67bc6efc705937"), looks := false }, kinds := [], alts := [], laidByText := true, laidKinds := [.data, .pinned], laidTests := true, laidLooks := .later }
def FnDomainInUptoCardSaid : Prop := Claim7.holds Tryd.pinned (.plain (OpenSpec.upto fnDomainInSpec)) fnDomainInUptoCard

/-- THE SECOND FORM's CARD OF 'laws.FnFormMore'. -/
def fnFormMoreUptoCard : Claim7 := { stood := { row := fnFormMoreUptoRow, standIns := [], harness := (true, "8520673b036c7a54bd343cf4c49c92df48a8b345d680afd85a67bc6efc705937"), looks := false }, kinds := [], alts := [], laidByText := true, laidKinds := [.data, .pinned], laidTests := true, laidLooks := .later }
def FnFormMoreUptoCardSaid : Prop := Claim7.holds Tryd.pinned (.plain (OpenSpec.upto fnFormMoreSpec)) fnFormMoreUptoCard

/-- THE SECOND FORM's CARD OF 'laws.FnExactFormGet'. -/
def fnExactFormGetUptoCard : Claim7 := { stood := { row := fnExactFormGetUptoRow, standIns := [], harness := (true, "8520673b036c7a54bd343cf4c49c92df48a8b345d680afd85a67bc6efc705937"), looks := false }, kinds := [], alts := [], laidByText := true, laidKinds := [.data, .pinned], laidTests := true, laidLooks := .later }
def FnExactFormGetUptoCardSaid : Prop := Claim7.holds Tryd.pinned (.plain (OpenSpec.upto fnExactFormGetSpec)) fnExactFormGetUptoCard

/-- THE SECOND FORM's CARD OF 'laws.FnForm'. -/
def fnFormUptoCard : Claim7 := { stood := { row := fnFormUptoRow, standIns := [], harness := (true, "8520673b036c7a54bd343cf4c49c92df48a8b345d680afd85a67bc6efc705937"), looks := false }, kinds := [], alts := [], laidByText := true, laidKinds := [.data, .pinned], laidTests := true, laidLooks := .later }
def FnFormUptoCardSaid : Prop := Claim7.holds Tryd.pinned (.plain (OpenSpec.upto fnFormSpec)) fnFormUptoCard
end Rows
end Go.Proofs.YtafdpgdllmhhmaaDoor
