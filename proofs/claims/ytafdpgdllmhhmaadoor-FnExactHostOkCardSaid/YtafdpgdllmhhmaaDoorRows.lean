/-
  NARROWER THAN 'FOR EVERY INPUT', by the rows' own cells (each row's printed sentence says how): FnEncodeParts: laid · FnEncode: laid · FnExactFourGet: laid · FnExactDomainIn: laid · FnExactHostOk: laid · FnDomainIn: laid · FnFormMore: laid · FnExactFormGet: laid · FnForm: laid.
  DERIVED. THE GIVEN ROWS OF THIS SEAT. 9 by the template 'for every input the law returns true; each argument reads behind the call as it read before'; 0 by the template 'total and deterministic' (their statements: YtafdpgdllmhhmaaDoorTotals.lean).
  GIVEN WITH THE SEED: the statements are not yours to turn. If you find one false, say at which input.
  Laid BY PROGRAM, IN A SANDBOX (cutbox-rows.mjs): the forced cells as the released guide's own fill.sh prints them over the translation 7ca5878d4443f12e… (all of the seat's roots in one cut). By AI agents, Wed Nov 11 2026. No macro, syntax, notation, axiom, sorry.
-/
import Derived.Test.YtafdpgdllmhhmaaDoorChecked
import GoSem.PinnedTables
import GoSem.Claim
import GoSem.ClaimJoined
import GoSem.ClaimMapViews
import Derived.JoinedTies
import Derived.KernelRfl
namespace Go.Proofs.YtafdpgdllmhhmaaDoor
/- THE CELL 'sum', in the pinned program and in every row, IS THE sha256 OF THE DUMP (.gsa) THAT YtafdpgdllmhhmaaDoorProg.lean LOADS. Nothing in Lean hashes anything: it is a label: what it is worth is what the hold of that sum in a sandbox is worth. -/
noncomputable def Tryd.pinned : Pinned := { name := "ytafdpgdllmhhmaadoor", sum := "7ca5878d4443f12e31108a0a7b1c350019b2b4b5bcbb93b4f47ebc6ed97ec03a", checked := Tryd.checked }
namespace Rows
def none {H : Type} : Left H := { results := [], args := [] }

/- WHAT THE LISTED PACKAGE-LEVEL VARIABLES READ AS WHEN THE CALL BEGINS. Each datum BY PROGRAM (the guide's laid-datum.mjs) off the statement by which the dump's own 'gosem.cut.vars' lays the variable. In a bare row this is a premise. The card (YtafdpgdllmhhmaaDoorCards.lean) ties it to the program's text. -/
def laid_loop_example_guilloche_impl_sets {H : Type} : DataW H := .slice [.lit (.string []), .lit (.string [32, 34, 35, 60, 62, 63, 123, 125, 96]), .lit (.string [32, 34, 35, 60, 62, 39]), .lit (.string [32, 34, 60, 62, 96]), .lit (.string [32, 34, 35, 60, 62, 63, 123, 125, 96, 47, 58, 59, 61, 64, 91, 92, 93, 94, 124]), .lit (.string [32])] []
def laid_unicode_utf8_acceptRanges {H : Type} : DataW H := .agg [.agg [.lit (.int .u8 128), .lit (.int .u8 191)], .agg [.lit (.int .u8 160), .lit (.int .u8 191)], .agg [.lit (.int .u8 128), .lit (.int .u8 159)], .agg [.lit (.int .u8 144), .lit (.int .u8 191)], .agg [.lit (.int .u8 128), .lit (.int .u8 143)], .agg [.lit (.int .u8 0), .lit (.int .u8 0)], .agg [.lit (.int .u8 0), .lit (.int .u8 0)], .agg [.lit (.int .u8 0), .lit (.int .u8 0)], .agg [.lit (.int .u8 0), .lit (.int .u8 0)], .agg [.lit (.int .u8 0), .lit (.int .u8 0)], .agg [.lit (.int .u8 0), .lit (.int .u8 0)], .agg [.lit (.int .u8 0), .lit (.int .u8 0)], .agg [.lit (.int .u8 0), .lit (.int .u8 0)], .agg [.lit (.int .u8 0), .lit (.int .u8 0)], .agg [.lit (.int .u8 0), .lit (.int .u8 0)], .agg [.lit (.int .u8 0), .lit (.int .u8 0)]]
/-- One of Go's own tables, pinned by name: the form's constant. -/
def laid_unicode_utf8_first : DataW Unit := Go.Pinned.utf8First

/-- 'laws.FnEncodeParts': WHATEVER THE INPUT: true; the input reads as it did. -/
def fnEncodePartsSpec : ChangeSpec := { name := "fnEncodeParts", vars := ["loop.example/guilloche/impl.sets"], fn := fun _ => fun
  | [d1, d2, g1] => { results := [.lit (.bool true)], args := [d1, d2], vars := [g1] }
  | _ => none }
def fnEncodePartsRow : OpenClaim := { program := "ytafdpgdllmhhmaadoor", sum := "7ca5878d4443f12e31108a0a7b1c350019b2b4b5bcbb93b4f47ebc6ed97ec03a", func := "loop.example/guilloche/laws.FnEncodeParts", spec := "fnEncodeParts", inPlace := ["internal/bytealg.IndexByteString", "internal/abi.NoEscape"], named := ["loop.example/guilloche/impl.sets"], apart := false, laid := [("loop.example/guilloche/impl.sets", laid_loop_example_guilloche_impl_sets)] }
def FnEncodePartsSaid : Prop := fnEncodePartsRow.holds Tryd.pinned (OpenSpec.ofChange fnEncodePartsSpec)

/-- ITS FALSE NEIGHBOUR: 'it returns false'. Refute it at one input. -/
def fnEncodePartsWrong : ChangeSpec := { name := "fnEncodeParts", vars := ["loop.example/guilloche/impl.sets"], fn := fun _ => fun
  | [d1, d2, g1] => { results := [.lit (.bool false)], args := [d1, d2], vars := [g1] }
  | _ => none }
def FnEncodePartsWrongFalsely : Prop := fnEncodePartsRow.holds Tryd.pinned (OpenSpec.ofChange fnEncodePartsWrong)

/-- 'laws.FnEncode': WHATEVER THE INPUT: true; the input reads as it did. -/
def fnEncodeSpec : ChangeSpec := { name := "fnEncode", vars := ["loop.example/guilloche/impl.sets"], fn := fun _ => fun
  | [d, g1] => { results := [.lit (.bool true)], args := [d], vars := [g1] }
  | _ => none }
def fnEncodeRow : OpenClaim := { program := "ytafdpgdllmhhmaadoor", sum := "7ca5878d4443f12e31108a0a7b1c350019b2b4b5bcbb93b4f47ebc6ed97ec03a", func := "loop.example/guilloche/laws.FnEncode", spec := "fnEncode", inPlace := ["internal/bytealg.IndexByteString", "internal/abi.NoEscape"], named := ["loop.example/guilloche/impl.sets"], apart := false, laid := [("loop.example/guilloche/impl.sets", laid_loop_example_guilloche_impl_sets)] }
def FnEncodeSaid : Prop := fnEncodeRow.holds Tryd.pinned (OpenSpec.ofChange fnEncodeSpec)

/-- ITS FALSE NEIGHBOUR: 'it returns false'. Refute it at one input. -/
def fnEncodeWrong : ChangeSpec := { name := "fnEncode", vars := ["loop.example/guilloche/impl.sets"], fn := fun _ => fun
  | [d, g1] => { results := [.lit (.bool false)], args := [d], vars := [g1] }
  | _ => none }
def FnEncodeWrongFalsely : Prop := fnEncodeRow.holds Tryd.pinned (OpenSpec.ofChange fnEncodeWrong)

/-- 'laws.FnExactFourGet': WHATEVER THE INPUT: true; the input reads as it did. -/
def fnExactFourGetSpec : ChangeSpec := { name := "fnExactFourGet", fn := fun _ => fun
  | [d] => { results := [.lit (.bool true)], args := [d] }
  | _ => none }
def fnExactFourGetRow : OpenClaim := { program := "ytafdpgdllmhhmaadoor", sum := "7ca5878d4443f12e31108a0a7b1c350019b2b4b5bcbb93b4f47ebc6ed97ec03a", func := "loop.example/guilloche/laws.FnExactFourGet", spec := "fnExactFourGet", inPlace := ["internal/bytealg.CountString", "internal/bytealg.IndexByteString", "internal/bytealg.IndexString"], named := ["unicode/utf8.first", "unicode/utf8.acceptRanges", "internal/bytealg.MaxLen"], apart := false, laid := [("unicode/utf8.acceptRanges", laid_unicode_utf8_acceptRanges), ("unicode/utf8.first", laid_unicode_utf8_first)] }
def FnExactFourGetSaid : Prop := fnExactFourGetRow.holds Tryd.pinned (OpenSpec.ofChange fnExactFourGetSpec)

/-- ITS FALSE NEIGHBOUR: 'it returns false'. Refute it at one input. -/
def fnExactFourGetWrong : ChangeSpec := { name := "fnExactFourGet", fn := fun _ => fun
  | [d] => { results := [.lit (.bool false)], args := [d] }
  | _ => none }
def FnExactFourGetWrongFalsely : Prop := fnExactFourGetRow.holds Tryd.pinned (OpenSpec.ofChange fnExactFourGetWrong)

/-- 'laws.FnExactDomainIn': WHATEVER THE INPUT: true; the input reads as it did. -/
def fnExactDomainInSpec : ChangeSpec := { name := "fnExactDomainIn", fn := fun _ => fun
  | [d1, d2] => { results := [.lit (.bool true)], args := [d1, d2] }
  | _ => none }
def fnExactDomainInRow : OpenClaim := { program := "ytafdpgdllmhhmaadoor", sum := "7ca5878d4443f12e31108a0a7b1c350019b2b4b5bcbb93b4f47ebc6ed97ec03a", func := "loop.example/guilloche/laws.FnExactDomainIn", spec := "fnExactDomainIn", inPlace := ["internal/bytealg.CountString", "internal/bytealg.IndexByteString", "internal/bytealg.IndexString"], named := ["unicode/utf8.first", "unicode/utf8.acceptRanges", "internal/bytealg.MaxLen"], apart := false, laid := [("unicode/utf8.acceptRanges", laid_unicode_utf8_acceptRanges), ("unicode/utf8.first", laid_unicode_utf8_first)] }
def FnExactDomainInSaid : Prop := fnExactDomainInRow.holds Tryd.pinned (OpenSpec.ofChange fnExactDomainInSpec)

/-- ITS FALSE NEIGHBOUR: 'it returns false'. Refute it at one input. -/
def fnExactDomainInWrong : ChangeSpec := { name := "fnExactDomainIn", fn := fun _ => fun
  | [d1, d2] => { results := [.lit (.bool false)], args := [d1, d2] }
  | _ => none }
def FnExactDomainInWrongFalsely : Prop := fnExactDomainInRow.holds Tryd.pinned (OpenSpec.ofChange fnExactDomainInWrong)

/-- 'laws.FnExactHostOk': WHATEVER THE INPUT: true; the input reads as it did. -/
def fnExactHostOkSpec : ChangeSpec := { name := "fnExactHostOk", fn := fun _ => fun
  | [d] => { results := [.lit (.bool true)], args := [d] }
  | _ => none }
def fnExactHostOkRow : OpenClaim := { program := "ytafdpgdllmhhmaadoor", sum := "7ca5878d4443f12e31108a0a7b1c350019b2b4b5bcbb93b4f47ebc6ed97ec03a", func := "loop.example/guilloche/laws.FnExactHostOk", spec := "fnExactHostOk", inPlace := ["internal/bytealg.CountString", "internal/bytealg.IndexByteString", "internal/bytealg.IndexString"], named := ["unicode/utf8.first", "unicode/utf8.acceptRanges", "internal/bytealg.MaxLen"], apart := false, laid := [("unicode/utf8.acceptRanges", laid_unicode_utf8_acceptRanges), ("unicode/utf8.first", laid_unicode_utf8_first)] }
def FnExactHostOkSaid : Prop := fnExactHostOkRow.holds Tryd.pinned (OpenSpec.ofChange fnExactHostOkSpec)

/-- ITS FALSE NEIGHBOUR: 'it returns false'. Refute it at one input. -/
def fnExactHostOkWrong : ChangeSpec := { name := "fnExactHostOk", fn := fun _ => fun
  | [d] => { results := [.lit (.bool false)], args := [d] }
  | _ => none }
def FnExactHostOkWrongFalsely : Prop := fnExactHostOkRow.holds Tryd.pinned (OpenSpec.ofChange fnExactHostOkWrong)

/-- 'laws.FnDomainIn': WHATEVER THE INPUT: true; the input reads as it did. -/
def fnDomainInSpec : ChangeSpec := { name := "fnDomainIn", fn := fun _ => fun
  | [d] => { results := [.lit (.bool true)], args := [d] }
  | _ => none }
def fnDomainInRow : OpenClaim := { program := "ytafdpgdllmhhmaadoor", sum := "7ca5878d4443f12e31108a0a7b1c350019b2b4b5bcbb93b4f47ebc6ed97ec03a", func := "loop.example/guilloche/laws.FnDomainIn", spec := "fnDomainIn", inPlace := ["internal/bytealg.CountString", "internal/bytealg.IndexByteString", "internal/bytealg.IndexString"], named := ["unicode/utf8.first", "unicode/utf8.acceptRanges", "internal/bytealg.MaxLen"], apart := false, laid := [("unicode/utf8.acceptRanges", laid_unicode_utf8_acceptRanges), ("unicode/utf8.first", laid_unicode_utf8_first)] }
def FnDomainInSaid : Prop := fnDomainInRow.holds Tryd.pinned (OpenSpec.ofChange fnDomainInSpec)

/-- ITS FALSE NEIGHBOUR: 'it returns false'. Refute it at one input. -/
def fnDomainInWrong : ChangeSpec := { name := "fnDomainIn", fn := fun _ => fun
  | [d] => { results := [.lit (.bool false)], args := [d] }
  | _ => none }
def FnDomainInWrongFalsely : Prop := fnDomainInRow.holds Tryd.pinned (OpenSpec.ofChange fnDomainInWrong)

/-- 'laws.FnFormMore': WHATEVER THE INPUT: true; the input reads as it did. -/
def fnFormMoreSpec : ChangeSpec := { name := "fnFormMore", fn := fun _ => fun
  | [d1, d2] => { results := [.lit (.bool true)], args := [d1, d2] }
  | _ => none }
def fnFormMoreRow : OpenClaim := { program := "ytafdpgdllmhhmaadoor", sum := "7ca5878d4443f12e31108a0a7b1c350019b2b4b5bcbb93b4f47ebc6ed97ec03a", func := "loop.example/guilloche/laws.FnFormMore", spec := "fnFormMore", inPlace := ["internal/bytealg.CountString", "internal/bytealg.IndexByteString", "internal/bytealg.IndexString", "internal/abi.NoEscape", "internal/bytealg.MakeNoZero"], named := ["unicode/utf8.first", "unicode/utf8.acceptRanges", "internal/bytealg.MaxLen"], apart := false, laid := [("unicode/utf8.acceptRanges", laid_unicode_utf8_acceptRanges), ("unicode/utf8.first", laid_unicode_utf8_first)] }
def FnFormMoreSaid : Prop := fnFormMoreRow.holds Tryd.pinned (OpenSpec.ofChange fnFormMoreSpec)

/-- ITS FALSE NEIGHBOUR: 'it returns false'. Refute it at one input. -/
def fnFormMoreWrong : ChangeSpec := { name := "fnFormMore", fn := fun _ => fun
  | [d1, d2] => { results := [.lit (.bool false)], args := [d1, d2] }
  | _ => none }
def FnFormMoreWrongFalsely : Prop := fnFormMoreRow.holds Tryd.pinned (OpenSpec.ofChange fnFormMoreWrong)

/-- 'laws.FnExactFormGet': WHATEVER THE INPUT: true; the input reads as it did. -/
def fnExactFormGetSpec : ChangeSpec := { name := "fnExactFormGet", fn := fun _ => fun
  | [d] => { results := [.lit (.bool true)], args := [d] }
  | _ => none }
def fnExactFormGetRow : OpenClaim := { program := "ytafdpgdllmhhmaadoor", sum := "7ca5878d4443f12e31108a0a7b1c350019b2b4b5bcbb93b4f47ebc6ed97ec03a", func := "loop.example/guilloche/laws.FnExactFormGet", spec := "fnExactFormGet", inPlace := ["internal/bytealg.CountString", "internal/bytealg.IndexByteString", "internal/bytealg.IndexString", "internal/abi.NoEscape", "internal/bytealg.MakeNoZero"], named := ["unicode/utf8.first", "unicode/utf8.acceptRanges", "internal/bytealg.MaxLen"], apart := false, laid := [("unicode/utf8.acceptRanges", laid_unicode_utf8_acceptRanges), ("unicode/utf8.first", laid_unicode_utf8_first)] }
def FnExactFormGetSaid : Prop := fnExactFormGetRow.holds Tryd.pinned (OpenSpec.ofChange fnExactFormGetSpec)

/-- ITS FALSE NEIGHBOUR: 'it returns false'. Refute it at one input. -/
def fnExactFormGetWrong : ChangeSpec := { name := "fnExactFormGet", fn := fun _ => fun
  | [d] => { results := [.lit (.bool false)], args := [d] }
  | _ => none }
def FnExactFormGetWrongFalsely : Prop := fnExactFormGetRow.holds Tryd.pinned (OpenSpec.ofChange fnExactFormGetWrong)

/-- 'laws.FnForm': WHATEVER THE INPUT: true; the input reads as it did. -/
def fnFormSpec : ChangeSpec := { name := "fnForm", fn := fun _ => fun
  | [d1, d2] => { results := [.lit (.bool true)], args := [d1, d2] }
  | _ => none }
def fnFormRow : OpenClaim := { program := "ytafdpgdllmhhmaadoor", sum := "7ca5878d4443f12e31108a0a7b1c350019b2b4b5bcbb93b4f47ebc6ed97ec03a", func := "loop.example/guilloche/laws.FnForm", spec := "fnForm", inPlace := ["internal/bytealg.IndexByteString", "internal/abi.NoEscape", "internal/bytealg.MakeNoZero", "internal/bytealg.CountString", "internal/bytealg.IndexString"], named := ["unicode/utf8.first", "unicode/utf8.acceptRanges", "internal/bytealg.MaxLen"], apart := false, laid := [("unicode/utf8.acceptRanges", laid_unicode_utf8_acceptRanges), ("unicode/utf8.first", laid_unicode_utf8_first)] }
def FnFormSaid : Prop := fnFormRow.holds Tryd.pinned (OpenSpec.ofChange fnFormSpec)

/-- ITS FALSE NEIGHBOUR: 'it returns false'. Refute it at one input. -/
def fnFormWrong : ChangeSpec := { name := "fnForm", fn := fun _ => fun
  | [d1, d2] => { results := [.lit (.bool false)], args := [d1, d2] }
  | _ => none }
def FnFormWrongFalsely : Prop := fnFormRow.holds Tryd.pinned (OpenSpec.ofChange fnFormWrong)

/- THE SECOND FORM. 'bulk': how many values and letters a reading holds, each counted each time it is reached (what is shared counts as often as it is met; a slice's spare places count too). A statement '..UptoSaid' is the law's where the arguments, and the package variables that the reading takes, are together of bulk at most 1048576: NARROWER than '..Said'. Prove '..Said' where nothing that the law and all that it calls make is longer than what came in: it says more and counts as full. Else prove '..UptoSaid'. A law counts once. -/
mutual
def uptoBulk {H : Type} : DataW H → Nat
  | .lit (.string bytes) => bytes.length + 1
  | .lit _ => 1
  | .nil => 1
  | .ptr d => uptoBulk d + 1
  | .slice elems spare => uptoBulkAll elems + uptoBulkAll spare + 1
  | .agg parts => uptoBulkAll parts + 1
  | .iface _ d => uptoBulk d + 1
  | .map entries => uptoBulkEntries entries + 1
  | .held _ => 1
def uptoBulkAll {H : Type} : List (DataW H) → Nat
  | [] => 0
  | d :: r => uptoBulk d + uptoBulkAll r
def uptoBulkEntries {H : Type} : List (Lit × DataW H) → Nat
  | [] => 0
  | x :: r => uptoBulkEntry x + uptoBulkEntries r
def uptoBulkEntry {H : Type} : Lit × DataW H → Nat
  | (.string bytes, d) => bytes.length + uptoBulk d + 1
  | (_, d) => uptoBulk d + 1
 end
def uptoSmall : (H : Type) → List (DataW H) → Bool := fun _ ds => decide (uptoBulkAll ds ≤ 1048576)
def OpenSpec.upto (s : _root_.Go.ChangeSpec) : _root_.Go.OpenSpec := { _root_.Go.OpenSpec.ofChange s with cond := some uptoSmall }

/-- 'laws.FnEncodeParts', WHERE WHAT IT READS IS OF BULK AT MOST 1048576: true; the input reads as it did. -/
def fnEncodePartsUptoRow : OpenClaim := { program := "ytafdpgdllmhhmaadoor", sum := "7ca5878d4443f12e31108a0a7b1c350019b2b4b5bcbb93b4f47ebc6ed97ec03a", func := "loop.example/guilloche/laws.FnEncodeParts", spec := "fnEncodeParts", inPlace := ["internal/bytealg.IndexByteString", "internal/abi.NoEscape"], named := ["loop.example/guilloche/impl.sets"], apart := false, laid := [("loop.example/guilloche/impl.sets", laid_loop_example_guilloche_impl_sets)], narrowed := true }
def FnEncodePartsUptoSaid : Prop := fnEncodePartsUptoRow.holds Tryd.pinned (OpenSpec.upto fnEncodePartsSpec)

/-- 'laws.FnEncode', WHERE WHAT IT READS IS OF BULK AT MOST 1048576: true; the input reads as it did. -/
def fnEncodeUptoRow : OpenClaim := { program := "ytafdpgdllmhhmaadoor", sum := "7ca5878d4443f12e31108a0a7b1c350019b2b4b5bcbb93b4f47ebc6ed97ec03a", func := "loop.example/guilloche/laws.FnEncode", spec := "fnEncode", inPlace := ["internal/bytealg.IndexByteString", "internal/abi.NoEscape"], named := ["loop.example/guilloche/impl.sets"], apart := false, laid := [("loop.example/guilloche/impl.sets", laid_loop_example_guilloche_impl_sets)], narrowed := true }
def FnEncodeUptoSaid : Prop := fnEncodeUptoRow.holds Tryd.pinned (OpenSpec.upto fnEncodeSpec)

/-- 'laws.FnExactFourGet', WHERE WHAT IT READS IS OF BULK AT MOST 1048576: true; the input reads as it did. -/
def fnExactFourGetUptoRow : OpenClaim := { program := "ytafdpgdllmhhmaadoor", sum := "7ca5878d4443f12e31108a0a7b1c350019b2b4b5bcbb93b4f47ebc6ed97ec03a", func := "loop.example/guilloche/laws.FnExactFourGet", spec := "fnExactFourGet", inPlace := ["internal/bytealg.CountString", "internal/bytealg.IndexByteString", "internal/bytealg.IndexString"], named := ["unicode/utf8.first", "unicode/utf8.acceptRanges", "internal/bytealg.MaxLen"], apart := false, laid := [("unicode/utf8.acceptRanges", laid_unicode_utf8_acceptRanges), ("unicode/utf8.first", laid_unicode_utf8_first)], narrowed := true }
def FnExactFourGetUptoSaid : Prop := fnExactFourGetUptoRow.holds Tryd.pinned (OpenSpec.upto fnExactFourGetSpec)

/-- 'laws.FnExactDomainIn', WHERE WHAT IT READS IS OF BULK AT MOST 1048576: true; the input reads as it did. -/
def fnExactDomainInUptoRow : OpenClaim := { program := "ytafdpgdllmhhmaadoor", sum := "7ca5878d4443f12e31108a0a7b1c350019b2b4b5bcbb93b4f47ebc6ed97ec03a", func := "loop.example/guilloche/laws.FnExactDomainIn", spec := "fnExactDomainIn", inPlace := ["internal/bytealg.CountString", "internal/bytealg.IndexByteString", "internal/bytealg.IndexString"], named := ["unicode/utf8.first", "unicode/utf8.acceptRanges", "internal/bytealg.MaxLen"], apart := false, laid := [("unicode/utf8.acceptRanges", laid_unicode_utf8_acceptRanges), ("unicode/utf8.first", laid_unicode_utf8_first)], narrowed := true }
def FnExactDomainInUptoSaid : Prop := fnExactDomainInUptoRow.holds Tryd.pinned (OpenSpec.upto fnExactDomainInSpec)

/-- 'laws.FnExactHostOk', WHERE WHAT IT READS IS OF BULK AT MOST 1048576: true; the input reads as it did. -/
def fnExactHostOkUptoRow : OpenClaim := { program := "ytafdpgdllmhhmaadoor", sum := "7ca5878d4443f12e31108a0a7b1c350019b2b4b5bcbb93b4f47ebc6ed97ec03a", func := "loop.example/guilloche/laws.FnExactHostOk", spec := "fnExactHostOk", inPlace := ["internal/bytealg.CountString", "internal/bytealg.IndexByteString", "internal/bytealg.IndexString"], named := ["unicode/utf8.first", "unicode/utf8.acceptRanges", "internal/bytealg.MaxLen"], apart := false, laid := [("unicode/utf8.acceptRanges", laid_unicode_utf8_acceptRanges), ("unicode/utf8.first", laid_unicode_utf8_first)], narrowed := true }
def FnExactHostOkUptoSaid : Prop := fnExactHostOkUptoRow.holds Tryd.pinned (OpenSpec.upto fnExactHostOkSpec)

/-- 'laws.FnDomainIn', WHERE WHAT IT READS IS OF BULK AT MOST 1048576: true; the input reads as it did. -/
def fnDomainInUptoRow : OpenClaim := { program := "ytafdpgdllmhhmaadoor", sum := "7ca5878d4443f12e31108a0a7b1c350019b2b4b5bcbb93b4f47ebc6ed97ec03a", func := "loop.example/guilloche/laws.FnDomainIn", spec := "fnDomainIn", inPlace := ["internal/bytealg.CountString", "internal/bytealg.IndexByteString", "internal/bytealg.IndexString"], named := ["unicode/utf8.first", "unicode/utf8.acceptRanges", "internal/bytealg.MaxLen"], apart := false, laid := [("unicode/utf8.acceptRanges", laid_unicode_utf8_acceptRanges), ("unicode/utf8.first", laid_unicode_utf8_first)], narrowed := true }
def FnDomainInUptoSaid : Prop := fnDomainInUptoRow.holds Tryd.pinned (OpenSpec.upto fnDomainInSpec)

/-- 'laws.FnFormMore', WHERE WHAT IT READS IS OF BULK AT MOST 1048576: true; the input reads as it did. -/
def fnFormMoreUptoRow : OpenClaim := { program := "ytafdpgdllmhhmaadoor", sum := "7ca5878d4443f12e31108a0a7b1c350019b2b4b5bcbb93b4f47ebc6ed97ec03a", func := "loop.example/guilloche/laws.FnFormMore", spec := "fnFormMore", inPlace := ["internal/bytealg.CountString", "internal/bytealg.IndexByteString", "internal/bytealg.IndexString", "internal/abi.NoEscape", "internal/bytealg.MakeNoZero"], named := ["unicode/utf8.first", "unicode/utf8.acceptRanges", "internal/bytealg.MaxLen"], apart := false, laid := [("unicode/utf8.acceptRanges", laid_unicode_utf8_acceptRanges), ("unicode/utf8.first", laid_unicode_utf8_first)], narrowed := true }
def FnFormMoreUptoSaid : Prop := fnFormMoreUptoRow.holds Tryd.pinned (OpenSpec.upto fnFormMoreSpec)

/-- 'laws.FnExactFormGet', WHERE WHAT IT READS IS OF BULK AT MOST 1048576: true; the input reads as it did. -/
def fnExactFormGetUptoRow : OpenClaim := { program := "ytafdpgdllmhhmaadoor", sum := "7ca5878d4443f12e31108a0a7b1c350019b2b4b5bcbb93b4f47ebc6ed97ec03a", func := "loop.example/guilloche/laws.FnExactFormGet", spec := "fnExactFormGet", inPlace := ["internal/bytealg.CountString", "internal/bytealg.IndexByteString", "internal/bytealg.IndexString", "internal/abi.NoEscape", "internal/bytealg.MakeNoZero"], named := ["unicode/utf8.first", "unicode/utf8.acceptRanges", "internal/bytealg.MaxLen"], apart := false, laid := [("unicode/utf8.acceptRanges", laid_unicode_utf8_acceptRanges), ("unicode/utf8.first", laid_unicode_utf8_first)], narrowed := true }
def FnExactFormGetUptoSaid : Prop := fnExactFormGetUptoRow.holds Tryd.pinned (OpenSpec.upto fnExactFormGetSpec)

/-- 'laws.FnForm', WHERE WHAT IT READS IS OF BULK AT MOST 1048576: true; the input reads as it did. -/
def fnFormUptoRow : OpenClaim := { program := "ytafdpgdllmhhmaadoor", sum := "7ca5878d4443f12e31108a0a7b1c350019b2b4b5bcbb93b4f47ebc6ed97ec03a", func := "loop.example/guilloche/laws.FnForm", spec := "fnForm", inPlace := ["internal/bytealg.IndexByteString", "internal/abi.NoEscape", "internal/bytealg.MakeNoZero", "internal/bytealg.CountString", "internal/bytealg.IndexString"], named := ["unicode/utf8.first", "unicode/utf8.acceptRanges", "internal/bytealg.MaxLen"], apart := false, laid := [("unicode/utf8.acceptRanges", laid_unicode_utf8_acceptRanges), ("unicode/utf8.first", laid_unicode_utf8_first)], narrowed := true }
def FnFormUptoSaid : Prop := fnFormUptoRow.holds Tryd.pinned (OpenSpec.upto fnFormSpec)

end Rows
end Go.Proofs.YtafdpgdllmhhmaaDoor
