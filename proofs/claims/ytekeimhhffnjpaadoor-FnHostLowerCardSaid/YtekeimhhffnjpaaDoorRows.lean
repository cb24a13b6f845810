/-
  NARROWER THAN 'FOR EVERY INPUT', by the rows' own cells (each row's printed sentence says how): FnEncode: laid · FnEncodeParts: laid · FnFormMore: laid · FnExactFormGet: laid · FnForm: laid · FnExactPathGet: laid · FnPathBack: laid · FnPathJoin: laid · FnPath: laid · FnHostLower: laid · FnExactHostPut: laid · FnExactHostSite: laid.
  DERIVED. THE GIVEN ROWS OF THIS SEAT. 12 by the template 'for every input the law returns true; each argument reads behind the call as it read before'; 0 by the template 'total and deterministic' (their statements: YtekeimhhffnjpaaDoorTotals.lean).
  GIVEN WITH THE SEED: the statements are not yours to turn. If you find one false, say at which input.
  Laid BY PROGRAM, IN A SANDBOX (cutbox-rows.mjs): the forced cells as the released guide's own fill.sh prints them over the translation 575c160b1c663382… (all of the seat's roots in one cut). By AI agents, Wed Nov 11 2026. No macro, syntax, notation, axiom, sorry.
-/
import Derived.Test.YtekeimhhffnjpaaDoorChecked
import GoSem.PinnedTables
import GoSem.Claim
import GoSem.ClaimJoined
import GoSem.ClaimMapViews
import Derived.JoinedTies
import Derived.KernelRfl
namespace Go.Proofs.YtekeimhhffnjpaaDoor
/- THE CELL 'sum', in the pinned program and in every row, IS THE sha256 OF THE DUMP (.gsa) THAT YtekeimhhffnjpaaDoorProg.lean LOADS. Nothing in Lean hashes anything: it is a label: what it is worth is what the hold of that sum in a sandbox is worth. -/
noncomputable def Tryd.pinned : Pinned := { name := "ytekeimhhffnjpaadoor", sum := "575c160b1c663382107862b2b92f96ca02855be53ef0f64c1a54dbdb87042fd4", checked := Tryd.checked }
namespace Rows
def none {H : Type} : Left H := { results := [], args := [] }

/- WHAT THE LISTED PACKAGE-LEVEL VARIABLES READ AS WHEN THE CALL BEGINS. Each datum BY PROGRAM (the guide's laid-datum.mjs) off the statement by which the dump's own 'gosem.cut.vars' lays the variable. In a bare row this is a premise. The card (YtekeimhhffnjpaaDoorCards.lean) ties it to the program's text. -/
def laid_loop_example_guilloche_impl_sets {H : Type} : DataW H := .slice [.lit (.string []), .lit (.string [32, 34, 35, 60, 62, 63, 123, 125, 96]), .lit (.string [32, 34, 35, 60, 62, 39]), .lit (.string [32, 34, 60, 62, 96]), .lit (.string [32, 34, 35, 60, 62, 63, 123, 125, 96, 47, 58, 59, 61, 64, 91, 92, 93, 94, 124]), .lit (.string [32])] []
def laid_unicode_utf8_acceptRanges {H : Type} : DataW H := .agg [.agg [.lit (.int .u8 128), .lit (.int .u8 191)], .agg [.lit (.int .u8 160), .lit (.int .u8 191)], .agg [.lit (.int .u8 128), .lit (.int .u8 159)], .agg [.lit (.int .u8 144), .lit (.int .u8 191)], .agg [.lit (.int .u8 128), .lit (.int .u8 143)], .agg [.lit (.int .u8 0), .lit (.int .u8 0)], .agg [.lit (.int .u8 0), .lit (.int .u8 0)], .agg [.lit (.int .u8 0), .lit (.int .u8 0)], .agg [.lit (.int .u8 0), .lit (.int .u8 0)], .agg [.lit (.int .u8 0), .lit (.int .u8 0)], .agg [.lit (.int .u8 0), .lit (.int .u8 0)], .agg [.lit (.int .u8 0), .lit (.int .u8 0)], .agg [.lit (.int .u8 0), .lit (.int .u8 0)], .agg [.lit (.int .u8 0), .lit (.int .u8 0)], .agg [.lit (.int .u8 0), .lit (.int .u8 0)], .agg [.lit (.int .u8 0), .lit (.int .u8 0)]]
/-- One of Go's own tables, pinned by name: the form's constant. -/
def laid_unicode_utf8_first : DataW Unit := Go.Pinned.utf8First
def laid_math_bits_deBruijn32tab {H : Type} : DataW H := .agg [.lit (.int .u8 0), .lit (.int .u8 1), .lit (.int .u8 28), .lit (.int .u8 2), .lit (.int .u8 29), .lit (.int .u8 14), .lit (.int .u8 24), .lit (.int .u8 3), .lit (.int .u8 30), .lit (.int .u8 22), .lit (.int .u8 20), .lit (.int .u8 15), .lit (.int .u8 25), .lit (.int .u8 17), .lit (.int .u8 4), .lit (.int .u8 8), .lit (.int .u8 31), .lit (.int .u8 27), .lit (.int .u8 13), .lit (.int .u8 23), .lit (.int .u8 21), .lit (.int .u8 19), .lit (.int .u8 16), .lit (.int .u8 7), .lit (.int .u8 26), .lit (.int .u8 12), .lit (.int .u8 18), .lit (.int .u8 6), .lit (.int .u8 11), .lit (.int .u8 5), .lit (.int .u8 10), .lit (.int .u8 9)]
def laid_math_bits_deBruijn64tab {H : Type} : DataW H := .agg [.lit (.int .u8 0), .lit (.int .u8 1), .lit (.int .u8 56), .lit (.int .u8 2), .lit (.int .u8 57), .lit (.int .u8 49), .lit (.int .u8 28), .lit (.int .u8 3), .lit (.int .u8 61), .lit (.int .u8 58), .lit (.int .u8 42), .lit (.int .u8 50), .lit (.int .u8 38), .lit (.int .u8 29), .lit (.int .u8 17), .lit (.int .u8 4), .lit (.int .u8 62), .lit (.int .u8 47), .lit (.int .u8 59), .lit (.int .u8 36), .lit (.int .u8 45), .lit (.int .u8 43), .lit (.int .u8 51), .lit (.int .u8 22), .lit (.int .u8 53), .lit (.int .u8 39), .lit (.int .u8 33), .lit (.int .u8 30), .lit (.int .u8 24), .lit (.int .u8 18), .lit (.int .u8 12), .lit (.int .u8 5), .lit (.int .u8 63), .lit (.int .u8 55), .lit (.int .u8 48), .lit (.int .u8 27), .lit (.int .u8 60), .lit (.int .u8 41), .lit (.int .u8 37), .lit (.int .u8 16), .lit (.int .u8 46), .lit (.int .u8 35), .lit (.int .u8 44), .lit (.int .u8 21), .lit (.int .u8 52), .lit (.int .u8 32), .lit (.int .u8 23), .lit (.int .u8 11), .lit (.int .u8 54), .lit (.int .u8 26), .lit (.int .u8 40), .lit (.int .u8 15), .lit (.int .u8 34), .lit (.int .u8 20), .lit (.int .u8 31), .lit (.int .u8 10), .lit (.int .u8 25), .lit (.int .u8 14), .lit (.int .u8 19), .lit (.int .u8 9), .lit (.int .u8 13), .lit (.int .u8 8), .lit (.int .u8 7), .lit (.int .u8 6)]
def laid_internal_strconv_uint64pow10 {H : Type} : DataW H := .agg [.lit (.int .u64 1), .lit (.int .u64 10), .lit (.int .u64 100), .lit (.int .u64 1000), .lit (.int .u64 10000), .lit (.int .u64 100000), .lit (.int .u64 1000000), .lit (.int .u64 10000000), .lit (.int .u64 100000000), .lit (.int .u64 1000000000), .lit (.int .u64 10000000000), .lit (.int .u64 100000000000), .lit (.int .u64 1000000000000), .lit (.int .u64 10000000000000), .lit (.int .u64 100000000000000), .lit (.int .u64 1000000000000000), .lit (.int .u64 10000000000000000), .lit (.int .u64 100000000000000000), .lit (.int .u64 1000000000000000000), .lit (.int .u64 10000000000000000000)]

/-- 'laws.FnEncode': WHATEVER THE INPUT: true; the input reads as it did. -/
def fnEncodeSpec : ChangeSpec := { name := "fnEncode", vars := ["loop.example/guilloche/impl.sets"], fn := fun _ => fun
  | [d, g1] => { results := [.lit (.bool true)], args := [d], vars := [g1] }
  | _ => none }
def fnEncodeRow : OpenClaim := { program := "ytekeimhhffnjpaadoor", sum := "575c160b1c663382107862b2b92f96ca02855be53ef0f64c1a54dbdb87042fd4", func := "loop.example/guilloche/laws.FnEncode", spec := "fnEncode", inPlace := ["internal/bytealg.IndexByteString", "internal/abi.NoEscape"], named := ["loop.example/guilloche/impl.sets"], apart := false, laid := [("loop.example/guilloche/impl.sets", laid_loop_example_guilloche_impl_sets)] }
def FnEncodeSaid : Prop := fnEncodeRow.holds Tryd.pinned (OpenSpec.ofChange fnEncodeSpec)

/-- ITS FALSE NEIGHBOUR: 'it returns false'. Refute it at one input. -/
def fnEncodeWrong : ChangeSpec := { name := "fnEncode", vars := ["loop.example/guilloche/impl.sets"], fn := fun _ => fun
  | [d, g1] => { results := [.lit (.bool false)], args := [d], vars := [g1] }
  | _ => none }
def FnEncodeWrongFalsely : Prop := fnEncodeRow.holds Tryd.pinned (OpenSpec.ofChange fnEncodeWrong)

/-- 'laws.FnEncodeParts': WHATEVER THE INPUT: true; the input reads as it did. -/
def fnEncodePartsSpec : ChangeSpec := { name := "fnEncodeParts", vars := ["loop.example/guilloche/impl.sets"], fn := fun _ => fun
  | [d1, d2, g1] => { results := [.lit (.bool true)], args := [d1, d2], vars := [g1] }
  | _ => none }
def fnEncodePartsRow : OpenClaim := { program := "ytekeimhhffnjpaadoor", sum := "575c160b1c663382107862b2b92f96ca02855be53ef0f64c1a54dbdb87042fd4", func := "loop.example/guilloche/laws.FnEncodeParts", spec := "fnEncodeParts", inPlace := ["internal/bytealg.IndexByteString", "internal/abi.NoEscape"], named := ["loop.example/guilloche/impl.sets"], apart := false, laid := [("loop.example/guilloche/impl.sets", laid_loop_example_guilloche_impl_sets)] }
def FnEncodePartsSaid : Prop := fnEncodePartsRow.holds Tryd.pinned (OpenSpec.ofChange fnEncodePartsSpec)

/-- ITS FALSE NEIGHBOUR: 'it returns false'. Refute it at one input. -/
def fnEncodePartsWrong : ChangeSpec := { name := "fnEncodeParts", vars := ["loop.example/guilloche/impl.sets"], fn := fun _ => fun
  | [d1, d2, g1] => { results := [.lit (.bool false)], args := [d1, d2], vars := [g1] }
  | _ => none }
def FnEncodePartsWrongFalsely : Prop := fnEncodePartsRow.holds Tryd.pinned (OpenSpec.ofChange fnEncodePartsWrong)

/-- 'laws.FnFormMore': WHATEVER THE INPUT: true; the input reads as it did. -/
def fnFormMoreSpec : ChangeSpec := { name := "fnFormMore", fn := fun _ => fun
  | [d1, d2] => { results := [.lit (.bool true)], args := [d1, d2] }
  | _ => none }
def fnFormMoreRow : OpenClaim := { program := "ytekeimhhffnjpaadoor", sum := "575c160b1c663382107862b2b92f96ca02855be53ef0f64c1a54dbdb87042fd4", func := "loop.example/guilloche/laws.FnFormMore", spec := "fnFormMore", inPlace := ["internal/bytealg.CountString", "internal/bytealg.IndexByteString", "internal/bytealg.IndexString", "internal/abi.NoEscape", "internal/bytealg.MakeNoZero"], named := ["unicode/utf8.first", "unicode/utf8.acceptRanges", "internal/bytealg.MaxLen"], apart := false, laid := [("unicode/utf8.acceptRanges", laid_unicode_utf8_acceptRanges), ("unicode/utf8.first", laid_unicode_utf8_first)] }
def FnFormMoreSaid : Prop := fnFormMoreRow.holds Tryd.pinned (OpenSpec.ofChange fnFormMoreSpec)

/-- ITS FALSE NEIGHBOUR: 'it returns false'. Refute it at one input. -/
def fnFormMoreWrong : ChangeSpec := { name := "fnFormMore", fn := fun _ => fun
  | [d1, d2] => { results := [.lit (.bool false)], args := [d1, d2] }
  | _ => none }
def FnFormMoreWrongFalsely : Prop := fnFormMoreRow.holds Tryd.pinned (OpenSpec.ofChange fnFormMoreWrong)

/-- 'laws.FnExactFormGet': WHATEVER THE INPUT: true; the input reads as it did. -/
def fnExactFormGetSpec : ChangeSpec := { name := "fnExactFormGet", fn := fun _ => fun
  | [d] => { results := [.lit (.bool true)], args := [d] }
  | _ => none }
def fnExactFormGetRow : OpenClaim := { program := "ytekeimhhffnjpaadoor", sum := "575c160b1c663382107862b2b92f96ca02855be53ef0f64c1a54dbdb87042fd4", func := "loop.example/guilloche/laws.FnExactFormGet", spec := "fnExactFormGet", inPlace := ["internal/bytealg.CountString", "internal/bytealg.IndexByteString", "internal/bytealg.IndexString", "internal/abi.NoEscape", "internal/bytealg.MakeNoZero"], named := ["unicode/utf8.first", "unicode/utf8.acceptRanges", "internal/bytealg.MaxLen"], apart := false, laid := [("unicode/utf8.acceptRanges", laid_unicode_utf8_acceptRanges), ("unicode/utf8.first", laid_unicode_utf8_first)] }
def FnExactFormGetSaid : Prop := fnExactFormGetRow.holds Tryd.pinned (OpenSpec.ofChange fnExactFormGetSpec)

/-- ITS FALSE NEIGHBOUR: 'it returns false'. Refute it at one input. -/
def fnExactFormGetWrong : ChangeSpec := { name := "fnExactFormGet", fn := fun _ => fun
  | [d] => { results := [.lit (.bool false)], args := [d] }
  | _ => none }
def FnExactFormGetWrongFalsely : Prop := fnExactFormGetRow.holds Tryd.pinned (OpenSpec.ofChange fnExactFormGetWrong)

/-- 'laws.FnForm': WHATEVER THE INPUT: true; the input reads as it did. -/
def fnFormSpec : ChangeSpec := { name := "fnForm", fn := fun _ => fun
  | [d1, d2] => { results := [.lit (.bool true)], args := [d1, d2] }
  | _ => none }
def fnFormRow : OpenClaim := { program := "ytekeimhhffnjpaadoor", sum := "575c160b1c663382107862b2b92f96ca02855be53ef0f64c1a54dbdb87042fd4", func := "loop.example/guilloche/laws.FnForm", spec := "fnForm", inPlace := ["internal/bytealg.IndexByteString", "internal/abi.NoEscape", "internal/bytealg.MakeNoZero", "internal/bytealg.CountString", "internal/bytealg.IndexString"], named := ["unicode/utf8.first", "unicode/utf8.acceptRanges", "internal/bytealg.MaxLen"], apart := false, laid := [("unicode/utf8.acceptRanges", laid_unicode_utf8_acceptRanges), ("unicode/utf8.first", laid_unicode_utf8_first)] }
def FnFormSaid : Prop := fnFormRow.holds Tryd.pinned (OpenSpec.ofChange fnFormSpec)

/-- ITS FALSE NEIGHBOUR: 'it returns false'. Refute it at one input. -/
def fnFormWrong : ChangeSpec := { name := "fnForm", fn := fun _ => fun
  | [d1, d2] => { results := [.lit (.bool false)], args := [d1, d2] }
  | _ => none }
def FnFormWrongFalsely : Prop := fnFormRow.holds Tryd.pinned (OpenSpec.ofChange fnFormWrong)

/-- 'laws.FnExactPathGet': WHATEVER THE INPUT: true; the input reads as it did. -/
def fnExactPathGetSpec : ChangeSpec := { name := "fnExactPathGet", vars := ["loop.example/guilloche/impl.sets"], fn := fun _ => fun
  | [d, g1] => { results := [.lit (.bool true)], args := [d], vars := [g1] }
  | _ => none }
def fnExactPathGetRow : OpenClaim := { program := "ytekeimhhffnjpaadoor", sum := "575c160b1c663382107862b2b92f96ca02855be53ef0f64c1a54dbdb87042fd4", func := "loop.example/guilloche/laws.FnExactPathGet", spec := "fnExactPathGet", inPlace := ["internal/bytealg.CountString", "internal/bytealg.IndexByteString", "internal/bytealg.IndexString", "internal/abi.NoEscape", "internal/bytealg.MakeNoZero"], named := ["internal/bytealg.MaxLen", "unicode/utf8.first", "unicode/utf8.acceptRanges", "loop.example/guilloche/impl.sets"], apart := false, laid := [("unicode/utf8.acceptRanges", laid_unicode_utf8_acceptRanges), ("loop.example/guilloche/impl.sets", laid_loop_example_guilloche_impl_sets), ("unicode/utf8.first", laid_unicode_utf8_first)] }
def FnExactPathGetSaid : Prop := fnExactPathGetRow.holds Tryd.pinned (OpenSpec.ofChange fnExactPathGetSpec)

/-- ITS FALSE NEIGHBOUR: 'it returns false'. Refute it at one input. -/
def fnExactPathGetWrong : ChangeSpec := { name := "fnExactPathGet", vars := ["loop.example/guilloche/impl.sets"], fn := fun _ => fun
  | [d, g1] => { results := [.lit (.bool false)], args := [d], vars := [g1] }
  | _ => none }
def FnExactPathGetWrongFalsely : Prop := fnExactPathGetRow.holds Tryd.pinned (OpenSpec.ofChange fnExactPathGetWrong)

/-- 'laws.FnPathBack': WHATEVER THE INPUT: true; the input reads as it did. -/
def fnPathBackSpec : ChangeSpec := { name := "fnPathBack", vars := ["loop.example/guilloche/impl.sets"], fn := fun _ => fun
  | [d, g1] => { results := [.lit (.bool true)], args := [d], vars := [g1] }
  | _ => none }
def fnPathBackRow : OpenClaim := { program := "ytekeimhhffnjpaadoor", sum := "575c160b1c663382107862b2b92f96ca02855be53ef0f64c1a54dbdb87042fd4", func := "loop.example/guilloche/laws.FnPathBack", spec := "fnPathBack", inPlace := ["internal/bytealg.CountString", "internal/bytealg.IndexByteString", "internal/bytealg.IndexString", "internal/abi.NoEscape", "internal/bytealg.MakeNoZero"], named := ["internal/bytealg.MaxLen", "unicode/utf8.first", "unicode/utf8.acceptRanges", "loop.example/guilloche/impl.sets"], apart := false, laid := [("unicode/utf8.acceptRanges", laid_unicode_utf8_acceptRanges), ("loop.example/guilloche/impl.sets", laid_loop_example_guilloche_impl_sets), ("unicode/utf8.first", laid_unicode_utf8_first)] }
def FnPathBackSaid : Prop := fnPathBackRow.holds Tryd.pinned (OpenSpec.ofChange fnPathBackSpec)

/-- ITS FALSE NEIGHBOUR: 'it returns false'. Refute it at one input. -/
def fnPathBackWrong : ChangeSpec := { name := "fnPathBack", vars := ["loop.example/guilloche/impl.sets"], fn := fun _ => fun
  | [d, g1] => { results := [.lit (.bool false)], args := [d], vars := [g1] }
  | _ => none }
def FnPathBackWrongFalsely : Prop := fnPathBackRow.holds Tryd.pinned (OpenSpec.ofChange fnPathBackWrong)

/-- 'laws.FnPathJoin': WHATEVER THE INPUT: true; the input reads as it did. -/
def fnPathJoinSpec : ChangeSpec := { name := "fnPathJoin", vars := ["loop.example/guilloche/impl.sets"], fn := fun _ => fun
  | [d, g1] => { results := [.lit (.bool true)], args := [d], vars := [g1] }
  | _ => none }
def fnPathJoinRow : OpenClaim := { program := "ytekeimhhffnjpaadoor", sum := "575c160b1c663382107862b2b92f96ca02855be53ef0f64c1a54dbdb87042fd4", func := "loop.example/guilloche/laws.FnPathJoin", spec := "fnPathJoin", inPlace := ["internal/bytealg.CountString", "internal/bytealg.IndexByteString", "internal/bytealg.IndexString", "internal/abi.NoEscape", "internal/bytealg.MakeNoZero"], named := ["internal/bytealg.MaxLen", "unicode/utf8.first", "unicode/utf8.acceptRanges", "loop.example/guilloche/impl.sets"], apart := false, laid := [("unicode/utf8.acceptRanges", laid_unicode_utf8_acceptRanges), ("loop.example/guilloche/impl.sets", laid_loop_example_guilloche_impl_sets), ("unicode/utf8.first", laid_unicode_utf8_first)] }
def FnPathJoinSaid : Prop := fnPathJoinRow.holds Tryd.pinned (OpenSpec.ofChange fnPathJoinSpec)

/-- ITS FALSE NEIGHBOUR: 'it returns false'. Refute it at one input. -/
def fnPathJoinWrong : ChangeSpec := { name := "fnPathJoin", vars := ["loop.example/guilloche/impl.sets"], fn := fun _ => fun
  | [d, g1] => { results := [.lit (.bool false)], args := [d], vars := [g1] }
  | _ => none }
def FnPathJoinWrongFalsely : Prop := fnPathJoinRow.holds Tryd.pinned (OpenSpec.ofChange fnPathJoinWrong)

/-- 'laws.FnPath': WHATEVER THE INPUT: true; the input reads as it did. -/
def fnPathSpec : ChangeSpec := { name := "fnPath", vars := ["loop.example/guilloche/impl.sets"], fn := fun _ => fun
  | [d, g1] => { results := [.lit (.bool true)], args := [d], vars := [g1] }
  | _ => none }
def fnPathRow : OpenClaim := { program := "ytekeimhhffnjpaadoor", sum := "575c160b1c663382107862b2b92f96ca02855be53ef0f64c1a54dbdb87042fd4", func := "loop.example/guilloche/laws.FnPath", spec := "fnPath", inPlace := ["internal/bytealg.CountString", "internal/bytealg.IndexByteString", "internal/bytealg.IndexString", "internal/abi.NoEscape", "internal/bytealg.MakeNoZero"], named := ["internal/bytealg.MaxLen", "unicode/utf8.first", "unicode/utf8.acceptRanges", "loop.example/guilloche/impl.sets"], apart := false, laid := [("unicode/utf8.acceptRanges", laid_unicode_utf8_acceptRanges), ("loop.example/guilloche/impl.sets", laid_loop_example_guilloche_impl_sets), ("unicode/utf8.first", laid_unicode_utf8_first)] }
def FnPathSaid : Prop := fnPathRow.holds Tryd.pinned (OpenSpec.ofChange fnPathSpec)

/-- ITS FALSE NEIGHBOUR: 'it returns false'. Refute it at one input. -/
def fnPathWrong : ChangeSpec := { name := "fnPath", vars := ["loop.example/guilloche/impl.sets"], fn := fun _ => fun
  | [d, g1] => { results := [.lit (.bool false)], args := [d], vars := [g1] }
  | _ => none }
def FnPathWrongFalsely : Prop := fnPathRow.holds Tryd.pinned (OpenSpec.ofChange fnPathWrong)

/-- 'laws.FnHostLower': WHATEVER THE INPUT: true; the input reads as it did. -/
def fnHostLowerSpec : ChangeSpec := { name := "fnHostLower", fn := fun _ => fun
  | [d] => { results := [.lit (.bool true)], args := [d] }
  | _ => none }
def fnHostLowerRow : OpenClaim := { program := "ytekeimhhffnjpaadoor", sum := "575c160b1c663382107862b2b92f96ca02855be53ef0f64c1a54dbdb87042fd4", func := "loop.example/guilloche/laws.FnHostLower", spec := "fnHostLower", inPlace := ["internal/abi.NoEscape", "internal/bytealg.CountString", "internal/bytealg.IndexByteString", "internal/bytealg.IndexString"], named := ["unicode/utf8.first", "unicode/utf8.acceptRanges", "internal/bytealg.MaxLen"], apart := false, laid := [("unicode/utf8.acceptRanges", laid_unicode_utf8_acceptRanges), ("unicode/utf8.first", laid_unicode_utf8_first)] }
def FnHostLowerSaid : Prop := fnHostLowerRow.holds Tryd.pinned (OpenSpec.ofChange fnHostLowerSpec)

/-- ITS FALSE NEIGHBOUR: 'it returns false'. Refute it at one input. -/
def fnHostLowerWrong : ChangeSpec := { name := "fnHostLower", fn := fun _ => fun
  | [d] => { results := [.lit (.bool false)], args := [d] }
  | _ => none }
def FnHostLowerWrongFalsely : Prop := fnHostLowerRow.holds Tryd.pinned (OpenSpec.ofChange fnHostLowerWrong)

/-- 'laws.FnExactHostPut': WHATEVER THE INPUT: true; the input reads as it did. -/
def fnExactHostPutSpec : ChangeSpec := { name := "fnExactHostPut", fn := fun _ => fun
  | [d] => { results := [.lit (.bool true)], args := [d] }
  | _ => none }
def fnExactHostPutRow : OpenClaim := { program := "ytekeimhhffnjpaadoor", sum := "575c160b1c663382107862b2b92f96ca02855be53ef0f64c1a54dbdb87042fd4", func := "loop.example/guilloche/laws.FnExactHostPut", spec := "fnExactHostPut", inPlace := ["internal/bytealg.CountString", "internal/bytealg.IndexByteString", "internal/bytealg.IndexString", "internal/abi.NoEscape", "internal/bytealg.MakeNoZero"], recurses := true, named := ["unicode/utf8.first", "unicode/utf8.acceptRanges", "internal/bytealg.MaxLen", "internal/strconv.uint64pow10", "math/bits.deBruijn32tab", "math/bits.deBruijn64tab"], apart := false, laid := [("math/bits.deBruijn32tab", laid_math_bits_deBruijn32tab), ("math/bits.deBruijn64tab", laid_math_bits_deBruijn64tab), ("internal/strconv.uint64pow10", laid_internal_strconv_uint64pow10), ("unicode/utf8.acceptRanges", laid_unicode_utf8_acceptRanges), ("unicode/utf8.first", laid_unicode_utf8_first)] }
def FnExactHostPutSaid : Prop := fnExactHostPutRow.holds Tryd.pinned (OpenSpec.ofChange fnExactHostPutSpec)

/-- ITS FALSE NEIGHBOUR: 'it returns false'. Refute it at one input. -/
def fnExactHostPutWrong : ChangeSpec := { name := "fnExactHostPut", fn := fun _ => fun
  | [d] => { results := [.lit (.bool false)], args := [d] }
  | _ => none }
def FnExactHostPutWrongFalsely : Prop := fnExactHostPutRow.holds Tryd.pinned (OpenSpec.ofChange fnExactHostPutWrong)

/-- 'laws.FnExactHostSite': WHATEVER THE INPUT: true; the input reads as it did. -/
def fnExactHostSiteSpec : ChangeSpec := { name := "fnExactHostSite", fn := fun _ => fun
  | [d] => { results := [.lit (.bool true)], args := [d] }
  | _ => none }
def fnExactHostSiteRow : OpenClaim := { program := "ytekeimhhffnjpaadoor", sum := "575c160b1c663382107862b2b92f96ca02855be53ef0f64c1a54dbdb87042fd4", func := "loop.example/guilloche/laws.FnExactHostSite", spec := "fnExactHostSite", inPlace := ["internal/bytealg.CountString", "internal/bytealg.IndexByteString", "internal/bytealg.IndexString", "internal/abi.NoEscape", "internal/bytealg.MakeNoZero"], recurses := true, named := ["unicode/utf8.first", "unicode/utf8.acceptRanges", "internal/bytealg.MaxLen", "internal/strconv.uint64pow10", "math/bits.deBruijn32tab", "math/bits.deBruijn64tab"], apart := false, laid := [("math/bits.deBruijn32tab", laid_math_bits_deBruijn32tab), ("math/bits.deBruijn64tab", laid_math_bits_deBruijn64tab), ("internal/strconv.uint64pow10", laid_internal_strconv_uint64pow10), ("unicode/utf8.acceptRanges", laid_unicode_utf8_acceptRanges), ("unicode/utf8.first", laid_unicode_utf8_first)] }
def FnExactHostSiteSaid : Prop := fnExactHostSiteRow.holds Tryd.pinned (OpenSpec.ofChange fnExactHostSiteSpec)

/-- ITS FALSE NEIGHBOUR: 'it returns false'. Refute it at one input. -/
def fnExactHostSiteWrong : ChangeSpec := { name := "fnExactHostSite", fn := fun _ => fun
  | [d] => { results := [.lit (.bool false)], args := [d] }
  | _ => none }
def FnExactHostSiteWrongFalsely : Prop := fnExactHostSiteRow.holds Tryd.pinned (OpenSpec.ofChange fnExactHostSiteWrong)

/- THE SECOND FORM. 'bulk': how many values and letters a reading holds, each counted each time it is reached (what is shared counts as often as it is met; a slice's spare places count too). A statement '..UptoSaid' is the law's where the arguments, and the package variables that the reading takes, are together of bulk at most 1048576: NARROWER than '..Said'. Prove '..Said' where nothing that the law and all that it calls make is longer than what came in: it says more and counts as full. Else prove '..UptoSaid'. A law counts once. -/
mutual
def uptoBulk {H : Type} : DataW H → Nat
  | .lit (.string bytes) => bytes.length + 1
  | .lit _ => 1
  | .nil => 1
  | .ptr d => uptoBulk d + 1
  | .slice elems spare => uptoBulkAll elems + uptoBulkAll spare + 1
  | .agg parts => uptoBulkAll parts + 1
  | .iface _ d => uptoBulk d + 1
  | .map entries => uptoBulkEntries entries + 1
  | .held _ => 1
def uptoBulkAll {H : Type} : List (DataW H) → Nat
  | [] => 0
  | d :: r => uptoBulk d + uptoBulkAll r
def uptoBulkEntries {H : Type} : List (Lit × DataW H) → Nat
  | [] => 0
  | x :: r => uptoBulkEntry x + uptoBulkEntries r
def uptoBulkEntry {H : Type} : Lit × DataW H → Nat
  | (.string bytes, d) => bytes.length + uptoBulk d + 1
  | (_, d) => uptoBulk d + 1
 end
def uptoSmall : (H : Type) → List (DataW H) → Bool := fun _ ds => decide (uptoBulkAll ds ≤ 1048576)
def OpenSpec.upto (s : _root_.Go.ChangeSpec) : _root_.Go.OpenSpec := { _root_.Go.OpenSpec.ofChange s with cond := some uptoSmall }

/-- 'laws.FnEncode', WHERE WHAT IT READS IS OF BULK AT MOST 1048576: true; the input reads as it did. -/
def fnEncodeUptoRow : OpenClaim := { program := "ytekeimhhffnjpaadoor", sum := "575c160b1c663382107862b2b92f96ca02855be53ef0f64c1a54dbdb87042fd4", func := "loop.example/guilloche/laws.FnEncode", spec := "fnEncode", inPlace := ["internal/bytealg.IndexByteString", "internal/abi.NoEscape"], named := ["loop.example/guilloche/impl.sets"], apart := false, laid := [("loop.example/guilloche/impl.sets", laid_loop_example_guilloche_impl_sets)], narrowed := true }
def FnEncodeUptoSaid : Prop := fnEncodeUptoRow.holds Tryd.pinned (OpenSpec.upto fnEncodeSpec)

/-- 'laws.FnEncodeParts', WHERE WHAT IT READS IS OF BULK AT MOST 1048576: true; the input reads as it did. -/
def fnEncodePartsUptoRow : OpenClaim := { program := "ytekeimhhffnjpaadoor", sum := "575c160b1c663382107862b2b92f96ca02855be53ef0f64c1a54dbdb87042fd4", func := "loop.example/guilloche/laws.FnEncodeParts", spec := "fnEncodeParts", inPlace := ["internal/bytealg.IndexByteString", "internal/abi.NoEscape"], named := ["loop.example/guilloche/impl.sets"], apart := false, laid := [("loop.example/guilloche/impl.sets", laid_loop_example_guilloche_impl_sets)], narrowed := true }
def FnEncodePartsUptoSaid : Prop := fnEncodePartsUptoRow.holds Tryd.pinned (OpenSpec.upto fnEncodePartsSpec)

/-- 'laws.FnFormMore', WHERE WHAT IT READS IS OF BULK AT MOST 1048576: true; the input reads as it did. -/
def fnFormMoreUptoRow : OpenClaim := { program := "ytekeimhhffnjpaadoor", sum := "575c160b1c663382107862b2b92f96ca02855be53ef0f64c1a54dbdb87042fd4", func := "loop.example/guilloche/laws.FnFormMore", spec := "fnFormMore", inPlace := ["internal/bytealg.CountString", "internal/bytealg.IndexByteString", "internal/bytealg.IndexString", "internal/abi.NoEscape", "internal/bytealg.MakeNoZero"], named := ["unicode/utf8.first", "unicode/utf8.acceptRanges", "internal/bytealg.MaxLen"], apart := false, laid := [("unicode/utf8.acceptRanges", laid_unicode_utf8_acceptRanges), ("unicode/utf8.first", laid_unicode_utf8_first)], narrowed := true }
def FnFormMoreUptoSaid : Prop := fnFormMoreUptoRow.holds Tryd.pinned (OpenSpec.upto fnFormMoreSpec)

/-- 'laws.FnExactFormGet', WHERE WHAT IT READS IS OF BULK AT MOST 1048576: true; the input reads as it did. -/
def fnExactFormGetUptoRow : OpenClaim := { program := "ytekeimhhffnjpaadoor", sum := "575c160b1c663382107862b2b92f96ca02855be53ef0f64c1a54dbdb87042fd4", func := "loop.example/guilloche/laws.FnExactFormGet", spec := "fnExactFormGet", inPlace := ["internal/bytealg.CountString", "internal/bytealg.IndexByteString", "internal/bytealg.IndexString", "internal/abi.NoEscape", "internal/bytealg.MakeNoZero"], named := ["unicode/utf8.first", "unicode/utf8.acceptRanges", "internal/bytealg.MaxLen"], apart := false, laid := [("unicode/utf8.acceptRanges", laid_unicode_utf8_acceptRanges), ("unicode/utf8.first", laid_unicode_utf8_first)], narrowed := true }
def FnExactFormGetUptoSaid : Prop := fnExactFormGetUptoRow.holds Tryd.pinned (OpenSpec.upto fnExactFormGetSpec)

/-- 'laws.FnForm', WHERE WHAT IT READS IS OF BULK AT MOST 1048576: true; the input reads as it did. -/
def fnFormUptoRow : OpenClaim := { program := "ytekeimhhffnjpaadoor", sum := "575c160b1c663382107862b2b92f96ca02855be53ef0f64c1a54dbdb87042fd4", func := "loop.example/guilloche/laws.FnForm", spec := "fnForm", inPlace := ["internal/bytealg.IndexByteString", "internal/abi.NoEscape", "internal/bytealg.MakeNoZero", "internal/bytealg.CountString", "internal/bytealg.IndexString"], named := ["unicode/utf8.first", "unicode/utf8.acceptRanges", "internal/bytealg.MaxLen"], apart := false, laid := [("unicode/utf8.acceptRanges", laid_unicode_utf8_acceptRanges), ("unicode/utf8.first", laid_unicode_utf8_first)], narrowed := true }
def FnFormUptoSaid : Prop := fnFormUptoRow.holds Tryd.pinned (OpenSpec.upto fnFormSpec)

/-- 'laws.FnExactPathGet', WHERE WHAT IT READS IS OF BULK AT MOST 1048576: true; the input reads as it did. -/
def fnExactPathGetUptoRow : OpenClaim := { program := "ytekeimhhffnjpaadoor", sum := "575c160b1c663382107862b2b92f96ca02855be53ef0f64c1a54dbdb87042fd4", func := "loop.example/guilloche/laws.FnExactPathGet", spec := "fnExactPathGet", inPlace := ["internal/bytealg.CountString", "internal/bytealg.IndexByteString", "internal/bytealg.IndexString", "internal/abi.NoEscape", "internal/bytealg.MakeNoZero"], named := ["internal/bytealg.MaxLen", "unicode/utf8.first", "unicode/utf8.acceptRanges", "loop.example/guilloche/impl.sets"], apart := false, laid := [("unicode/utf8.acceptRanges", laid_unicode_utf8_acceptRanges), ("loop.example/guilloche/impl.sets", laid_loop_example_guilloche_impl_sets), ("unicode/utf8.first", laid_unicode_utf8_first)], narrowed := true }
def FnExactPathGetUptoSaid : Prop := fnExactPathGetUptoRow.holds Tryd.pinned (OpenSpec.upto fnExactPathGetSpec)

/-- 'laws.FnPathBack', WHERE WHAT IT READS IS OF BULK AT MOST 1048576: true; the input reads as it did. -/
def fnPathBackUptoRow : OpenClaim := { program := "ytekeimhhffnjpaadoor", sum := "575c160b1c663382107862b2b92f96ca02855be53ef0f64c1a54dbdb87042fd4", func := "loop.example/guilloche/laws.FnPathBack", spec := "fnPathBack", inPlace := ["internal/bytealg.CountString", "internal/bytealg.IndexByteString", "internal/bytealg.IndexString", "internal/abi.NoEscape", "internal/bytealg.MakeNoZero"], named := ["internal/bytealg.MaxLen", "unicode/utf8.first", "unicode/utf8.acceptRanges", "loop.example/guilloche/impl.sets"], apart := false, laid := [("unicode/utf8.acceptRanges", laid_unicode_utf8_acceptRanges), ("loop.example/guilloche/impl.sets", laid_loop_example_guilloche_impl_sets), ("unicode/utf8.first", laid_unicode_utf8_first)], narrowed := true }
def FnPathBackUptoSaid : Prop := fnPathBackUptoRow.holds Tryd.pinned (OpenSpec.upto fnPathBackSpec)

/-- 'laws.FnPathJoin', WHERE WHAT IT READS IS OF BULK AT MOST 1048576: true; the input reads as it did. -/
def fnPathJoinUptoRow : OpenClaim := { program := "ytekeimhhffnjpaadoor", sum := "575c160b1c663382107862b2b92f96ca02855be53ef0f64c1a54dbdb87042fd4", func := "loop.example/guilloche/laws.FnPathJoin", spec := "fnPathJoin", inPlace := ["internal/bytealg.CountString", "internal/bytealg.IndexByteString", "internal/bytealg.IndexString", "internal/abi.NoEscape", "internal/bytealg.MakeNoZero"], named := ["internal/bytealg.MaxLen", "unicode/utf8.first", "unicode/utf8.acceptRanges", "loop.example/guilloche/impl.sets"], apart := false, laid := [("unicode/utf8.acceptRanges", laid_unicode_utf8_acceptRanges), ("loop.example/guilloche/impl.sets", laid_loop_example_guilloche_impl_sets), ("unicode/utf8.first", laid_unicode_utf8_first)], narrowed := true }
def FnPathJoinUptoSaid : Prop := fnPathJoinUptoRow.holds Tryd.pinned (OpenSpec.upto fnPathJoinSpec)

/-- 'laws.FnPath', WHERE WHAT IT READS IS OF BULK AT MOST 1048576: true; the input reads as it did. -/
def fnPathUptoRow : OpenClaim := { program := "ytekeimhhffnjpaadoor", sum := "575c160b1c663382107862b2b92f96ca02855be53ef0f64c1a54dbdb87042fd4", func := "loop.example/guilloche/laws.FnPath", spec := "fnPath", inPlace := ["internal/bytealg.CountString", "internal/bytealg.IndexByteString", "internal/bytealg.IndexString", "internal/abi.NoEscape", "internal/bytealg.MakeNoZero"], named := ["internal/bytealg.MaxLen", "unicode/utf8.first", "unicode/utf8.acceptRanges", "loop.example/guilloche/impl.sets"], apart := false, laid := [("unicode/utf8.acceptRanges", laid_unicode_utf8_acceptRanges), ("loop.example/guilloche/impl.sets", laid_loop_example_guilloche_impl_sets), ("unicode/utf8.first", laid_unicode_utf8_first)], narrowed := true }
def FnPathUptoSaid : Prop := fnPathUptoRow.holds Tryd.pinned (OpenSpec.upto fnPathSpec)

/-- 'laws.FnHostLower', WHERE WHAT IT READS IS OF BULK AT MOST 1048576: true; the input reads as it did. -/
def fnHostLowerUptoRow : OpenClaim := { program := "ytekeimhhffnjpaadoor", sum := "575c160b1c663382107862b2b92f96ca02855be53ef0f64c1a54dbdb87042fd4", func := "loop.example/guilloche/laws.FnHostLower", spec := "fnHostLower", inPlace := ["internal/abi.NoEscape", "internal/bytealg.CountString", "internal/bytealg.IndexByteString", "internal/bytealg.IndexString"], named := ["unicode/utf8.first", "unicode/utf8.acceptRanges", "internal/bytealg.MaxLen"], apart := false, laid := [("unicode/utf8.acceptRanges", laid_unicode_utf8_acceptRanges), ("unicode/utf8.first", laid_unicode_utf8_first)], narrowed := true }
def FnHostLowerUptoSaid : Prop := fnHostLowerUptoRow.holds Tryd.pinned (OpenSpec.upto fnHostLowerSpec)

/-- 'laws.FnExactHostPut', WHERE WHAT IT READS IS OF BULK AT MOST 1048576: true; the input reads as it did. -/
def fnExactHostPutUptoRow : OpenClaim := { program := "ytekeimhhffnjpaadoor", sum := "575c160b1c663382107862b2b92f96ca02855be53ef0f64c1a54dbdb87042fd4", func := "loop.example/guilloche/laws.FnExactHostPut", spec := "fnExactHostPut", inPlace := ["internal/bytealg.CountString", "internal/bytealg.IndexByteString", "internal/bytealg.IndexString", "internal/abi.NoEscape", "internal/bytealg.MakeNoZero"], recurses := true, named := ["unicode/utf8.first", "unicode/utf8.acceptRanges", "internal/bytealg.MaxLen", "internal/strconv.uint64pow10", "math/bits.deBruijn32tab", "math/bits.deBruijn64tab"], apart := false, laid := [("math/bits.deBruijn32tab", laid_math_bits_deBruijn32tab), ("math/bits.deBruijn64tab", laid_math_bits_deBruijn64tab), ("internal/strconv.uint64pow10", laid_internal_strconv_uint64pow10), ("unicode/utf8.acceptRanges", laid_unicode_utf8_acceptRanges), ("unicode/utf8.first", laid_unicode_utf8_first)], narrowed := true }
def FnExactHostPutUptoSaid : Prop := fnExactHostPutUptoRow.holds Tryd.pinned (OpenSpec.upto fnExactHostPutSpec)

/-- 'laws.FnExactHostSite', WHERE WHAT IT READS IS OF BULK AT MOST 1048576: true; the input reads as it did. -/
def fnExactHostSiteUptoRow : OpenClaim := { program := "ytekeimhhffnjpaadoor", sum := "575c160b1c663382107862b2b92f96ca02855be53ef0f64c1a54dbdb87042fd4", func := "loop.example/guilloche/laws.FnExactHostSite", spec := "fnExactHostSite", inPlace := ["internal/bytealg.CountString", "internal/bytealg.IndexByteString", "internal/bytealg.IndexString", "internal/abi.NoEscape", "internal/bytealg.MakeNoZero"], recurses := true, named := ["unicode/utf8.first", "unicode/utf8.acceptRanges", "internal/bytealg.MaxLen", "internal/strconv.uint64pow10", "math/bits.deBruijn32tab", "math/bits.deBruijn64tab"], apart := false, laid := [("math/bits.deBruijn32tab", laid_math_bits_deBruijn32tab), ("math/bits.deBruijn64tab", laid_math_bits_deBruijn64tab), ("internal/strconv.uint64pow10", laid_internal_strconv_uint64pow10), ("unicode/utf8.acceptRanges", laid_unicode_utf8_acceptRanges), ("unicode/utf8.first", laid_unicode_utf8_first)], narrowed := true }
def FnExactHostSiteUptoSaid : Prop := fnExactHostSiteUptoRow.holds Tryd.pinned (OpenSpec.upto fnExactHostSiteSpec)

end Rows
end Go.Proofs.YtekeimhhffnjpaaDoor
