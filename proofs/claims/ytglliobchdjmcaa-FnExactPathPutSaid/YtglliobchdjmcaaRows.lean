/-
  No cell of these rows narrows 'for every input' (looked for: loops, veiled, ifaces, maps, wideKeys, modest, calm, conditions, laid).
  DERIVED. THE GIVEN ROWS OF THIS SEAT. 6 by the template 'for every input the law returns true; each argument reads behind the call as it read before'; 0 by the template 'total and deterministic' (their statements: YtglliobchdjmcaaTotals.lean).
  GIVEN WITH THE SEED: the statements are not yours to turn. If you find one false, say at which input.
  Laid BY PROGRAM, IN A SANDBOX (cutbox-rows.mjs): the forced cells as the released guide's own fill.sh prints them over the translation 7dac926de57e6cd9… (all of the seat's roots in one cut). By AI agents, Wed Nov 11 2026. No macro, syntax, notation, axiom, sorry.
-/
import Derived.Test.YtglliobchdjmcaaChecked
import GoSem.Claim
import GoSem.ClaimJoined
import GoSem.ClaimMapViews
import Derived.JoinedTies
import Derived.KernelRfl
namespace Go.Proofs.Ytglliobchdjmcaa
/- THE CELL 'sum', in the pinned program and in every row, IS THE sha256 OF THE DUMP (.gsa) THAT YtglliobchdjmcaaProg.lean LOADS. Nothing in Lean hashes anything: it is a label: what it is worth is what the hold of that sum in a sandbox is worth. -/
noncomputable def Try.pinned : Pinned := { name := "ytglliobchdjmcaa", sum := "7dac926de57e6cd949ca274fbdfbbfaf160febd32ec231305a205f743f10d26c", checked := Try.checked }
namespace Rows
def none {H : Type} : Left H := { results := [], args := [] }

/-- 'laws.FnExactConstants': WHATEVER THE INPUT: true; the input reads as it did. -/
def fnExactConstantsSpec : ChangeSpec := { name := "fnExactConstants", fn := fun _ => fun
  | [] => { results := [.lit (.bool true)], args := [] }
  | _ => none }
def fnExactConstantsRow : OpenClaim := { program := "ytglliobchdjmcaa", sum := "7dac926de57e6cd949ca274fbdfbbfaf160febd32ec231305a205f743f10d26c", func := "loop.example/guilloche/laws.FnExactConstants", spec := "fnExactConstants", apart := false }
def FnExactConstantsSaid : Prop := fnExactConstantsRow.holds Try.pinned (OpenSpec.ofChange fnExactConstantsSpec)

/-- ITS FALSE NEIGHBOUR: 'it returns false'. Refute it at one input. -/
def fnExactConstantsWrong : ChangeSpec := { name := "fnExactConstants", fn := fun _ => fun
  | [] => { results := [.lit (.bool false)], args := [] }
  | _ => none }
def FnExactConstantsWrongFalsely : Prop := fnExactConstantsRow.holds Try.pinned (OpenSpec.ofChange fnExactConstantsWrong)

/-- 'laws.FnExactLower': WHATEVER THE INPUT: true; the input reads as it did. -/
def fnExactLowerSpec : ChangeSpec := { name := "fnExactLower", fn := fun _ => fun
  | [d] => { results := [.lit (.bool true)], args := [d] }
  | _ => none }
def fnExactLowerRow : OpenClaim := { program := "ytglliobchdjmcaa", sum := "7dac926de57e6cd949ca274fbdfbbfaf160febd32ec231305a205f743f10d26c", func := "loop.example/guilloche/laws.FnExactLower", spec := "fnExactLower", apart := false }
def FnExactLowerSaid : Prop := fnExactLowerRow.holds Try.pinned (OpenSpec.ofChange fnExactLowerSpec)

/-- ITS FALSE NEIGHBOUR: 'it returns false'. Refute it at one input. -/
def fnExactLowerWrong : ChangeSpec := { name := "fnExactLower", fn := fun _ => fun
  | [d] => { results := [.lit (.bool false)], args := [d] }
  | _ => none }
def FnExactLowerWrongFalsely : Prop := fnExactLowerRow.holds Try.pinned (OpenSpec.ofChange fnExactLowerWrong)

/-- 'laws.FnExactPathIn': WHATEVER THE INPUT: true; the input reads as it did. -/
def fnExactPathInSpec : ChangeSpec := { name := "fnExactPathIn", fn := fun _ => fun
  | [d1, d2] => { results := [.lit (.bool true)], args := [d1, d2] }
  | _ => none }
def fnExactPathInRow : OpenClaim := { program := "ytglliobchdjmcaa", sum := "7dac926de57e6cd949ca274fbdfbbfaf160febd32ec231305a205f743f10d26c", func := "loop.example/guilloche/laws.FnExactPathIn", spec := "fnExactPathIn", apart := false }
def FnExactPathInSaid : Prop := fnExactPathInRow.holds Try.pinned (OpenSpec.ofChange fnExactPathInSpec)

/-- ITS FALSE NEIGHBOUR: 'it returns false'. Refute it at one input. -/
def fnExactPathInWrong : ChangeSpec := { name := "fnExactPathIn", fn := fun _ => fun
  | [d1, d2] => { results := [.lit (.bool false)], args := [d1, d2] }
  | _ => none }
def FnExactPathInWrongFalsely : Prop := fnExactPathInRow.holds Try.pinned (OpenSpec.ofChange fnExactPathInWrong)

/-- 'laws.FnPathIn': WHATEVER THE INPUT: true; the input reads as it did. -/
def fnPathInSpec : ChangeSpec := { name := "fnPathIn", fn := fun _ => fun
  | [d] => { results := [.lit (.bool true)], args := [d] }
  | _ => none }
def fnPathInRow : OpenClaim := { program := "ytglliobchdjmcaa", sum := "7dac926de57e6cd949ca274fbdfbbfaf160febd32ec231305a205f743f10d26c", func := "loop.example/guilloche/laws.FnPathIn", spec := "fnPathIn", apart := false }
def FnPathInSaid : Prop := fnPathInRow.holds Try.pinned (OpenSpec.ofChange fnPathInSpec)

/-- ITS FALSE NEIGHBOUR: 'it returns false'. Refute it at one input. -/
def fnPathInWrong : ChangeSpec := { name := "fnPathIn", fn := fun _ => fun
  | [d] => { results := [.lit (.bool false)], args := [d] }
  | _ => none }
def FnPathInWrongFalsely : Prop := fnPathInRow.holds Try.pinned (OpenSpec.ofChange fnPathInWrong)

/-- 'laws.FnLower': WHATEVER THE INPUT: true; the input reads as it did. -/
def fnLowerSpec : ChangeSpec := { name := "fnLower", fn := fun _ => fun
  | [d] => { results := [.lit (.bool true)], args := [d] }
  | _ => none }
def fnLowerRow : OpenClaim := { program := "ytglliobchdjmcaa", sum := "7dac926de57e6cd949ca274fbdfbbfaf160febd32ec231305a205f743f10d26c", func := "loop.example/guilloche/laws.FnLower", spec := "fnLower", apart := false }
def FnLowerSaid : Prop := fnLowerRow.holds Try.pinned (OpenSpec.ofChange fnLowerSpec)

/-- ITS FALSE NEIGHBOUR: 'it returns false'. Refute it at one input. -/
def fnLowerWrong : ChangeSpec := { name := "fnLower", fn := fun _ => fun
  | [d] => { results := [.lit (.bool false)], args := [d] }
  | _ => none }
def FnLowerWrongFalsely : Prop := fnLowerRow.holds Try.pinned (OpenSpec.ofChange fnLowerWrong)

/-- 'laws.FnExactPathPut': WHATEVER THE INPUT: true; the input reads as it did. -/
def fnExactPathPutSpec : ChangeSpec := { name := "fnExactPathPut", fn := fun _ => fun
  | [d] => { results := [.lit (.bool true)], args := [d] }
  | _ => none }
def fnExactPathPutRow : OpenClaim := { program := "ytglliobchdjmcaa", sum := "7dac926de57e6cd949ca274fbdfbbfaf160febd32ec231305a205f743f10d26c", func := "loop.example/guilloche/laws.FnExactPathPut", spec := "fnExactPathPut", inPlace := ["internal/abi.NoEscape"], apart := false }
def FnExactPathPutSaid : Prop := fnExactPathPutRow.holds Try.pinned (OpenSpec.ofChange fnExactPathPutSpec)

/-- ITS FALSE NEIGHBOUR: 'it returns false'. Refute it at one input. -/
def fnExactPathPutWrong : ChangeSpec := { name := "fnExactPathPut", fn := fun _ => fun
  | [d] => { results := [.lit (.bool false)], args := [d] }
  | _ => none }
def FnExactPathPutWrongFalsely : Prop := fnExactPathPutRow.holds Try.pinned (OpenSpec.ofChange fnExactPathPutWrong)

/- THE SECOND FORM. 'bulk': how many values and letters a reading holds, each counted each time it is reached (what is shared counts as often as it is met; a slice's spare places count too). A statement '..UptoSaid' is the law's where the arguments, and the package variables that the reading takes, are together of bulk at most 1048576: NARROWER than '..Said'. Prove '..Said' where nothing that the law and all that it calls make is longer than what came in: it says more and counts as full. Else prove '..UptoSaid'. A law counts once. -/
mutual
def uptoBulk {H : Type} : DataW H → Nat
  | .lit (.string bytes) => bytes.length + 1
  | .lit _ => 1
  | .nil => 1
  | .ptr d => uptoBulk d + 1
  | .slice elems spare => uptoBulkAll elems + uptoBulkAll spare + 1
  | .agg parts => uptoBulkAll parts + 1
  | .iface _ d => uptoBulk d + 1
  | .map entries => uptoBulkEntries entries + 1
  | .held _ => 1
def uptoBulkAll {H : Type} : List (DataW H) → Nat
  | [] => 0
  | d :: r => uptoBulk d + uptoBulkAll r
def uptoBulkEntries {H : Type} : List (Lit × DataW H) → Nat
  | [] => 0
  | x :: r => uptoBulkEntry x + uptoBulkEntries r
def uptoBulkEntry {H : Type} : Lit × DataW H → Nat
  | (.string bytes, d) => bytes.length + uptoBulk d + 1
  | (_, d) => uptoBulk d + 1
 end
def uptoSmall : (H : Type) → List (DataW H) → Bool := fun _ ds => decide (uptoBulkAll ds ≤ 1048576)
def OpenSpec.upto (s : _root_.Go.ChangeSpec) : _root_.Go.OpenSpec := { _root_.Go.OpenSpec.ofChange s with cond := some uptoSmall }

/-- 'laws.FnExactConstants', WHERE WHAT IT READS IS OF BULK AT MOST 1048576: true; the input reads as it did. -/
def fnExactConstantsUptoRow : OpenClaim := { program := "ytglliobchdjmcaa", sum := "7dac926de57e6cd949ca274fbdfbbfaf160febd32ec231305a205f743f10d26c", func := "loop.example/guilloche/laws.FnExactConstants", spec := "fnExactConstants", apart := false, narrowed := true }
def FnExactConstantsUptoSaid : Prop := fnExactConstantsUptoRow.holds Try.pinned (OpenSpec.upto fnExactConstantsSpec)

/-- 'laws.FnExactLower', WHERE WHAT IT READS IS OF BULK AT MOST 1048576: true; the input reads as it did. -/
def fnExactLowerUptoRow : OpenClaim := { program := "ytglliobchdjmcaa", sum := "7dac926de57e6cd949ca274fbdfbbfaf160febd32ec231305a205f743f10d26c", func := "loop.example/guilloche/laws.FnExactLower", spec := "fnExactLower", apart := false, narrowed := true }
def FnExactLowerUptoSaid : Prop := fnExactLowerUptoRow.holds Try.pinned (OpenSpec.upto fnExactLowerSpec)

/-- 'laws.FnExactPathIn', WHERE WHAT IT READS IS OF BULK AT MOST 1048576: true; the input reads as it did. -/
def fnExactPathInUptoRow : OpenClaim := { program := "ytglliobchdjmcaa", sum := "7dac926de57e6cd949ca274fbdfbbfaf160febd32ec231305a205f743f10d26c", func := "loop.example/guilloche/laws.FnExactPathIn", spec := "fnExactPathIn", apart := false, narrowed := true }
def FnExactPathInUptoSaid : Prop := fnExactPathInUptoRow.holds Try.pinned (OpenSpec.upto fnExactPathInSpec)

/-- 'laws.FnPathIn', WHERE WHAT IT READS IS OF BULK AT MOST 1048576: true; the input reads as it did. -/
def fnPathInUptoRow : OpenClaim := { program := "ytglliobchdjmcaa", sum := "7dac926de57e6cd949ca274fbdfbbfaf160febd32ec231305a205f743f10d26c", func := "loop.example/guilloche/laws.FnPathIn", spec := "fnPathIn", apart := false, narrowed := true }
def FnPathInUptoSaid : Prop := fnPathInUptoRow.holds Try.pinned (OpenSpec.upto fnPathInSpec)

/-- 'laws.FnLower', WHERE WHAT IT READS IS OF BULK AT MOST 1048576: true; the input reads as it did. -/
def fnLowerUptoRow : OpenClaim := { program := "ytglliobchdjmcaa", sum := "7dac926de57e6cd949ca274fbdfbbfaf160febd32ec231305a205f743f10d26c", func := "loop.example/guilloche/laws.FnLower", spec := "fnLower", apart := false, narrowed := true }
def FnLowerUptoSaid : Prop := fnLowerUptoRow.holds Try.pinned (OpenSpec.upto fnLowerSpec)

/-- 'laws.FnExactPathPut', WHERE WHAT IT READS IS OF BULK AT MOST 1048576: true; the input reads as it did. -/
def fnExactPathPutUptoRow : OpenClaim := { program := "ytglliobchdjmcaa", sum := "7dac926de57e6cd949ca274fbdfbbfaf160febd32ec231305a205f743f10d26c", func := "loop.example/guilloche/laws.FnExactPathPut", spec := "fnExactPathPut", inPlace := ["internal/abi.NoEscape"], apart := false, narrowed := true }
def FnExactPathPutUptoSaid : Prop := fnExactPathPutUptoRow.holds Try.pinned (OpenSpec.upto fnExactPathPutSpec)

end Rows
end Go.Proofs.Ytglliobchdjmcaa
