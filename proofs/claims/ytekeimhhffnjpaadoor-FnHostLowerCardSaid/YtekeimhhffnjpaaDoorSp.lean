/- Small spellings that the walks ask for: a text held against the empty one. No condition. -/
import Derived.WalkKit
namespace Go.Proofs.YtekeimhhffnjpaaDoor.H
theorem nen (l : List UInt8) : (l != []) = !l.isEmpty := by cases l <;> rfl
theorem een (l : List UInt8) : (l == []) = l.isEmpty := by cases l <;> rfl
end Go.Proofs.YtekeimhhffnjpaaDoor.H
