/- What some functions ask of package-level variables, and that it stays under whatever only makes memory. -/
import Derived.Test.YtekeimhhffnjpaaDoorBase
import Derived.Test.YtekeimhhffnjpaaDoorProg
import Derived.Below
namespace Go.Proofs.YtekeimhhffnjpaaDoor.H
open Go.RowKit Go.Proofs.YtekeimhhffnjpaaDoorW.PrintWords Go.Proofs.YtekeimhhffnjpaaDoor.Base
/-- The variable internal/bytealg.MaxLen holds some integer. -/
def TabM (W : World) : Prop := ∃ m, W.cell? ⟨1, 0, none⟩ = some (.int .i64 m)
theorem TabM.below {w W : World} (h : TabM w) (hb : Below w.heap.size w W) : TabM W := by
  obtain ⟨m, hm⟩ := h; exact ⟨m, pw_cell_below hb hm⟩
/-- The bytes of the program's sets, as its table lists them. -/
def sets : List Bs := [[], [32, 34, 35, 60, 62, 63, 123, 125, 96], [32, 34, 35, 60, 62, 39], [32, 34, 60, 62, 96], [32, 34, 35, 60, 62, 63, 123, 125, 96, 47, 58, 59, 61, 64, 91, 92, 93, 94, 124], [32]]
/-- The variable impl.sets reads as the table. -/
def TabS (W : World) : Prop := ∃ a c, W.cell? ⟨0, 0, none⟩ = some (.slice (some a) 6 c) ∧ ∀ j : Nat, j < 6 → W.cell? (a.add j) = some (.string (B (sets[j]?.getD [])))
theorem TabS.below {w W : World} (h : TabS w) (hb : Below w.heap.size w W) : TabS W := by
  obtain ⟨a, c, h1, h2⟩ := h; exact ⟨a, c, pw_cell_below hb h1, fun j hj => pw_cell_below hb (h2 j hj)⟩
def TabSM (W : World) : Prop := TabS W ∧ TabM W
theorem TabSM.below {w W : World} (h : TabSM w) (hb : Below w.heap.size w W) : TabSM W := ⟨h.1.below hb, h.2.below hb⟩
end Go.Proofs.YtekeimhhffnjpaaDoor.H
