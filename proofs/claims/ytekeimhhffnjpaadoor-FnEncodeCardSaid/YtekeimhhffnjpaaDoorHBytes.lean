/- Of no program: a row of bytes that '[]byte(s)' has made: what its cells hold, what a store leaves, what 'string(b)' gives. No condition. -/
import Derived.Test.YtekeimhhffnjpaaDoorBase
import Derived.Lib.ConvBytes
import Derived.WalkKit
import Derived.Below
namespace Go.Proofs.YtekeimhhffnjpaaDoor.H
open Go.RowKit Go.Proofs.YtekeimhhffnjpaaDoorW.PrintWords Go.Proofs.YtekeimhhffnjpaaDoor.Base

/-- Block N holds these bytes, and none of them is frozen. -/
def BRow (W : World) (N : Nat) (l : Bs) : Prop := ∀ j (hj : j < l.length), W.cell? ⟨N, j, none⟩ = some (.int .u8 ((l[j].toNat : Nat) : Int)) ∧ W.frozen? ⟨N, j, none⟩ = false
theorem BRow.start (w : World) (e : TypeId) (l : Bs) : BRow (Lib.bytesWorld w e (B l)) w.heap.size l := by
  intro j hj
  refine ⟨?_, ?_⟩
  · rw [Lib.bytesWorld_cell w e (B l) j (by simpa using hj)]
    simp [List.getD_eq_getElem?_getD, List.getElem?_eq_getElem hj]
  · simp only [World.frozen?, Lib.bytesWorld_at_new]
    have : j < (Lib.bytesCells w e (B l)).size := by simp [Lib.bytesCells, B]; omega
    simp; omega
theorem BRow.set {W : World} {N : Nat} {l : Bs} (h : BRow W N l) (i : Nat) (v : UInt8) (hi : i < l.length) : BRow (W.setCell ⟨N, i, none⟩ (.int .u8 ((v.toNat : Nat) : Int))) N (l.set i v) := by
  intro j hj
  have hj' : j < l.length := by simpa using hj
  refine ⟨?_, ?_⟩
  · by_cases e : i = j
    · subst e
      rw [World.cell?_setCell_same (h := (h i hi).1)]
      simp
    · rw [World.cell?_setCell_other (h := fun q => e (by cases q; rfl)), (h j hj').1]
      simp [e]
  · rw [World.frozen?_setCell]; exact (h j hj').2
theorem BRow.lt {W : World} {N : Nat} {l : Bs} (h : BRow W N l) (hl : 0 < l.length) : N < W.heap.size := World.block_lt_of_cell? _ _ (h 0 hl).1
theorem BRow.reads {W : World} {N : Nat} {l : Bs} (h : BRow W N l) (hl : l.length ≤ 9223372036854775807) : ReadsInt W .u8 (some ⟨N, 0, none⟩) l.length (bytesOf (B l)) := by
  refine ⟨by simp [bytesOf_length], hl, fun _ => ⟨_, rfl, fun j hj => ?_⟩⟩
  rw [add_plain, (h j hj).1]
  simp [bytesOf, List.getD_eq_getElem?_getD, List.getElem?_eq_getElem hj]
theorem strOf_bytes (l : Bs) : strOfNums (bytesOf (B l)) = B l := by
  unfold strOfNums bytesOf B
  simp [Function.comp_def]
theorem BRow.string {P : Program} {W : World} {N c : Nat} {l : Bs} {src dst e : TypeId} (h : BRow W N l) (hl : l.length ≤ 9223372036854775807) (hs : P.underlying src = some (.slice e)) (he : P.underlying e = some (.int .u8)) (hd : P.underlying dst = some .string) :
    (convert src dst (.slice (some ⟨N, 0, none⟩) l.length c)).run P W = .ok (.string (B l)) W := by
  rw [string_of_reads hs he hd (h.reads hl), strOf_bytes]
theorem BRow.below {W W1 : World} {N : Nat} {l : Bs} (h : BRow W N l) (hb : Below W.heap.size W W1) : BRow W1 N l := by
  intro j hj
  have hlt := World.block_lt_of_cell? _ _ (h j hj).1
  exact ⟨(hb.cell hlt).trans (h j hj).1, (hb.frozen hlt).trans (h j hj).2⟩
end Go.Proofs.YtekeimhhffnjpaaDoor.H
