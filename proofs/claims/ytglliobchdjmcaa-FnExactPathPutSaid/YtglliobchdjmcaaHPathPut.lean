/- impl.PathPut: the call comes to each segment with a slash ahead, if that takes at most 2^47 bytes. -/
import Derived.Test.YtglliobchdjmcaaHBytes
import Derived.Test.YtglliobchdjmcaaHBuilder
import Derived.Test.YtglliobchdjmcaaShelf
import Derived.Test.YtglliobchdjmcaaWMore
import Derived.Tactics
import Derived.KernelRfl
import Derived.RowKit3
import Derived.Deep.LoopGhost
import Derived.Laws.Slices
import Derived.Laws.Rows
import Derived.RowKit
import Derived.Outline
import Derived.Lib.Hide
namespace Go.Proofs.Ytglliobchdjmcaa.H
open Go.RowKit Go.Proofs.YtglliobchdjmcaaW.PrintWords Go.Proofs.Ytglliobchdjmcaa.Base

def pathPut (ls : List Bs) : Bs := (ls.map fun s => 47 :: s).flatten
theorem pathPut_snoc (ls : List Bs) (s : Bs) : pathPut (ls ++ [s]) = pathPut ls ++ 47 :: s := by simp [pathPut]
theorem pathPut_take (ls : List Bs) (k : Nat) (h : k < ls.length) : pathPut (ls.take (k + 1)) = pathPut (ls.take k) ++ 47 :: ls[k] := by
  rw [List.take_succ_eq_append_getElem h, pathPut_snoc]
theorem pathPut_mono (ls : List Bs) (k : Nat) : (pathPut (ls.take k)).length ≤ (pathPut ls).length := by
  conv => rhs; rw [← List.take_append_drop k ls]
  unfold pathPut
  rw [List.map_append, List.flatten_append, List.length_append]; omega
theorem pp_app (a b : Bs) : Lib.byteCells (a ++ b) = Lib.byteCells a ++ Lib.byteCells b := by simp [Lib.byteCells]
theorem pp_len (a : Bs) : (Lib.byteCells a).length = a.length := by simp [Lib.byteCells]
def segs (l : List ByteArray) : List Bs := l.map fun s => s.data.toList
set_option maxHeartbeats 1000000 in
set_option maxRecDepth 100000 in
theorem pathPut_walk (A0 : Option Addr) (c0 : Nat) (l0 : List ByteArray) (w : World) (hr0 : Kd.C Kd.string w A0 l0.length l0) (hc0 : l0.length ≤ c0) (hm : l0.length ≤ 140737488355328) (hl : (pathPut (segs l0)).length ≤ 140737488355328) :
    Calls Try.prog 18 #[.slice A0 l0.length c0] w fun e w' => e = .returned (.string (B (pathPut (segs l0)))) ∧ Below w.heap.size w w' := by
  have hb0 : Lib.IsBuilder 44 5 w.heap.size w.heap.size [] (w.alloc (.cells #[.pointer none, .slice none 0 0] 44)) := Lib.fresh_isBuilder 44 5 w
  have hw0 : Below w.heap.size w (w.alloc (.cells #[.pointer none, .slice none 0 0] 44)) := (Below.refl _ w).alloc (Nat.le_refl _) _
  have HR := Lib.hid hr0
  clear hr0
  have hsl : (segs l0).length = l0.length := by simp [segs]
  go_enter Try.func18, Try.ntmps18
  go_wp2
  go_loopw [8] (fun i wr => ∃ k : Nat, k ≤ l0.length ∧ i = .int .i64 k ∧ Lib.IsBuilder 44 5 w.heap.size w.heap.size (Lib.byteCells (pathPut ((segs l0).take k))) wr ∧ Below w.heap.size w wr) (fun i _ => l0.length - (intOf i).toNat)
  case atStart => exact ⟨0, by omega, rfl, hb0, hw0⟩
  case round =>
    obtain ⟨k, hk, rfl, hbld, hb⟩ := hrel
    by_cases hlt : k < l0.length
    · have hst := pathPut_take (segs l0) k (by omega)
      have hmo := pathPut_mono (segs l0) (k + 1)
      have hln : (segs l0)[k]'(by omega) = l0[k].data.toList := by simp [segs]
      rw [hln] at hst
      have hmx : (pathPut ((segs l0).take k)).length + (47 :: l0[k].data.toList).length ≤ 140737488355328 := by
        rw [hst, List.length_append] at hmo; omega
      obtain ⟨ad, e0, hcell⟩ := Kd.at_string (Kd.C_below HR.out hb) (k : Int) (by omega) (by omega)
      have hrd : rdOf ByteArray.empty l0 (k : Int) = l0[k] := by unfold rdOf; rw [Int.toNat_natCast, List.getD_eq_getElem?_getD, List.getElem?_eq_getElem hlt]; rfl
      rw [hrd, Int.toNat_natCast] at hcell
      obtain ⟨q, hq⟩ := exB l0[k]
      rw [hq] at hcell
      have hmx : (pathPut ((segs l0).take k)).length + (47 :: q).length ≤ 140737488355328 := by
        rw [hq, B_data] at hmx; exact hmx
      rw [hq, B_data] at hst
      have hdot : (⟨#[47]⟩ : ByteArray) ++ B q = B (47 :: q) := by rw [lit_B [47], B_append]; rfl
      have hwr : w.heap.size ≤ wr.heap.size := hb.size
      have hsz : (B q).size ≤ 140737488355328 := by rw [B_size]; simp at hmx; omega
      have hno : ¬ 9223372036854775807 < 1 + (B q).size := by omega
      have HS := Lib.hid hst
      have HD := Lib.hid hdot
      have HB := Lib.hid hbld
      clear hst hrd hln hmo hq hdot hbld
      subst e0
      go_wp2_with (go_at_call 25; go_loud (refine (Builder_WriteString w.heap.size w.heap.size _ _ _ HB.out (by rw [HD.out]; simpa [pp_len] using hmx) hwr).mono ?_; rintro e w5 ⟨rfl, h1, hb6⟩))
      go_roundw
      case rel => exact ⟨k + 1, by omega, by go_num, Or.inr (by rw [HD.out] at h1; rw [HS.out, pp_app]; exact h1), hb.trans hb6⟩
      case measure => simp [intOf]; omega
    · obtain rfl : k = l0.length := by omega
      have hwr : w.heap.size ≤ wr.heap.size := hb.size
      rw [List.take_of_length_le (by omega)] at hbld
      go_wp2_with (go_at_call 26; go_loud (refine (Try.Builder_String_any w.heap.size w.heap.size (pathPut (segs l0)) wr hbld hwr).mono ?_; rintro e w1 ⟨rfl, hb1⟩))
      go_ret
      exact ⟨rfl, hb.trans hb1⟩
def impl_PathPut.f (l0 : List ByteArray) : Option (ByteArray) := if l0.length ≤ 140737488355328 ∧ (pathPut (segs l0)).length ≤ 140737488355328 then some (B (pathPut (segs l0))) else none
theorem impl_PathPut.calls (A0 : Option Addr) (c0 : Nat) (l0 : List ByteArray) (r : ByteArray) (w : World) (hr0 : Kd.C Kd.string w A0 l0.length l0) (hc0 : l0.length ≤ c0) (h : impl_PathPut.f l0 = some r) :
    Calls Try.prog 18 #[.slice A0 l0.length c0] w fun e w' => e = .returned (.string r) ∧ Below w.heap.size w w' := by
  unfold impl_PathPut.f at h
  split at h
  · rename_i c
    obtain rfl := Option.some.inj h
    exact pathPut_walk A0 c0 l0 w hr0 hc0 c.1 c.2
  · cases h
end Go.Proofs.Ytglliobchdjmcaa.H
