/- impl.Lower: the call comes to the text with its capital letters made small, for every text of at most 2^47 bytes. -/
import Derived.Test.YtglliobchdjmcaaHBytes
import Derived.Test.YtglliobchdjmcaaProg
import Derived.Tactics
import Derived.KernelRfl
import Derived.RowKit3
import Derived.Deep.LoopGhost
import Derived.Laws.Slices
import Derived.Laws.Rows
import Derived.Laws.BitsLemmas
import Derived.RowKit
import Derived.Outline
import Derived.Lib.Hide
namespace Go.Proofs.Ytglliobchdjmcaa.H
open Go.RowKit Go.Proofs.YtglliobchdjmcaaW.PrintWords Go.Proofs.Ytglliobchdjmcaa.Base

/-- A capital letter's small one. -/
def lowB (c : UInt8) : UInt8 := if 65 ≤ c.toNat ∧ c.toNat ≤ 90 then c + 32 else c
def lower (l : Bs) : Bs := l.map lowB
/-- The first k bytes made small. -/
def lowK (l : Bs) (k : Nat) : Bs := (l.take k).map lowB ++ l.drop k
theorem lowK_length (l : Bs) (k : Nat) : (lowK l k).length = l.length := by simp [lowK]; omega
theorem lowK_zero (l : Bs) : lowK l 0 = l := by simp [lowK]
theorem lowK_all (l : Bs) (k : Nat) (h : l.length ≤ k) : lowK l k = lower l := by simp [lowK, lower, List.take_of_length_le h, List.drop_eq_nil_of_le h]
theorem lowK_get (l : Bs) (k : Nat) (h : k < l.length) (h' : k < (lowK l k).length) : (lowK l k)[k] = l[k] := by
  simp only [lowK]
  rw [List.getElem_append_right (by simp; omega)]
  simp [Nat.min_eq_left (Nat.le_of_lt h)]
theorem lowK_succ (l : Bs) (k : Nat) (h : k < l.length) : lowK l (k + 1) = (lowK l k).set k (lowB l[k]) := by
  have hm : ((l.take k).map lowB).length = k := by simp; omega
  simp only [lowK]
  rw [List.take_succ_eq_append_getElem h, List.map_append, List.set_append_right (h := by omega), hm, Nat.sub_self, List.drop_eq_getElem_cons h]
  simp only [List.map_cons, List.map_nil, List.append_assoc, List.singleton_append, List.set_cons_zero]
theorem lowK_same (l : Bs) (k : Nat) (h : k < l.length) (hc : ¬ (65 ≤ l[k].toNat ∧ l[k].toNat ≤ 90)) : lowK l (k + 1) = lowK l k := by
  rw [lowK_succ l k h]
  have e : lowB l[k] = (lowK l k)[k]'(by rw [lowK_length]; exact h) := by rw [lowK_get l k h]; simp [lowB, hc]
  rw [e, List.set_getElem_self]
set_option maxHeartbeats 1000000 in
set_option maxRecDepth 100000 in
theorem lower_walk (l : Bs) (w : World) (hl : l.length ≤ 140737488355328) :
    Calls Try.prog 10 #[.string (B l)] w fun e w' => e = .returned (.string (B (lower l))) ∧ Below w.heap.size w w' := by
  have hconv := fun W => Lib.run_convert_string_bytes (P := Try.prog) W 9 26 5 (B l) Try.underlying9 Try.underlying26 Try.underlying5
  have hback := fun (W : World) (k : Nat) (c : Nat) (h : BRow W w.heap.size (lowK l k)) => h.string (c := c) (P := Try.prog) (by rw [lowK_length]; omega) Try.underlying26 Try.underlying5 Try.underlying9
  go_enter Try.func10, Try.ntmps10
  go_wp2
  go_loopw [10] (fun i wr => ∃ k : Nat, k ≤ l.length ∧ i = .int .i64 k ∧ BRow wr w.heap.size (lowK l k) ∧ Below w.heap.size w wr) (fun i _ => l.length - (intOf i).toNat)
  case atStart => exact ⟨0, Nat.zero_le _, rfl, by rw [lowK_zero]; exact BRow.start w 5 l, bytes_below (Below.refl _ _) (Nat.le_refl _) _ _⟩
  case round =>
    obtain ⟨k, hk, rfl, hrow, hb⟩ := hrel
    by_cases hlt : k < l.length
    · have hc := (hrow k (by rw [lowK_length]; exact hlt)).1
      have hf := (hrow k (by rw [lowK_length]; exact hlt)).2
      rw [lowK_get l k hlt] at hc
      have hs := lowK_succ l k hlt
      have hcap : ∀ h1 : 65 ≤ (l[k].toNat : Int), ∀ h2 : (l[k].toNat : Int) ≤ 90, ((l[k].toNat : Int) + 97 - 65) = ((lowB l[k]).toNat : Int) := by
        intro h1 h2
        unfold lowB
        rw [if_pos (by omega)]
        simp; omega
      have HS := Lib.hid hs; have HC := Lib.hid hcap
      clear hs hcap
      go_wp2
      · go_roundw
        case rel =>
          refine ⟨k + 1, by omega, by go_num, ?_, hb.setCell (Nat.le_refl _) _⟩
          rw [HC.out (by assumption) (by assumption), HS.out]
          exact hrow.set k _ (by rw [lowK_length]; exact hlt)
        case measure => simp [intOf]; omega
      all_goals
        go_roundw
        case rel => exact ⟨k + 1, by omega, by go_num, by rw [lowK_same l k hlt (by omega)]; exact hrow, hb⟩
        case measure => simp [intOf]; omega
    · obtain rfl : k = l.length := by omega
      have hcv := hback wr l.length (grownCap w l.length 0 5) hrow
      rw [lowK_length, lowK_all l _ (Nat.le_refl _)] at hcv
      have hb' := Lib.hid hb
      clear hb hback
      go_wp2
      go_ret
      exact ⟨rfl, hb'.out⟩
def impl_Lower.f (a0 : ByteArray) : Option (ByteArray) := if a0.size ≤ 140737488355328 then some (B (lower a0.data.toList)) else none
theorem impl_Lower.calls (a0 : ByteArray) (r : ByteArray) (w : World) (h : impl_Lower.f a0 = some r) :
    Calls Try.prog 10 #[.string a0] w fun e w' => e = .returned (.string r) ∧ Below w.heap.size w w' := by
  unfold impl_Lower.f at h
  by_cases c : a0.size ≤ 140737488355328
  · rw [if_pos c] at h
    obtain ⟨l, rfl⟩ := exB a0
    obtain rfl := Option.some.inj h
    rw [B_data]
    exact lower_walk l w (by simpa using c)
  · rw [if_neg c] at h; cases h
end Go.Proofs.Ytglliobchdjmcaa.H
