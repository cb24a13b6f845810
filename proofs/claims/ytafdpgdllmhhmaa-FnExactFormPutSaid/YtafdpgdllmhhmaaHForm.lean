/- impl.form: the call comes to the text written for form data, if that takes at most 2^47 bytes. -/
import Derived.Test.YtafdpgdllmhhmaaHBytes
import Derived.Test.YtafdpgdllmhhmaaHBuilder
import Derived.Test.YtafdpgdllmhhmaaHPct
import Derived.Tactics
import Derived.KernelRfl
import Derived.RowKit3
import Derived.Deep.LoopGhost
import Derived.Laws.Slices
import Derived.Laws.Rows
import Derived.RowKit
import Derived.Outline
import Derived.Lib.Hide
namespace Go.Proofs.Ytafdpgdllmhhmaa.H
open Go.RowKit Go.Proofs.YtafdpgdllmhhmaaW.PrintWords Go.Proofs.Ytafdpgdllmhhmaa.Base
set_option maxHeartbeats 2000000 in
set_option maxRecDepth 100000 in
theorem form_walk (l : Bs) (w : World) (hl : (formB l).length ≤ 140737488355328) :
    Calls Try.prog 26 #[.string (B l)] w fun e w' => e = .returned (.string (B (formB l))) ∧ Below w.heap.size w w' := by
  have hb0 : Lib.IsBuilder 37 5 w.heap.size w.heap.size (Lib.byteCells []) (w.alloc (.cells #[.pointer none, .slice none 0 0] 37)) := Lib.fresh_isBuilder 37 5 w
  have hw0 : Below w.heap.size w (w.alloc (.cells #[.pointer none, .slice none 0 0] 37)) := (Below.refl _ w).alloc (Nat.le_refl _) _
  have hln := (formB_len l).1
  go_enter Try.func26, Try.ntmps26
  go_wp2
  go_loopw [8] (fun i wr => ∃ k : Nat, k ≤ l.length ∧ i = .int .i64 k ∧ Lib.IsBuilder 37 5 w.heap.size w.heap.size (Lib.byteCells (formB (l.take k))) wr ∧ Below w.heap.size w wr) (fun i _ => l.length - (intOf i).toNat)
  case atStart => exact ⟨0, by omega, rfl, hb0, hw0⟩
  case round =>
    obtain ⟨k, hk, rfl, hbld, hb⟩ := hrel
    by_cases hlt : k < l.length
    · have hst := formB_take l k hlt
      have hmx : (formB (l.take k)).length + (formC l[k]).length ≤ 140737488355328 := by
        have := formB_mono l (k + 1); rw [hst, List.length_append] at this; omega
      have HS := Lib.hid hst
      clear hst
      go_wp2_with fail
      refine (isLetter_walk l[k] _).mono ?_
      rintro e w1 ⟨rfl, hd1⟩
      have hbld1 := drawn_builder hbld hd1
      have hb1 : Below w.heap.size w w1 := hb.trans (⟨hd1.below.os, hd1.below.tape, hd1.below.output, hd1.below.size, fun i hi => hd1.below.block i (Nat.lt_of_lt_of_le hi hb.size)⟩)
      have hwr1 : w.heap.size ≤ w1.heap.size := hb1.size
      clear hbld hb hd1
      have hC : formC l[k] = if (isLet l[k] || isDig l[k] || formS.contains l[k]) = true then [l[k]] else if l[k] = 32 then [43] else pct l[k] := rfl
      by_cases cL : isLet l[k] = true
      · rw [cL] at hC ⊢
        simp only [Bool.true_or, if_true] at hC
        rw [hC] at hmx
        have HC := Lib.hid hC
        clear hC cL
        go_wp2_with (go_at_call 16; refine (Builder_WriteByte w.heap.size w.heap.size _ _ _ hbld1 (by simpa [cells_len] using hmx) hwr1).mono ?_; rintro e w2 ⟨rfl, h1, hb2⟩)
        go_roundw
        case rel => exact ⟨k + 1, by omega, by go_num, Or.inr (by rw [HS.out, HC.out, cells_app, cells_one]; exact h1), hb1.trans hb2⟩
        case measure => simp [intOf]; omega
      · have cL' : isLet l[k] = false := by simpa using cL
        rw [cL'] at hC ⊢
        clear cL cL'
        go_wp2_with fail
        refine (isDigit_walk l[k] _).mono ?_
        rintro e w2 ⟨rfl, hd1⟩
        have hbld2 := drawn_builder hbld1 hd1
        have hb2 : Below w.heap.size w w2 := hb1.trans (⟨hd1.below.os, hd1.below.tape, hd1.below.output, hd1.below.size, fun i hi => hd1.below.block i (Nat.lt_of_lt_of_le hi hb1.size)⟩)
        clear hbld1 hb1 hd1 hwr1
        have hbld1 := hbld2
        have hb1 := hb2
        have hwr1 : w.heap.size ≤ w2.heap.size := hb1.size
        clear hbld2 hb2
        by_cases cD : isDig l[k] = true
        · rw [cD] at hC ⊢
          simp only [Bool.false_or, Bool.true_or, if_true] at hC
          rw [hC] at hmx
          have HC := Lib.hid hC
          clear hC cD
          go_wp2_with (go_at_call 16; refine (Builder_WriteByte w.heap.size w.heap.size _ _ _ hbld1 (by simpa [cells_len] using hmx) hwr1).mono ?_; rintro e w3 ⟨rfl, h1, hb2⟩)
          go_roundw
          case rel => exact ⟨k + 1, by omega, by go_num, Or.inr (by rw [HS.out, HC.out, cells_app, cells_one]; exact h1), hb1.trans hb2⟩
          case measure => simp [intOf]; omega
        · have cD' : isDig l[k] = false := by simpa using cD
          rw [cD'] at hC ⊢
          clear cD cD'
          go_wp2_with fail
          refine (indexByte_walk formS l[k] _).mono ?_
          rintro e w3 ⟨rfl, rfl⟩
          by_cases cS : formS.contains l[k] = true
          · have hx := contains_yes cS
            rw [cS] at hC
            simp only [Bool.false_or, if_true] at hC
            rw [hC] at hmx
            have HC := Lib.hid hC
            clear hC cS
            go_wp2_with (go_at_call 16; refine (Builder_WriteByte w.heap.size w.heap.size _ _ _ hbld1 (by simpa [cells_len] using hmx) hwr1).mono ?_; rintro e w4 ⟨rfl, h1, hb2⟩)
            go_roundw
            case rel => exact ⟨k + 1, by omega, by go_num, Or.inr (by rw [HS.out, HC.out, cells_app, cells_one]; exact h1), hb1.trans hb2⟩
            case measure => simp [intOf]; omega
          · have cS' : formS.contains l[k] = false := by simpa using cS
            have hx := contains_no cS'
            rw [cS'] at hC
            simp only [Bool.false_or, Bool.false_eq_true, if_false] at hC
            clear cS cS'
            by_cases c3 : l[k] = 32
            · have c3b : (((l[k].toNat : Nat) : Int) == 32) = true := by rw [c3]; rfl
              rw [if_pos c3] at hC
              rw [hC] at hmx
              have HC := Lib.hid hC
              clear hC c3
              go_wp2_with (go_at_call 16; refine (Builder_WriteByte w.heap.size w.heap.size _ 43 _ hbld1 (by simpa [cells_len] using hmx) hwr1).mono ?_; rintro e w4 ⟨rfl, h1, hb2⟩)
              go_roundw
              case rel => exact ⟨k + 1, by omega, by go_num, Or.inr (by rw [HS.out, HC.out, cells_app, cells_one]; exact h1), hb1.trans hb2⟩
              case measure => simp [intOf]; omega
            · have c3b : (((l[k].toNat : Nat) : Int) == 32) = false := by
                rw [beq_eq_false_iff_ne]; intro e; exact c3 ((byte_eq _ 32 (by decide)).1 e)
              rw [if_neg c3] at hC
              rw [hC] at hmx
              have HC := Lib.hid hC
              clear hC c3
              go_wp2_with fail
              refine (percent_walk l[k] _).mono ?_
              rintro e w4 ⟨rfl, hb4⟩
              have hbld4 := below_builder hbld1 hb4
              have hb5 : Below w.heap.size w w4 := below_then hb1 hwr1 hb4
              have hwr4 : w.heap.size ≤ w4.heap.size := hb5.size
              clear hbld1 hb1 hb4 hwr1
              go_wp2_with (go_at_call 37; refine (Builder_WriteString w.heap.size w.heap.size _ (B (pct l[k])) _ hbld4 (by simpa [cells_len] using hmx) hwr4).mono ?_; rintro e w5 ⟨rfl, h1, hb6⟩)
              go_roundw
              case rel => exact ⟨k + 1, by omega, by go_num, Or.inr (by rw [HS.out, HC.out, cells_app]; exact h1), hb5.trans hb6⟩
              case measure => simp [intOf]; omega
    · obtain rfl : k = l.length := by omega
      have hwr : w.heap.size ≤ wr.heap.size := hb.size
      rw [List.take_of_length_le (Nat.le_refl _)] at hbld
      go_wp2_with (go_at_call 17; refine (Try.Builder_String_any w.heap.size w.heap.size (formB l) wr hbld hwr).mono ?_; rintro e w1 ⟨rfl, hb1⟩)
      go_ret
      exact ⟨rfl, hb.trans hb1⟩
def impl_form.f (a0 : ByteArray) : Option (ByteArray) := if (formB a0.data.toList).length ≤ 140737488355328 then some (B (formB a0.data.toList)) else none
theorem impl_form.calls (a0 : ByteArray) (r : ByteArray) (w : World) (h : impl_form.f a0 = some r) :
    Calls Try.prog 26 #[.string a0] w fun e w' => e = .returned (.string r) ∧ Below w.heap.size w w' := by
  obtain ⟨l, rfl⟩ := exB a0
  unfold impl_form.f at h
  rw [B_data] at h
  by_cases c : (formB l).length ≤ 140737488355328
  · rw [if_pos c] at h
    obtain rfl := Option.some.inj h
    exact form_walk l w c
  · rw [if_neg c] at h; cases h
end Go.Proofs.Ytafdpgdllmhhmaa.H
