/- Texts of this claim, joined: Lhx5, Lhx6. Conditions: each theorem's own. -/
import Derived.Test.YteldemgdcpmmfaaGreatDoorA02
import Derived.Test.YteldemgdcpmmfaaGreatDoorA05
import Derived.Test.YteldemgdcpmmfaaGreatDoorA06
import Derived.Test.YteldemgdcpmmfaaGreatDoorA07
namespace Go.Proofs.YteldemgdcpmmfaaGreatDoor.Lh
open Go.RowKit Go.Proofs.YteldemgdcpmmfaaGreatDoor.H Go.Proofs.YteldemgdcpmmfaaGreatDoorW.PrintWords Go.Proofs.YteldemgdcpmmfaaGreatDoorW.PrintLast Go.Proofs.YteldemgdcpmmfaaGreatDoorW.PrintMore Go.Proofs.YteldemgdcpmmfaaGreatDoor.Lp
attribute [local go_sem] max2_int min2_int max_two min_two max_three min_three max_four min_four   -- for this text's walks alone
set_option linter.unusedVariables false
set_option linter.unusedSimpArgs false
def spec_l2Ends.l0 : Nat → ByteArray → Bool → Int → Option (Bool)
 | 0, _, _, _ => none
 | k + 1, x4, x5, x6 => if x6 < (x4.size : Int) then (if x5 = true then (if 0 ≤ x6 then (if (bt x4 x6) ≥ 48 then (spec_l2Ends.l0 k x4 (decide ((bt x4 x6) ≤ 57)) (wrap64 (x6 + 1))) else (spec_l2Ends.l0 k x4 false (wrap64 (x6 + 1)))) else (none)) else (spec_l2Ends.l0 k x4 false (wrap64 (x6 + 1)))) else (if x5 = true then (some true) else (if (x4.size : Int) ≥ 2 then (if 0 < (x4.size : Int) then (if (bt x4 0) = 48 then (if 1 < (x4.size : Int) then (if (bt x4 1) = 120 then ((spec_l2Part.f k x4).bind fun t160 => (some (decide (t160 ≥ 0)))) else (if (bt x4 1) = 88 then ((spec_l2Part.f k x4).bind fun t161 => (some (decide (t161 ≥ 0)))) else (some false))) else (none)) else (some false)) else (none)) else (some false)))
def spec_l2Ends.f (k : Nat) (a0 : ByteArray) : Option (Bool) := (spec_l2Parts.f k a0).bind fun t156 => (if 0 ≤ (wrap64 ((t156.length : Int) - 1)) then (if (wrap64 ((t156.length : Int) - 1)) < (t156.length : Int) then (if (rdOf ByteArray.empty t156 (wrap64 ((t156.length : Int) - 1))).toList = ([] : List UInt8) then (some false) else (spec_l2Ends.l0 k (rdOf ByteArray.empty t156 (wrap64 ((t156.length : Int) - 1))) true 0)) else (none)) else (none))
theorem spec_l2Ends.mono_l : ∀ k, (∀ y0 y1 y2, LeO (spec_l2Ends.l0 k y0 y1 y2) (spec_l2Ends.l0 (k + 1) y0 y1 y2))
 | 0 => fun _ _ _ r h => by simp [spec_l2Ends.l0] at h
 | k + 1 => by
  have ih0 := spec_l2Ends.mono_l k
  ·intro y0 y1 y2
   unfold spec_l2Ends.l0
   repeat' first
   | (with_reducible exact ih0 _ _ _)
   | (with_reducible exact spec_l2Part.mono _ _)
   | (with_reducible exact spec_l2Parts.mono _ _)
   | (with_reducible exact LeO.refl _)
   | (with_reducible exact LeO.none _)
   | (with_reducible refine LeO.ite ?_ ?_)
   | (with_reducible refine LeO.bind ?_ (fun _ => ?_))
theorem spec_l2Ends.mono : ∀ a0 k, LeO (spec_l2Ends.f k a0) (spec_l2Ends.f (k + 1) a0) := by
 intro a0 k
 have ih0 := spec_l2Ends.mono_l k
 unfold spec_l2Ends.f
 repeat' first
   | (with_reducible exact ih0 _ _ _)
   | (with_reducible exact spec_l2Part.mono _ _)
   | (with_reducible exact spec_l2Parts.mono _ _)
   | (with_reducible exact LeO.refl _)
   | (with_reducible exact LeO.none _)
   | (with_reducible refine LeO.ite ?_ ?_)
   | (with_reducible refine LeO.bind ?_ (fun _ => ?_))
set_option maxHeartbeats 8000000 in
set_option maxRecDepth 100000 in
theorem spec_l2Ends.calls (k : Nat) (a0 : ByteArray) (r : Bool) (w : World) (h : spec_l2Ends.f k a0 = some r) :
  Calls Tryz.prog 112 #[.string a0] w fun e w' => e = .returned (.bool r) ∧ Below w.heap.size w w' := by
 have HB := Aside0.mk (Below.refl w.heap.size w)
 have H : ((spec_l2Parts.f k a0).bind fun t156 => (if 0 ≤ (wrap64 ((t156.length : Int) - 1)) then (if (wrap64 ((t156.length : Int) - 1)) < (t156.length : Int) then (if (rdOf ByteArray.empty t156 (wrap64 ((t156.length : Int) - 1))).toList = ([] : List UInt8) then (some false) else (spec_l2Ends.l0 k (rdOf ByteArray.empty t156 (wrap64 ((t156.length : Int) - 1))) true 0)) else (none)) else (none))) = some r := h
 clear h
 replace H := Option.bind_eq_some_iff.mp H
 obtain ⟨t156, A20, H⟩ := H
 replace H : (if 0 ≤ (wrap64 ((t156.length : Int) - 1)) then (if (wrap64 ((t156.length : Int) - 1)) < (t156.length : Int) then (if (rdOf ByteArray.empty t156 (wrap64 ((t156.length : Int) - 1))).toList = ([] : List UInt8) then (some false) else (spec_l2Ends.l0 k (rdOf ByteArray.empty t156 (wrap64 ((t156.length : Int) - 1))) true 0)) else (none)) else (none)) = some r := H
 have A2 := Aside0.mk A20
 clear A20
 obtain ⟨ji3, hji3⟩ : ∃ j_ : Int, (wrap64 ((t156.length : Int) - 1)) = j_ := ⟨_, rfl⟩
 replace H : (if 0 ≤ (ji3) then (if (ji3) < (t156.length : Int) then (if (rdOf ByteArray.empty t156 (ji3)).toList = ([] : List UInt8) then (some false) else (spec_l2Ends.l0 k (rdOf ByteArray.empty t156 (ji3)) true 0)) else (none)) else (none)) = some r := by first | (rw [hji3] at H; exact H) | (simp only [hji3] at H ⊢; exact H)
 (try rw [hji3] at A2)
 have hji3w : (IntKind.i64.wrap ((t156.length : Int) - 1)) = ji3 := (i64_w _).trans hji3
 by_cases c4 : 0 ≤ (ji3)
 ·rw [if_pos c4] at H
  have c4b0 := decide_eq_true c4
  clear c4
  by_cases c5 : (ji3) < (t156.length : Int)
  ·rw [if_pos c5] at H
   have c5b0 := decide_eq_true c5
   clear c5
   by_cases c6 : (rdOf ByteArray.empty t156 (ji3)).toList = ([] : List UInt8)
   ·rw [if_pos c6] at H
    have c6b0 := beq_iff_eq.mpr c6
    have c6b1 := bne_eq_false_iff_eq.mpr c6
    clear c6
    obtain rfl := Option.some.inj H
    go_enter Tryz.func112, Tryz.ntmps112
    go_wp2_with (first | ((with_reducible refine gate_callee (f := 142) rfl ?_); refine goesL_ (some 8) rfl rfl Tryz.func142 (by kernel_rfl) rfl #[.string a0] rfl aq ?_; (with_reducible refine (spec_l2Parts.calls k a0 t156 _ A2.out).mono ?_); rintro e w7 ⟨v157, rfl, ho0, hb⟩; refine ⟨_, rfl, ?_⟩; have n0_ := Aside0.mk (Kd.R_lower ho0 (below_size (bq))); have n1_ := Aside0.mk (below_step (bq) hb); clear HB; have HO158 := n0_; have HB := n1_; clear n0_ n1_; (try clear hb); (try clear hb2); (try clear hk); (try clear hi); (try clear ho0); obtain ⟨Ao8, co8, eo8⟩ := Kd.R_slice HO158.out; subst eo8; have p159 : 0 ≤ ((ji3) : Int) := of_decide_eq_true (by assumption); have q159 : (ji3) < (t156.length : Int) := of_decide_eq_true (by assumption); obtain ⟨ad159, e159, hx159_0⟩ := Kd.at_string (Kd.R_reads' HO158.out).2.2 (ji3) p159 q159; cases e159; replace p159 := eq_true p159; replace q159 := eq_true q159))
    go_ret
    exact ⟨by first | rfl | (simp [errW_none, errW_some] <;> rfl) | (simp only [← hji3]; first | rfl | (simp [errW_none, errW_some] <;> rfl)) | (simp [*, errW_none, errW_some] <;> rfl) | (simp [nen, een]; done), bq⟩
   ·rw [if_neg c6] at H
    have c6b0 := beq_eq_false_iff_ne.mpr c6
    have c6b1 := bne_iff_ne.mpr c6
    have H' := Aside0.mk H
    clear H
    go_enter Tryz.func112, Tryz.ntmps112
    go_wp2_with (first | ((with_reducible refine gate_callee (f := 142) rfl ?_); refine goesL_ (some 8) rfl rfl Tryz.func142 (by kernel_rfl) rfl #[.string a0] rfl aq ?_; (with_reducible refine (spec_l2Parts.calls k a0 t156 _ A2.out).mono ?_); rintro e w9 ⟨v157, rfl, ho0, hb⟩; refine ⟨_, rfl, ?_⟩; have n0_ := Aside0.mk (Kd.R_lower ho0 (below_size (bq))); have n1_ := Aside0.mk (below_step (bq) hb); clear HB; have HO158 := n0_; have HB := n1_; clear n0_ n1_; (try clear hb); (try clear hb2); (try clear hk); (try clear hi); (try clear ho0); obtain ⟨Ao10, co10, eo10⟩ := Kd.R_slice HO158.out; subst eo10; have p159 : 0 ≤ ((ji3) : Int) := of_decide_eq_true (by assumption); have q159 : (ji3) < (t156.length : Int) := of_decide_eq_true (by assumption); obtain ⟨ad159, e159, hx159_0⟩ := Kd.at_string (Kd.R_reads' HO158.out).2.2 (ji3) p159 q159; cases e159; replace p159 := eq_true p159; replace q159 := eq_true q159))
    go_loopg [5, 6] k (fun kq v5 v6 w' => ∃ (x5_1 : Bool) (x6_1 : Int), v5 = .bool x5_1 ∧ v6 = .int .i64 x6_1 ∧ Aside0 (spec_l2Ends.l0 kq (rdOf ByteArray.empty t156 (ji3)) x5_1 x6_1 = some r) ∧ Aside0 (kq ≤ k) ∧ Aside0 (Below w.heap.size w w'))
    case atStart => exact ⟨(true), (0), vq, vq, H', ⟨Nat.le_refl _⟩, ⟨bq⟩⟩
    case round =>
     clear H'
     obtain ⟨x5_1, x6_1, rfl, rfl, HA, HK1, HB⟩ := hrel
     cases gk with
     | zero => exact absurd HA.out (by simp [spec_l2Ends.l0])
     | succ k1 =>
      have H := HA.out
      clear HA
      simp only [spec_l2Ends.l0] at H
      by_cases c11 : x6_1 < ((rdOf ByteArray.empty t156 (ji3)).size : Int)
      ·rw [if_pos c11] at H
       have c11b0 := decide_eq_true c11
       clear c11
       by_cases c12 : x5_1 = true
       ·subst c12
        have H1 : (if 0 ≤ x6_1 then (if (bt (rdOf ByteArray.empty t156 (ji3)) x6_1) ≥ 48 then (spec_l2Ends.l0 k1 (rdOf ByteArray.empty t156 (ji3)) (decide ((bt (rdOf ByteArray.empty t156 (ji3)) x6_1) ≤ 57)) (wrap64 (x6_1 + 1))) else (spec_l2Ends.l0 k1 (rdOf ByteArray.empty t156 (ji3)) false (wrap64 (x6_1 + 1)))) else (none)) = some r := by rw [if_pos rfl] at H; exact H
        clear H
        have H := H1
        clear H1
        by_cases c13 : 0 ≤ x6_1
        ·rw [if_pos c13] at H
         have c13b0 := decide_eq_true c13
         clear c13
         by_cases c15 : (bt (rdOf ByteArray.empty t156 (ji3)) x6_1) ≥ 48
         ·rw [if_pos c15] at H
          have c15b0 := decide_eq_true c15
          clear c15
          have H' := Aside0.mk H
          clear H
          have p14 : 0 ≤ (x6_1 : Int) := of_decide_eq_true (by assumption)
          have q14 : x6_1 < ((rdOf ByteArray.empty t156 (ji3)).size : Int) := of_decide_eq_true (by assumption)
          have hx14 := bt_at (rdOf ByteArray.empty t156 (ji3)) x6_1
          replace p14 := eq_true p14
          replace q14 := eq_true q14
          have p16 : 0 ≤ (x6_1 : Int) := of_decide_eq_true (by assumption)
          have q16 : x6_1 < ((rdOf ByteArray.empty t156 (ji3)).size : Int) := of_decide_eq_true (by assumption)
          have hx16 := bt_at (rdOf ByteArray.empty t156 (ji3)) x6_1
          replace p16 := eq_true p16
          replace q16 := eq_true q16
          go_wp2
          go_roundg k1
          case measure => have := HK1.out; omega
          case rel => exact ⟨(decide ((bt (rdOf ByteArray.empty t156 (ji3)) x6_1) ≤ 57)), (wrap64 (x6_1 + 1)), (by first | rfl | (simp; done) | (simp only [← hji3] <;> (first | rfl | simp)) | (simp [*]; done) | (simp [nen, een]; done)), vq, H', ⟨by have := HK1.out; omega⟩, ⟨bq⟩⟩
         ·rw [if_neg c15] at H
          have c15b0 := decide_eq_false c15
          clear c15
          have H' := Aside0.mk H
          clear H
          have p14 : 0 ≤ (x6_1 : Int) := of_decide_eq_true (by assumption)
          have q14 : x6_1 < ((rdOf ByteArray.empty t156 (ji3)).size : Int) := of_decide_eq_true (by assumption)
          have hx14 := bt_at (rdOf ByteArray.empty t156 (ji3)) x6_1
          replace p14 := eq_true p14
          replace q14 := eq_true q14
          go_wp2
          go_roundg k1
          case measure => have := HK1.out; omega
          case rel => exact ⟨(false), (wrap64 (x6_1 + 1)), vq, vq, H', ⟨by have := HK1.out; omega⟩, ⟨bq⟩⟩
        ·rw [if_neg c13] at H
         exact absurd H (by simp)
       ·replace c12 := Bool.eq_false_iff.mpr c12
        subst c12
        have H1 : (spec_l2Ends.l0 k1 (rdOf ByteArray.empty t156 (ji3)) false (wrap64 (x6_1 + 1))) = some r := by rw [if_neg (show ¬ (false = true) by decide)] at H; exact H
        clear H
        have H := H1
        clear H1
        have H' := Aside0.mk H
        clear H
        go_wp2
        go_roundg k1
        case measure => have := HK1.out; omega
        case rel => exact ⟨(false), (wrap64 (x6_1 + 1)), vq, vq, H', ⟨by have := HK1.out; omega⟩, ⟨bq⟩⟩
      ·rw [if_neg c11] at H
       have c11b0 := decide_eq_false c11
       clear c11
       by_cases c17 : x5_1 = true
       ·subst c17
        have H1 : (some true) = some r := by rw [if_pos rfl] at H; exact H
        clear H
        have H := H1
        clear H1
        obtain rfl := Option.some.inj H
        go_wp2
        go_ret
        exact ⟨by first | rfl | (simp [errW_none, errW_some] <;> rfl) | (simp only [← hji3]; first | rfl | (simp [errW_none, errW_some] <;> rfl)) | (simp [*, errW_none, errW_some] <;> rfl) | (simp [nen, een]; done), bq⟩
       ·replace c17 := Bool.eq_false_iff.mpr c17
        subst c17
        have H1 : (if ((rdOf ByteArray.empty t156 (ji3)).size : Int) ≥ 2 then (if 0 < ((rdOf ByteArray.empty t156 (ji3)).size : Int) then (if (bt (rdOf ByteArray.empty t156 (ji3)) 0) = 48 then (if 1 < ((rdOf ByteArray.empty t156 (ji3)).size : Int) then (if (bt (rdOf ByteArray.empty t156 (ji3)) 1) = 120 then ((spec_l2Part.f k1 (rdOf ByteArray.empty t156 (ji3))).bind fun t160 => (some (decide (t160 ≥ 0)))) else (if (bt (rdOf ByteArray.empty t156 (ji3)) 1) = 88 then ((spec_l2Part.f k1 (rdOf ByteArray.empty t156 (ji3))).bind fun t161 => (some (decide (t161 ≥ 0)))) else (some false))) else (none)) else (some false)) else (none)) else (some false)) = some r := by rw [if_neg (show ¬ (false = true) by decide)] at H; exact H
        clear H
        have H := H1
        clear H1
        by_cases c18 : ((rdOf ByteArray.empty t156 (ji3)).size : Int) ≥ 2
        ·rw [if_pos c18] at H
         have c18b0 := decide_eq_true c18
         have c18b1 : decide (2 ≤ (rdOf ByteArray.empty t156 (ji3)).size) = true := decide_eq_true (by omega)
         clear c18
         by_cases c19 : 0 < ((rdOf ByteArray.empty t156 (ji3)).size : Int)
         ·rw [if_pos c19] at H
          have c19b0 := decide_eq_true c19
          have c19b1 : decide (0 < (rdOf ByteArray.empty t156 (ji3)).size) = true := decide_eq_true (by omega)
          clear c19
          by_cases c21 : (bt (rdOf ByteArray.empty t156 (ji3)) 0) = 48
          ·rw [if_pos c21] at H
           have c21b0 := beq_iff_eq.mpr c21
           have c21b1 := bne_eq_false_iff_eq.mpr c21
           clear c21
           by_cases c22 : 1 < ((rdOf ByteArray.empty t156 (ji3)).size : Int)
           ·rw [if_pos c22] at H
            have c22b0 := decide_eq_true c22
            have c22b1 : decide (1 < (rdOf ByteArray.empty t156 (ji3)).size) = true := decide_eq_true (by omega)
            clear c22
            by_cases c24 : (bt (rdOf ByteArray.empty t156 (ji3)) 1) = 120
            ·rw [if_pos c24] at H
             have c24b0 := beq_iff_eq.mpr c24
             have c24b1 := bne_eq_false_iff_eq.mpr c24
             clear c24
             replace H := Option.bind_eq_some_iff.mp H
             obtain ⟨t160, A250, H⟩ := H
             replace H : (some (decide (t160 ≥ 0))) = some r := H
             have A25 := Aside0.mk A250
             clear A250
             obtain rfl := Option.some.inj H
             have p20 : 0 ≤ (0 : Int) := (by omega)
             have q20 : 0 < (rdOf ByteArray.empty t156 (ji3)).size := (by have : (0 : Int) < ((rdOf ByteArray.empty t156 (ji3)).size : Int) := of_decide_eq_true (by assumption); omega)
             have hx20 : ∀ h : 0 < (rdOf ByteArray.empty t156 (ji3)).size, (((rdOf ByteArray.empty t156 (ji3))[0]'h).toNat : Int) = bt (rdOf ByteArray.empty t156 (ji3)) 0 := bt_at (rdOf ByteArray.empty t156 (ji3)) 0
             clear p20
             have qi20 : (0 < ((rdOf ByteArray.empty t156 (ji3)).size : Int)) = True := eq_true (of_decide_eq_true (by assumption))
             replace q20 := eq_true q20
             have p23 : 0 ≤ (1 : Int) := (by omega)
             have q23 : 1 < (rdOf ByteArray.empty t156 (ji3)).size := (by have : (1 : Int) < ((rdOf ByteArray.empty t156 (ji3)).size : Int) := of_decide_eq_true (by assumption); omega)
             have hx23 : ∀ h : 1 < (rdOf ByteArray.empty t156 (ji3)).size, (((rdOf ByteArray.empty t156 (ji3))[1]'h).toNat : Int) = bt (rdOf ByteArray.empty t156 (ji3)) 1 := bt_at (rdOf ByteArray.empty t156 (ji3)) 1
             clear p23
             have qi23 : (1 < ((rdOf ByteArray.empty t156 (ji3)).size : Int)) = True := eq_true (of_decide_eq_true (by assumption))
             replace q23 := eq_true q23
             go_wp2_with (first | (go_at_call 143; (with_reducible refine (spec_l2Part.calls k1 (rdOf ByteArray.empty t156 (ji3)) t160 _ A25.out).mono ?_); rintro e w' ⟨rfl, ⟨nd, rfl⟩⟩))
             go_ret
             exact ⟨by first | rfl | (simp [errW_none, errW_some] <;> rfl) | (simp only [← hji3]; first | rfl | (simp [errW_none, errW_some] <;> rfl)) | (simp [*, errW_none, errW_some] <;> rfl) | (simp [nen, een]; done), bq⟩
            ·rw [if_neg c24] at H
             have c24b0 := beq_eq_false_iff_ne.mpr c24
             have c24b1 := bne_iff_ne.mpr c24
             by_cases c27 : (bt (rdOf ByteArray.empty t156 (ji3)) 1) = 88
             ·rw [if_pos c27] at H
              have c27b0 := beq_iff_eq.mpr c27
              have c27b1 := bne_eq_false_iff_eq.mpr c27
              clear c27
              replace H := Option.bind_eq_some_iff.mp H
              obtain ⟨t161, A280, H⟩ := H
              replace H : (some (decide (t161 ≥ 0))) = some r := H
              have A28 := Aside0.mk A280
              clear A280
              obtain rfl := Option.some.inj H
              have p20 : 0 ≤ (0 : Int) := (by omega)
              have q20 : 0 < (rdOf ByteArray.empty t156 (ji3)).size := (by have : (0 : Int) < ((rdOf ByteArray.empty t156 (ji3)).size : Int) := of_decide_eq_true (by assumption); omega)
              have hx20 : ∀ h : 0 < (rdOf ByteArray.empty t156 (ji3)).size, (((rdOf ByteArray.empty t156 (ji3))[0]'h).toNat : Int) = bt (rdOf ByteArray.empty t156 (ji3)) 0 := bt_at (rdOf ByteArray.empty t156 (ji3)) 0
              clear p20
              have qi20 : (0 < ((rdOf ByteArray.empty t156 (ji3)).size : Int)) = True := eq_true (of_decide_eq_true (by assumption))
              replace q20 := eq_true q20
              have p23 : 0 ≤ (1 : Int) := (by omega)
              have q23 : 1 < (rdOf ByteArray.empty t156 (ji3)).size := (by have : (1 : Int) < ((rdOf ByteArray.empty t156 (ji3)).size : Int) := of_decide_eq_true (by assumption); omega)
              have hx23 : ∀ h : 1 < (rdOf ByteArray.empty t156 (ji3)).size, (((rdOf ByteArray.empty t156 (ji3))[1]'h).toNat : Int) = bt (rdOf ByteArray.empty t156 (ji3)) 1 := bt_at (rdOf ByteArray.empty t156 (ji3)) 1
              clear p23
              have qi23 : (1 < ((rdOf ByteArray.empty t156 (ji3)).size : Int)) = True := eq_true (of_decide_eq_true (by assumption))
              replace q23 := eq_true q23
              have p26 : 0 ≤ (1 : Int) := (by omega)
              have q26 : 1 < (rdOf ByteArray.empty t156 (ji3)).size := (by have : (1 : Int) < ((rdOf ByteArray.empty t156 (ji3)).size : Int) := of_decide_eq_true (by assumption); omega)
              have hx26 : ∀ h : 1 < (rdOf ByteArray.empty t156 (ji3)).size, (((rdOf ByteArray.empty t156 (ji3))[1]'h).toNat : Int) = bt (rdOf ByteArray.empty t156 (ji3)) 1 := bt_at (rdOf ByteArray.empty t156 (ji3)) 1
              clear p26
              have qi26 : (1 < ((rdOf ByteArray.empty t156 (ji3)).size : Int)) = True := eq_true (of_decide_eq_true (by assumption))
              replace q26 := eq_true q26
              go_wp2_with (first | (go_at_call 143; (with_reducible refine (spec_l2Part.calls k1 (rdOf ByteArray.empty t156 (ji3)) t161 _ A28.out).mono ?_); rintro e w' ⟨rfl, ⟨nd, rfl⟩⟩))
              go_ret
              exact ⟨by first | rfl | (simp [errW_none, errW_some] <;> rfl) | (simp only [← hji3]; first | rfl | (simp [errW_none, errW_some] <;> rfl)) | (simp [*, errW_none, errW_some] <;> rfl) | (simp [nen, een]; done), bq⟩
             ·rw [if_neg c27] at H
              have c27b0 := beq_eq_false_iff_ne.mpr c27
              have c27b1 := bne_iff_ne.mpr c27
              obtain rfl := Option.some.inj H
              have p20 : 0 ≤ (0 : Int) := (by omega)
              have q20 : 0 < (rdOf ByteArray.empty t156 (ji3)).size := (by have : (0 : Int) < ((rdOf ByteArray.empty t156 (ji3)).size : Int) := of_decide_eq_true (by assumption); omega)
              have hx20 : ∀ h : 0 < (rdOf ByteArray.empty t156 (ji3)).size, (((rdOf ByteArray.empty t156 (ji3))[0]'h).toNat : Int) = bt (rdOf ByteArray.empty t156 (ji3)) 0 := bt_at (rdOf ByteArray.empty t156 (ji3)) 0
              clear p20
              have qi20 : (0 < ((rdOf ByteArray.empty t156 (ji3)).size : Int)) = True := eq_true (of_decide_eq_true (by assumption))
              replace q20 := eq_true q20
              have p23 : 0 ≤ (1 : Int) := (by omega)
              have q23 : 1 < (rdOf ByteArray.empty t156 (ji3)).size := (by have : (1 : Int) < ((rdOf ByteArray.empty t156 (ji3)).size : Int) := of_decide_eq_true (by assumption); omega)
              have hx23 : ∀ h : 1 < (rdOf ByteArray.empty t156 (ji3)).size, (((rdOf ByteArray.empty t156 (ji3))[1]'h).toNat : Int) = bt (rdOf ByteArray.empty t156 (ji3)) 1 := bt_at (rdOf ByteArray.empty t156 (ji3)) 1
              clear p23
              have qi23 : (1 < ((rdOf ByteArray.empty t156 (ji3)).size : Int)) = True := eq_true (of_decide_eq_true (by assumption))
              replace q23 := eq_true q23
              have p26 : 0 ≤ (1 : Int) := (by omega)
              have q26 : 1 < (rdOf ByteArray.empty t156 (ji3)).size := (by have : (1 : Int) < ((rdOf ByteArray.empty t156 (ji3)).size : Int) := of_decide_eq_true (by assumption); omega)
              have hx26 : ∀ h : 1 < (rdOf ByteArray.empty t156 (ji3)).size, (((rdOf ByteArray.empty t156 (ji3))[1]'h).toNat : Int) = bt (rdOf ByteArray.empty t156 (ji3)) 1 := bt_at (rdOf ByteArray.empty t156 (ji3)) 1
              clear p26
              have qi26 : (1 < ((rdOf ByteArray.empty t156 (ji3)).size : Int)) = True := eq_true (of_decide_eq_true (by assumption))
              replace q26 := eq_true q26
              go_wp2
              go_ret
              exact ⟨by first | rfl | (simp [errW_none, errW_some] <;> rfl) | (simp only [← hji3]; first | rfl | (simp [errW_none, errW_some] <;> rfl)) | (simp [*, errW_none, errW_some] <;> rfl) | (simp [nen, een]; done), bq⟩
           ·rw [if_neg c22] at H
            exact absurd H (by simp)
          ·rw [if_neg c21] at H
           have c21b0 := beq_eq_false_iff_ne.mpr c21
           have c21b1 := bne_iff_ne.mpr c21
           obtain rfl := Option.some.inj H
           have p20 : 0 ≤ (0 : Int) := (by omega)
           have q20 : 0 < (rdOf ByteArray.empty t156 (ji3)).size := (by have : (0 : Int) < ((rdOf ByteArray.empty t156 (ji3)).size : Int) := of_decide_eq_true (by assumption); omega)
           have hx20 : ∀ h : 0 < (rdOf ByteArray.empty t156 (ji3)).size, (((rdOf ByteArray.empty t156 (ji3))[0]'h).toNat : Int) = bt (rdOf ByteArray.empty t156 (ji3)) 0 := bt_at (rdOf ByteArray.empty t156 (ji3)) 0
           clear p20
           have qi20 : (0 < ((rdOf ByteArray.empty t156 (ji3)).size : Int)) = True := eq_true (of_decide_eq_true (by assumption))
           replace q20 := eq_true q20
           go_wp2
           go_ret
           exact ⟨by first | rfl | (simp [errW_none, errW_some] <;> rfl) | (simp only [← hji3]; first | rfl | (simp [errW_none, errW_some] <;> rfl)) | (simp [*, errW_none, errW_some] <;> rfl) | (simp [nen, een]; done), bq⟩
         ·rw [if_neg c19] at H
          exact absurd H (by simp)
        ·rw [if_neg c18] at H
         have c18b0 := decide_eq_false c18
         have c18b1 : decide (2 ≤ (rdOf ByteArray.empty t156 (ji3)).size) = false := decide_eq_false (by omega)
         clear c18
         obtain rfl := Option.some.inj H
         go_wp2
         go_ret
         exact ⟨by first | rfl | (simp [errW_none, errW_some] <;> rfl) | (simp only [← hji3]; first | rfl | (simp [errW_none, errW_some] <;> rfl)) | (simp [*, errW_none, errW_some] <;> rfl) | (simp [nen, een]; done), bq⟩
  ·rw [if_neg c5] at H
   exact absurd H (by simp)
 ·rw [if_neg c4] at H
  exact absurd H (by simp)
end Go.Proofs.YteldemgdcpmmfaaGreatDoor.Lh
namespace Go.Proofs.YteldemgdcpmmfaaGreatDoor.Lh
open Go.RowKit Go.Proofs.YteldemgdcpmmfaaGreatDoor.H Go.Proofs.YteldemgdcpmmfaaGreatDoorW.PrintWords Go.Proofs.YteldemgdcpmmfaaGreatDoorW.PrintLast Go.Proofs.YteldemgdcpmmfaaGreatDoorW.PrintMore Go.Proofs.YteldemgdcpmmfaaGreatDoor.Lp
attribute [local go_sem] max2_int min2_int max_two min_two max_three min_three max_four min_four   -- for this text's walks alone
set_option linter.unusedVariables false
set_option linter.unusedSimpArgs false
end Go.Proofs.YteldemgdcpmmfaaGreatDoor.Lh
