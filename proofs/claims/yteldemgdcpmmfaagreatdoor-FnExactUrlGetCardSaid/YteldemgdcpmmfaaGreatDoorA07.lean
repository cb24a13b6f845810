/- Texts of this claim, joined: Lhx3, Lhx4. Conditions: each theorem's own. -/
import Derived.Test.YteldemgdcpmmfaaGreatDoorA02
import Derived.Test.YteldemgdcpmmfaaGreatDoorA05
import Derived.Test.YteldemgdcpmmfaaGreatDoorA06
namespace Go.Proofs.YteldemgdcpmmfaaGreatDoor.Lh
open Go.RowKit Go.Proofs.YteldemgdcpmmfaaGreatDoor.H Go.Proofs.YteldemgdcpmmfaaGreatDoorW.PrintWords Go.Proofs.YteldemgdcpmmfaaGreatDoorW.PrintLast Go.Proofs.YteldemgdcpmmfaaGreatDoorW.PrintMore Go.Proofs.YteldemgdcpmmfaaGreatDoor.Lp
attribute [local go_sem] max2_int min2_int max_two min_two max_three min_three max_four min_four   -- for this text's walks alone
set_option linter.unusedVariables false
set_option linter.unusedSimpArgs false
mutual
def spec_l2Name.l0 : Nat → ByteArray → List ByteArray → Int → Option (Bool)
 | 0, _, _, _ => none
 | k + 1, x0, x3, x4 => if x4 < (x3.length : Int) then (if 0 ≤ x4 then (if (rdOf ByteArray.empty x3 x4).toList = ([] : List UInt8) then (if x4 < (wrap64 ((x3.length : Int) - 1)) then (spec_l2Name.j1 k x0 x3 x4 true) else (spec_l2Name.j1 k x0 x3 x4 (x4 == 0))) else (spec_l2Name.j1 k x0 x3 x4 false)) else (none)) else ((spec_l1In.f (x0.size : Int) 1 60).bind fun t141 => (some t141))
def spec_l2Name.j1 : Nat → ByteArray → List ByteArray → Int → Bool → Option (Bool)
 | 0, _, _, _, _ => none
 | k + 1, x0, x3, x4, x30 => if x30 = true then (some false) else (spec_l2Name.l1 k x0 x3 x4 0)
def spec_l2Name.l1 : Nat → ByteArray → List ByteArray → Int → Int → Option (Bool)
 | 0, _, _, _, _ => none
 | k + 1, x0, x3, x4, x5 => if 0 ≤ x4 then (if x4 < (x3.length : Int) then (if x5 < ((rdOf ByteArray.empty x3 x4).size : Int) then (if 0 ≤ x5 then (if (bt (rdOf ByteArray.empty x3 x4) x5) < 97 then (if (bt (rdOf ByteArray.empty x3 x4) x5) < 48 then (if (bt (rdOf ByteArray.empty x3 x4) x5) = 45 then (spec_l2Name.l1 k x0 x3 x4 (wrap64 (x5 + 1))) else (if (bt (rdOf ByteArray.empty x3 x4) x5) = 95 then (spec_l2Name.l1 k x0 x3 x4 (wrap64 (x5 + 1))) else (some false))) else (if (bt (rdOf ByteArray.empty x3 x4) x5) > 57 then (if (bt (rdOf ByteArray.empty x3 x4) x5) = 45 then (spec_l2Name.l1 k x0 x3 x4 (wrap64 (x5 + 1))) else (if (bt (rdOf ByteArray.empty x3 x4) x5) = 95 then (spec_l2Name.l1 k x0 x3 x4 (wrap64 (x5 + 1))) else (some false))) else (spec_l2Name.l1 k x0 x3 x4 (wrap64 (x5 + 1))))) else (if (bt (rdOf ByteArray.empty x3 x4) x5) > 122 then (if (bt (rdOf ByteArray.empty x3 x4) x5) < 48 then (if (bt (rdOf ByteArray.empty x3 x4) x5) = 45 then (spec_l2Name.l1 k x0 x3 x4 (wrap64 (x5 + 1))) else (if (bt (rdOf ByteArray.empty x3 x4) x5) = 95 then (spec_l2Name.l1 k x0 x3 x4 (wrap64 (x5 + 1))) else (some false))) else (if (bt (rdOf ByteArray.empty x3 x4) x5) > 57 then (if (bt (rdOf ByteArray.empty x3 x4) x5) = 45 then (spec_l2Name.l1 k x0 x3 x4 (wrap64 (x5 + 1))) else (if (bt (rdOf ByteArray.empty x3 x4) x5) = 95 then (spec_l2Name.l1 k x0 x3 x4 (wrap64 (x5 + 1))) else (some false))) else (spec_l2Name.l1 k x0 x3 x4 (wrap64 (x5 + 1))))) else (spec_l2Name.l1 k x0 x3 x4 (wrap64 (x5 + 1))))) else (none)) else (spec_l2Name.l0 k x0 x3 (wrap64 (x4 + 1)))) else (none)) else (none)
end
def spec_l2Name.f (k : Nat) (a0 : ByteArray) : Option (Bool) := (spec_l1Cut.f k a0 46).bind fun t138 => (spec_l2Name.l0 k a0 t138 0)
theorem spec_l2Name.mono_l : ∀ k, (∀ y0 y1 y2, LeO (spec_l2Name.l0 k y0 y1 y2) (spec_l2Name.l0 (k + 1) y0 y1 y2)) ∧ (∀ y0 y1 y2 y3, LeO (spec_l2Name.j1 k y0 y1 y2 y3) (spec_l2Name.j1 (k + 1) y0 y1 y2 y3)) ∧ (∀ y0 y1 y2 y3, LeO (spec_l2Name.l1 k y0 y1 y2 y3) (spec_l2Name.l1 (k + 1) y0 y1 y2 y3))
 | 0 => ⟨fun _ _ _ r h => by simp [spec_l2Name.l0] at h, fun _ _ _ _ r h => by simp [spec_l2Name.j1] at h, fun _ _ _ _ r h => by simp [spec_l2Name.l1] at h⟩
 | k + 1 => by
  obtain ⟨ih0, ih1, ih2⟩ := spec_l2Name.mono_l k
  refine ⟨?_, ?_, ?_⟩
  ·intro y0 y1 y2
   unfold spec_l2Name.l0
   repeat' first
   | (with_reducible exact ih0 _ _ _)
   | (with_reducible exact ih1 _ _ _ _)
   | (with_reducible exact ih2 _ _ _ _)
   | (with_reducible exact spec_l1Cut.mono _ _ _)
   | (with_reducible exact LeO.refl _)
   | (with_reducible exact LeO.none _)
   | (with_reducible refine LeO.ite ?_ ?_)
   | (with_reducible refine LeO.bind ?_ (fun _ => ?_))
  ·intro y0 y1 y2 y3
   unfold spec_l2Name.j1
   repeat' first
   | (with_reducible exact ih0 _ _ _)
   | (with_reducible exact ih1 _ _ _ _)
   | (with_reducible exact ih2 _ _ _ _)
   | (with_reducible exact spec_l1Cut.mono _ _ _)
   | (with_reducible exact LeO.refl _)
   | (with_reducible exact LeO.none _)
   | (with_reducible refine LeO.ite ?_ ?_)
   | (with_reducible refine LeO.bind ?_ (fun _ => ?_))
  ·intro y0 y1 y2 y3
   unfold spec_l2Name.l1
   repeat' first
   | (with_reducible exact ih0 _ _ _)
   | (with_reducible exact ih1 _ _ _ _)
   | (with_reducible exact ih2 _ _ _ _)
   | (with_reducible exact spec_l1Cut.mono _ _ _)
   | (with_reducible exact LeO.refl _)
   | (with_reducible exact LeO.none _)
   | (with_reducible refine LeO.ite ?_ ?_)
   | (with_reducible refine LeO.bind ?_ (fun _ => ?_))
theorem spec_l2Name.mono : ∀ a0 k, LeO (spec_l2Name.f k a0) (spec_l2Name.f (k + 1) a0) := by
 intro a0 k
 obtain ⟨ih0, ih1, ih2⟩ := spec_l2Name.mono_l k
 unfold spec_l2Name.f
 repeat' first
   | (with_reducible exact ih0 _ _ _)
   | (with_reducible exact ih1 _ _ _ _)
   | (with_reducible exact ih2 _ _ _ _)
   | (with_reducible exact spec_l1Cut.mono _ _ _)
   | (with_reducible exact LeO.refl _)
   | (with_reducible exact LeO.none _)
   | (with_reducible refine LeO.ite ?_ ?_)
   | (with_reducible refine LeO.bind ?_ (fun _ => ?_))
set_option maxHeartbeats 8000000 in
set_option maxRecDepth 100000 in
theorem spec_l2Name.calls (k : Nat) (a0 : ByteArray) (r : Bool) (w : World) (h : spec_l2Name.f k a0 = some r) :
  Calls Tryz.prog 111 #[.string a0] w fun e w' => e = .returned (.bool r) ∧ Below w.heap.size w w' := by
 have HB := Aside0.mk (Below.refl w.heap.size w)
 have H : ((spec_l1Cut.f k a0 46).bind fun t138 => (spec_l2Name.l0 k a0 t138 0)) = some r := h
 clear h
 replace H := Option.bind_eq_some_iff.mp H
 obtain ⟨t138, A20, H⟩ := H
 replace H : (spec_l2Name.l0 k a0 t138 0) = some r := H
 have A2 := Aside0.mk A20
 clear A20
 have H' := Aside0.mk H
 clear H
 go_enter Tryz.func111, Tryz.ntmps111
 go_wp2_with (first | ((with_reducible refine gate_callee (f := 141) rfl ?_); refine goesL_ (some 8) rfl rfl Tryz.func141 (by kernel_rfl) rfl #[.string a0, .int .u8 46] rfl aq ?_; (with_reducible refine (spec_l1Cut.calls k a0 46 t138 _ A2.out).mono ?_); rintro e w3 ⟨v139, rfl, ho0, hb⟩; refine ⟨_, rfl, ?_⟩; have n0_ := Aside0.mk (Kd.R_lower ho0 (below_size (bq))); have n1_ := Aside0.mk (below_step (bq) hb); clear HB; have HO140 := n0_; have HB := n1_; clear n0_ n1_; (try clear hb); (try clear hb2); (try clear hk); (try clear hi); (try clear ho0)))
 go_loopg [4] k (fun kq v4 w' => ∃ (x4_1 : Int), v4 = .int .i64 x4_1 ∧ Aside0 (spec_l2Name.l0 kq a0 t138 x4_1 = some r) ∧ Aside0 (kq ≤ k) ∧ Aside0 (Kd.R Kd.string 9 w' w.heap.size (fun _ => True) v139 t138) ∧ Aside0 (Below w.heap.size w w'))
 case atStart => exact ⟨(0), vq, H', ⟨Nat.le_refl _⟩, ⟨by (with_reducible repeat (first | apply Kd.R_alloc | apply Kd.R_drewN | apply Kd.R_drew)); exact HO140.out⟩, ⟨bq⟩⟩
 case round =>
  clear H'
  obtain ⟨x4_1, rfl, HA, HK1, HO_3, HB⟩ := hrel
  cases gk with
  | zero => exact absurd HA.out (by simp [spec_l2Name.l0])
  | succ k1 =>
   have H := HA.out
   clear HA
   simp only [spec_l2Name.l0] at H
   by_cases c4 : x4_1 < (t138.length : Int)
   ·rw [if_pos c4] at H
    have c4b0 := decide_eq_true c4
    clear c4
    have HC5 := Aside0.mk H
    clear H
    obtain ⟨Ao6, co6, eo6⟩ := Kd.R_slice HO_3.out
    subst eo6
    go_upto_region 5 with (fail)
    go_cut [30] (fun v30 wc => ∃ (kq : Nat) (x30_4 : Bool), v30 = .bool x30_4 ∧ Aside0 (spec_l2Name.j1 kq a0 t138 x4_1 x30_4 = some r) ∧ Aside0 (kq ≤ k1) ∧ Aside0 (Kd.R Kd.string 9 wc w.heap.size (fun _ => True) (.slice Ao6 t138.length co6) t138) ∧ Aside0 (Below w.heap.size w wc))
    case first =>
     have H := HC5.out
     clear HC5
     by_cases c7 : 0 ≤ x4_1
     ·rw [if_pos c7] at H
      have c7b0 := decide_eq_true c7
      clear c7
      (first | rw [c7b0] | (simp only [i64_w, i32_w]; rw [c7b0]) | skip)
      by_cases c8 : (rdOf ByteArray.empty t138 x4_1).toList = ([] : List UInt8)
      ·rw [if_pos c8] at H
       have c8b0 := beq_iff_eq.mpr c8
       have c8b1 := bne_eq_false_iff_eq.mpr c8
       clear c8
       by_cases c9 : x4_1 < (wrap64 ((t138.length : Int) - 1))
       ·rw [if_pos c9] at H
        have c9b0 := decide_eq_true c9
        clear c9
        have H' := Aside0.mk H
        clear H
        have p142 : 0 ≤ (x4_1 : Int) := of_decide_eq_true (by assumption)
        have q142 : x4_1 < (t138.length : Int) := of_decide_eq_true (by assumption)
        obtain ⟨ad142, e142, hx142_0⟩ := Kd.at_string (Kd.R_reads' HO_3.out).2.2 x4_1 p142 q142
        cases e142
        replace p142 := eq_true p142
        replace q142 := eq_true q142
        go_wp2
        go_meet
        case rel => exact ⟨_, (true), vq, H', ⟨by have := HK1.out; first | omega | exact Nat.le_refl _⟩, ⟨by (with_reducible repeat (first | apply Kd.R_alloc | apply Kd.R_drewN | apply Kd.R_drew)); exact HO_3.out⟩, ⟨bq⟩⟩
       ·rw [if_neg c9] at H
        have c9b0 := decide_eq_false c9
        clear c9
        have H' := Aside0.mk H
        clear H
        have p142 : 0 ≤ (x4_1 : Int) := of_decide_eq_true (by assumption)
        have q142 : x4_1 < (t138.length : Int) := of_decide_eq_true (by assumption)
        obtain ⟨ad142, e142, hx142_0⟩ := Kd.at_string (Kd.R_reads' HO_3.out).2.2 x4_1 p142 q142
        cases e142
        replace p142 := eq_true p142
        replace q142 := eq_true q142
        go_wp2
        go_meet
        case rel => exact ⟨_, ((x4_1 == 0)), vq, H', ⟨by have := HK1.out; first | omega | exact Nat.le_refl _⟩, ⟨by (with_reducible repeat (first | apply Kd.R_alloc | apply Kd.R_drewN | apply Kd.R_drew)); exact HO_3.out⟩, ⟨bq⟩⟩
      ·rw [if_neg c8] at H
       have c8b0 := beq_eq_false_iff_ne.mpr c8
       have c8b1 := bne_iff_ne.mpr c8
       have H' := Aside0.mk H
       clear H
       have p142 : 0 ≤ (x4_1 : Int) := of_decide_eq_true (by assumption)
       have q142 : x4_1 < (t138.length : Int) := of_decide_eq_true (by assumption)
       obtain ⟨ad142, e142, hx142_0⟩ := Kd.at_string (Kd.R_reads' HO_3.out).2.2 x4_1 p142 q142
       cases e142
       replace p142 := eq_true p142
       replace q142 := eq_true q142
       go_wp2
       go_meet
       case rel => exact ⟨_, (false), vq, H', ⟨by have := HK1.out; first | omega | exact Nat.le_refl _⟩, ⟨by (with_reducible repeat (first | apply Kd.R_alloc | apply Kd.R_drewN | apply Kd.R_drew)); exact HO_3.out⟩, ⟨bq⟩⟩
     ·rw [if_neg c7] at H
      exact absurd H (by simp)
    case rest =>
     clear HC5
     obtain ⟨kq, x30_4, rfl, HA, HJ4, HO_3, HB⟩ := hcut
     cases kq with
     | zero => exact absurd HA.out (by simp [spec_l2Name.j1])
     | succ kj4 =>
      have H := HA.out
      clear HA
      simp only [spec_l2Name.j1] at H
      by_cases c10 : x30_4 = true
      ·subst c10
       have H1 : (some false) = some r := by rw [if_pos rfl] at H; exact H
       clear H
       have H := H1
       clear H1
       obtain rfl := Option.some.inj H
       go_wp2
       go_ret
       exact ⟨vq, bq⟩
      ·replace c10 := Bool.eq_false_iff.mpr c10
       subst c10
       have H1 : (spec_l2Name.l1 kj4 a0 t138 x4_1 0) = some r := by rw [if_neg (show ¬ (false = true) by decide)] at H; exact H
       clear H
       have H := H1
       clear H1
       have H' := Aside0.mk H
       clear H
       go_wp2
       go_loopg [5] kj4 (fun kq v5 w' => ∃ (x5_3 : Int), v5 = .int .i64 x5_3 ∧ Aside0 (spec_l2Name.l1 kq a0 t138 x4_1 x5_3 = some r) ∧ Aside0 (kq ≤ kj4) ∧ Aside0 (Kd.R Kd.string 9 w' w.heap.size (fun _ => True) (.slice Ao6 t138.length co6) t138) ∧ Aside0 (Below w.heap.size w w'))
       case atStart => exact ⟨(0), vq, H', ⟨Nat.le_refl _⟩, ⟨by (with_reducible repeat (first | apply Kd.R_alloc | apply Kd.R_drewN | apply Kd.R_drew)); exact HO_3.out⟩, ⟨bq⟩⟩
       case round =>
        clear H'
        obtain ⟨x5_3, rfl, HA, HK3, HO_3, HB⟩ := hrel
        cases gk with
        | zero => exact absurd HA.out (by simp [spec_l2Name.l1])
        | succ k3 =>
         have H := HA.out
         clear HA
         simp only [spec_l2Name.l1] at H
         by_cases c11 : 0 ≤ x4_1
         ·rw [if_pos c11] at H
          have c11b0 := decide_eq_true c11
          clear c11
          by_cases c12 : x4_1 < (t138.length : Int)
          ·rw [if_pos c12] at H
           have c12b0 := decide_eq_true c12
           clear c12
           by_cases c13 : x5_3 < ((rdOf ByteArray.empty t138 x4_1).size : Int)
           ·rw [if_pos c13] at H
            have c13b0 := decide_eq_true c13
            clear c13
            by_cases c14 : 0 ≤ x5_3
            ·rw [if_pos c14] at H
             have c14b0 := decide_eq_true c14
             clear c14
             by_cases c16 : (bt (rdOf ByteArray.empty t138 x4_1) x5_3) < 97
             ·rw [if_pos c16] at H
              have c16b0 := decide_eq_true c16
              clear c16
              by_cases c17 : (bt (rdOf ByteArray.empty t138 x4_1) x5_3) < 48
              ·rw [if_pos c17] at H
               have c17b0 := decide_eq_true c17
               clear c17
               by_cases c18 : (bt (rdOf ByteArray.empty t138 x4_1) x5_3) = 45
               ·rw [if_pos c18] at H
                have c18b0 := beq_iff_eq.mpr c18
                have c18b1 := bne_eq_false_iff_eq.mpr c18
                clear c18
                have H' := Aside0.mk H
                clear H
                have p143 : 0 ≤ (x4_1 : Int) := of_decide_eq_true (by assumption)
                have q143 : x4_1 < (t138.length : Int) := of_decide_eq_true (by assumption)
                obtain ⟨ad143, e143, hx143_0⟩ := Kd.at_string (Kd.R_reads' HO_3.out).2.2 x4_1 p143 q143
                cases e143
                replace p143 := eq_true p143
                replace q143 := eq_true q143
                have p144 : 0 ≤ (x4_1 : Int) := of_decide_eq_true (by assumption)
                have q144 : x4_1 < (t138.length : Int) := of_decide_eq_true (by assumption)
                obtain ⟨ad144, e144, hx144_0⟩ := Kd.at_string (Kd.R_reads' HO_3.out).2.2 x4_1 p144 q144
                obtain rfl : ad143 = ad144 := (by injection e144)
                replace p144 := eq_true p144
                replace q144 := eq_true q144
                have p15 : 0 ≤ (x5_3 : Int) := of_decide_eq_true (by assumption)
                have q15 : x5_3 < ((rdOf ByteArray.empty t138 x4_1).size : Int) := of_decide_eq_true (by assumption)
                have hx15 := bt_at (rdOf ByteArray.empty t138 x4_1) x5_3
                replace p15 := eq_true p15
                replace q15 := eq_true q15
                go_wp2
                go_roundg k3
                case measure => have := HK1.out; have := HJ4.out; have := HK3.out; omega
                case rel => exact ⟨(wrap64 (x5_3 + 1)), vq, H', ⟨by have := HK1.out; have := HJ4.out; have := HK3.out; omega⟩, ⟨by (with_reducible repeat (first | apply Kd.R_alloc | apply Kd.R_drewN | apply Kd.R_drew)); exact HO_3.out⟩, ⟨bq⟩⟩
               ·rw [if_neg c18] at H
                have c18b0 := beq_eq_false_iff_ne.mpr c18
                have c18b1 := bne_iff_ne.mpr c18
                by_cases c19 : (bt (rdOf ByteArray.empty t138 x4_1) x5_3) = 95
                ·rw [if_pos c19] at H
                 have c19b0 := beq_iff_eq.mpr c19
                 have c19b1 := bne_eq_false_iff_eq.mpr c19
                 clear c19
                 have H' := Aside0.mk H
                 clear H
                 have p143 : 0 ≤ (x4_1 : Int) := of_decide_eq_true (by assumption)
                 have q143 : x4_1 < (t138.length : Int) := of_decide_eq_true (by assumption)
                 obtain ⟨ad143, e143, hx143_0⟩ := Kd.at_string (Kd.R_reads' HO_3.out).2.2 x4_1 p143 q143
                 cases e143
                 replace p143 := eq_true p143
                 replace q143 := eq_true q143
                 have p144 : 0 ≤ (x4_1 : Int) := of_decide_eq_true (by assumption)
                 have q144 : x4_1 < (t138.length : Int) := of_decide_eq_true (by assumption)
                 obtain ⟨ad144, e144, hx144_0⟩ := Kd.at_string (Kd.R_reads' HO_3.out).2.2 x4_1 p144 q144
                 obtain rfl : ad143 = ad144 := (by injection e144)
                 replace p144 := eq_true p144
                 replace q144 := eq_true q144
                 have p15 : 0 ≤ (x5_3 : Int) := of_decide_eq_true (by assumption)
                 have q15 : x5_3 < ((rdOf ByteArray.empty t138 x4_1).size : Int) := of_decide_eq_true (by assumption)
                 have hx15 := bt_at (rdOf ByteArray.empty t138 x4_1) x5_3
                 replace p15 := eq_true p15
                 replace q15 := eq_true q15
                 go_wp2
                 go_roundg k3
                 case measure => have := HK1.out; have := HJ4.out; have := HK3.out; omega
                 case rel => exact ⟨(wrap64 (x5_3 + 1)), vq, H', ⟨by have := HK1.out; have := HJ4.out; have := HK3.out; omega⟩, ⟨by (with_reducible repeat (first | apply Kd.R_alloc | apply Kd.R_drewN | apply Kd.R_drew)); exact HO_3.out⟩, ⟨bq⟩⟩
                ·rw [if_neg c19] at H
                 have c19b0 := beq_eq_false_iff_ne.mpr c19
                 have c19b1 := bne_iff_ne.mpr c19
                 obtain rfl := Option.some.inj H
                 have p143 : 0 ≤ (x4_1 : Int) := of_decide_eq_true (by assumption)
                 have q143 : x4_1 < (t138.length : Int) := of_decide_eq_true (by assumption)
                 obtain ⟨ad143, e143, hx143_0⟩ := Kd.at_string (Kd.R_reads' HO_3.out).2.2 x4_1 p143 q143
                 cases e143
                 replace p143 := eq_true p143
                 replace q143 := eq_true q143
                 have p144 : 0 ≤ (x4_1 : Int) := of_decide_eq_true (by assumption)
                 have q144 : x4_1 < (t138.length : Int) := of_decide_eq_true (by assumption)
                 obtain ⟨ad144, e144, hx144_0⟩ := Kd.at_string (Kd.R_reads' HO_3.out).2.2 x4_1 p144 q144
                 obtain rfl : ad143 = ad144 := (by injection e144)
                 replace p144 := eq_true p144
                 replace q144 := eq_true q144
                 have p15 : 0 ≤ (x5_3 : Int) := of_decide_eq_true (by assumption)
                 have q15 : x5_3 < ((rdOf ByteArray.empty t138 x4_1).size : Int) := of_decide_eq_true (by assumption)
                 have hx15 := bt_at (rdOf ByteArray.empty t138 x4_1) x5_3
                 replace p15 := eq_true p15
                 replace q15 := eq_true q15
                 go_wp2
                 go_ret
                 exact ⟨vq, bq⟩
              ·rw [if_neg c17] at H
               have c17b0 := decide_eq_false c17
               clear c17
               by_cases c20 : (bt (rdOf ByteArray.empty t138 x4_1) x5_3) > 57
               ·rw [if_pos c20] at H
                have c20b0 := decide_eq_true c20
                clear c20
                by_cases c21 : (bt (rdOf ByteArray.empty t138 x4_1) x5_3) = 45
                ·rw [if_pos c21] at H
                 have c21b0 := beq_iff_eq.mpr c21
                 have c21b1 := bne_eq_false_iff_eq.mpr c21
                 clear c21
                 have H' := Aside0.mk H
                 clear H
                 have p143 : 0 ≤ (x4_1 : Int) := of_decide_eq_true (by assumption)
                 have q143 : x4_1 < (t138.length : Int) := of_decide_eq_true (by assumption)
                 obtain ⟨ad143, e143, hx143_0⟩ := Kd.at_string (Kd.R_reads' HO_3.out).2.2 x4_1 p143 q143
                 cases e143
                 replace p143 := eq_true p143
                 replace q143 := eq_true q143
                 have p144 : 0 ≤ (x4_1 : Int) := of_decide_eq_true (by assumption)
                 have q144 : x4_1 < (t138.length : Int) := of_decide_eq_true (by assumption)
                 obtain ⟨ad144, e144, hx144_0⟩ := Kd.at_string (Kd.R_reads' HO_3.out).2.2 x4_1 p144 q144
                 obtain rfl : ad143 = ad144 := (by injection e144)
                 replace p144 := eq_true p144
                 replace q144 := eq_true q144
                 have p15 : 0 ≤ (x5_3 : Int) := of_decide_eq_true (by assumption)
                 have q15 : x5_3 < ((rdOf ByteArray.empty t138 x4_1).size : Int) := of_decide_eq_true (by assumption)
                 have hx15 := bt_at (rdOf ByteArray.empty t138 x4_1) x5_3
                 replace p15 := eq_true p15
                 replace q15 := eq_true q15
                 go_wp2
                 go_roundg k3
                 case measure => have := HK1.out; have := HJ4.out; have := HK3.out; omega
                 case rel => exact ⟨(wrap64 (x5_3 + 1)), vq, H', ⟨by have := HK1.out; have := HJ4.out; have := HK3.out; omega⟩, ⟨by (with_reducible repeat (first | apply Kd.R_alloc | apply Kd.R_drewN | apply Kd.R_drew)); exact HO_3.out⟩, ⟨bq⟩⟩
                ·rw [if_neg c21] at H
                 have c21b0 := beq_eq_false_iff_ne.mpr c21
                 have c21b1 := bne_iff_ne.mpr c21
                 by_cases c22 : (bt (rdOf ByteArray.empty t138 x4_1) x5_3) = 95
                 ·rw [if_pos c22] at H
                  have c22b0 := beq_iff_eq.mpr c22
                  have c22b1 := bne_eq_false_iff_eq.mpr c22
                  clear c22
                  have H' := Aside0.mk H
                  clear H
                  have p143 : 0 ≤ (x4_1 : Int) := of_decide_eq_true (by assumption)
                  have q143 : x4_1 < (t138.length : Int) := of_decide_eq_true (by assumption)
                  obtain ⟨ad143, e143, hx143_0⟩ := Kd.at_string (Kd.R_reads' HO_3.out).2.2 x4_1 p143 q143
                  cases e143
                  replace p143 := eq_true p143
                  replace q143 := eq_true q143
                  have p144 : 0 ≤ (x4_1 : Int) := of_decide_eq_true (by assumption)
                  have q144 : x4_1 < (t138.length : Int) := of_decide_eq_true (by assumption)
                  obtain ⟨ad144, e144, hx144_0⟩ := Kd.at_string (Kd.R_reads' HO_3.out).2.2 x4_1 p144 q144
                  obtain rfl : ad143 = ad144 := (by injection e144)
                  replace p144 := eq_true p144
                  replace q144 := eq_true q144
                  have p15 : 0 ≤ (x5_3 : Int) := of_decide_eq_true (by assumption)
                  have q15 : x5_3 < ((rdOf ByteArray.empty t138 x4_1).size : Int) := of_decide_eq_true (by assumption)
                  have hx15 := bt_at (rdOf ByteArray.empty t138 x4_1) x5_3
                  replace p15 := eq_true p15
                  replace q15 := eq_true q15
                  go_wp2
                  go_roundg k3
                  case measure => have := HK1.out; have := HJ4.out; have := HK3.out; omega
                  case rel => exact ⟨(wrap64 (x5_3 + 1)), vq, H', ⟨by have := HK1.out; have := HJ4.out; have := HK3.out; omega⟩, ⟨by (with_reducible repeat (first | apply Kd.R_alloc | apply Kd.R_drewN | apply Kd.R_drew)); exact HO_3.out⟩, ⟨bq⟩⟩
                 ·rw [if_neg c22] at H
                  have c22b0 := beq_eq_false_iff_ne.mpr c22
                  have c22b1 := bne_iff_ne.mpr c22
                  obtain rfl := Option.some.inj H
                  have p143 : 0 ≤ (x4_1 : Int) := of_decide_eq_true (by assumption)
                  have q143 : x4_1 < (t138.length : Int) := of_decide_eq_true (by assumption)
                  obtain ⟨ad143, e143, hx143_0⟩ := Kd.at_string (Kd.R_reads' HO_3.out).2.2 x4_1 p143 q143
                  cases e143
                  replace p143 := eq_true p143
                  replace q143 := eq_true q143
                  have p144 : 0 ≤ (x4_1 : Int) := of_decide_eq_true (by assumption)
                  have q144 : x4_1 < (t138.length : Int) := of_decide_eq_true (by assumption)
                  obtain ⟨ad144, e144, hx144_0⟩ := Kd.at_string (Kd.R_reads' HO_3.out).2.2 x4_1 p144 q144
                  obtain rfl : ad143 = ad144 := (by injection e144)
                  replace p144 := eq_true p144
                  replace q144 := eq_true q144
                  have p15 : 0 ≤ (x5_3 : Int) := of_decide_eq_true (by assumption)
                  have q15 : x5_3 < ((rdOf ByteArray.empty t138 x4_1).size : Int) := of_decide_eq_true (by assumption)
                  have hx15 := bt_at (rdOf ByteArray.empty t138 x4_1) x5_3
                  replace p15 := eq_true p15
                  replace q15 := eq_true q15
                  go_wp2
                  go_ret
                  exact ⟨vq, bq⟩
               ·rw [if_neg c20] at H
                have c20b0 := decide_eq_false c20
                clear c20
                have H' := Aside0.mk H
                clear H
                have p143 : 0 ≤ (x4_1 : Int) := of_decide_eq_true (by assumption)
                have q143 : x4_1 < (t138.length : Int) := of_decide_eq_true (by assumption)
                obtain ⟨ad143, e143, hx143_0⟩ := Kd.at_string (Kd.R_reads' HO_3.out).2.2 x4_1 p143 q143
                cases e143
                replace p143 := eq_true p143
                replace q143 := eq_true q143
                have p144 : 0 ≤ (x4_1 : Int) := of_decide_eq_true (by assumption)
                have q144 : x4_1 < (t138.length : Int) := of_decide_eq_true (by assumption)
                obtain ⟨ad144, e144, hx144_0⟩ := Kd.at_string (Kd.R_reads' HO_3.out).2.2 x4_1 p144 q144
                obtain rfl : ad143 = ad144 := (by injection e144)
                replace p144 := eq_true p144
                replace q144 := eq_true q144
                have p15 : 0 ≤ (x5_3 : Int) := of_decide_eq_true (by assumption)
                have q15 : x5_3 < ((rdOf ByteArray.empty t138 x4_1).size : Int) := of_decide_eq_true (by assumption)
                have hx15 := bt_at (rdOf ByteArray.empty t138 x4_1) x5_3
                replace p15 := eq_true p15
                replace q15 := eq_true q15
                go_wp2
                go_roundg k3
                case measure => have := HK1.out; have := HJ4.out; have := HK3.out; omega
                case rel => exact ⟨(wrap64 (x5_3 + 1)), vq, H', ⟨by have := HK1.out; have := HJ4.out; have := HK3.out; omega⟩, ⟨by (with_reducible repeat (first | apply Kd.R_alloc | apply Kd.R_drewN | apply Kd.R_drew)); exact HO_3.out⟩, ⟨bq⟩⟩
             ·rw [if_neg c16] at H
              have c16b0 := decide_eq_false c16
              clear c16
              by_cases c23 : (bt (rdOf ByteArray.empty t138 x4_1) x5_3) > 122
              ·rw [if_pos c23] at H
               have c23b0 := decide_eq_true c23
               clear c23
               by_cases c24 : (bt (rdOf ByteArray.empty t138 x4_1) x5_3) < 48
               ·rw [if_pos c24] at H
                have c24b0 := decide_eq_true c24
                clear c24
                by_cases c25 : (bt (rdOf ByteArray.empty t138 x4_1) x5_3) = 45
                ·rw [if_pos c25] at H
                 have c25b0 := beq_iff_eq.mpr c25
                 have c25b1 := bne_eq_false_iff_eq.mpr c25
                 clear c25
                 have H' := Aside0.mk H
                 clear H
                 have p143 : 0 ≤ (x4_1 : Int) := of_decide_eq_true (by assumption)
                 have q143 : x4_1 < (t138.length : Int) := of_decide_eq_true (by assumption)
                 obtain ⟨ad143, e143, hx143_0⟩ := Kd.at_string (Kd.R_reads' HO_3.out).2.2 x4_1 p143 q143
                 cases e143
                 replace p143 := eq_true p143
                 replace q143 := eq_true q143
                 have p144 : 0 ≤ (x4_1 : Int) := of_decide_eq_true (by assumption)
                 have q144 : x4_1 < (t138.length : Int) := of_decide_eq_true (by assumption)
                 obtain ⟨ad144, e144, hx144_0⟩ := Kd.at_string (Kd.R_reads' HO_3.out).2.2 x4_1 p144 q144
                 obtain rfl : ad143 = ad144 := (by injection e144)
                 replace p144 := eq_true p144
                 replace q144 := eq_true q144
                 have p15 : 0 ≤ (x5_3 : Int) := of_decide_eq_true (by assumption)
                 have q15 : x5_3 < ((rdOf ByteArray.empty t138 x4_1).size : Int) := of_decide_eq_true (by assumption)
                 have hx15 := bt_at (rdOf ByteArray.empty t138 x4_1) x5_3
                 replace p15 := eq_true p15
                 replace q15 := eq_true q15
                 go_wp2
                 go_roundg k3
                 case measure => have := HK1.out; have := HJ4.out; have := HK3.out; omega
                 case rel => exact ⟨(wrap64 (x5_3 + 1)), vq, H', ⟨by have := HK1.out; have := HJ4.out; have := HK3.out; omega⟩, ⟨by (with_reducible repeat (first | apply Kd.R_alloc | apply Kd.R_drewN | apply Kd.R_drew)); exact HO_3.out⟩, ⟨bq⟩⟩
                ·rw [if_neg c25] at H
                 have c25b0 := beq_eq_false_iff_ne.mpr c25
                 have c25b1 := bne_iff_ne.mpr c25
                 by_cases c26 : (bt (rdOf ByteArray.empty t138 x4_1) x5_3) = 95
                 ·rw [if_pos c26] at H
                  have c26b0 := beq_iff_eq.mpr c26
                  have c26b1 := bne_eq_false_iff_eq.mpr c26
                  clear c26
                  have H' := Aside0.mk H
                  clear H
                  have p143 : 0 ≤ (x4_1 : Int) := of_decide_eq_true (by assumption)
                  have q143 : x4_1 < (t138.length : Int) := of_decide_eq_true (by assumption)
                  obtain ⟨ad143, e143, hx143_0⟩ := Kd.at_string (Kd.R_reads' HO_3.out).2.2 x4_1 p143 q143
                  cases e143
                  replace p143 := eq_true p143
                  replace q143 := eq_true q143
                  have p144 : 0 ≤ (x4_1 : Int) := of_decide_eq_true (by assumption)
                  have q144 : x4_1 < (t138.length : Int) := of_decide_eq_true (by assumption)
                  obtain ⟨ad144, e144, hx144_0⟩ := Kd.at_string (Kd.R_reads' HO_3.out).2.2 x4_1 p144 q144
                  obtain rfl : ad143 = ad144 := (by injection e144)
                  replace p144 := eq_true p144
                  replace q144 := eq_true q144
                  have p15 : 0 ≤ (x5_3 : Int) := of_decide_eq_true (by assumption)
                  have q15 : x5_3 < ((rdOf ByteArray.empty t138 x4_1).size : Int) := of_decide_eq_true (by assumption)
                  have hx15 := bt_at (rdOf ByteArray.empty t138 x4_1) x5_3
                  replace p15 := eq_true p15
                  replace q15 := eq_true q15
                  go_wp2
                  go_roundg k3
                  case measure => have := HK1.out; have := HJ4.out; have := HK3.out; omega
                  case rel => exact ⟨(wrap64 (x5_3 + 1)), vq, H', ⟨by have := HK1.out; have := HJ4.out; have := HK3.out; omega⟩, ⟨by (with_reducible repeat (first | apply Kd.R_alloc | apply Kd.R_drewN | apply Kd.R_drew)); exact HO_3.out⟩, ⟨bq⟩⟩
                 ·rw [if_neg c26] at H
                  have c26b0 := beq_eq_false_iff_ne.mpr c26
                  have c26b1 := bne_iff_ne.mpr c26
                  obtain rfl := Option.some.inj H
                  have p143 : 0 ≤ (x4_1 : Int) := of_decide_eq_true (by assumption)
                  have q143 : x4_1 < (t138.length : Int) := of_decide_eq_true (by assumption)
                  obtain ⟨ad143, e143, hx143_0⟩ := Kd.at_string (Kd.R_reads' HO_3.out).2.2 x4_1 p143 q143
                  cases e143
                  replace p143 := eq_true p143
                  replace q143 := eq_true q143
                  have p144 : 0 ≤ (x4_1 : Int) := of_decide_eq_true (by assumption)
                  have q144 : x4_1 < (t138.length : Int) := of_decide_eq_true (by assumption)
                  obtain ⟨ad144, e144, hx144_0⟩ := Kd.at_string (Kd.R_reads' HO_3.out).2.2 x4_1 p144 q144
                  obtain rfl : ad143 = ad144 := (by injection e144)
                  replace p144 := eq_true p144
                  replace q144 := eq_true q144
                  have p15 : 0 ≤ (x5_3 : Int) := of_decide_eq_true (by assumption)
                  have q15 : x5_3 < ((rdOf ByteArray.empty t138 x4_1).size : Int) := of_decide_eq_true (by assumption)
                  have hx15 := bt_at (rdOf ByteArray.empty t138 x4_1) x5_3
                  replace p15 := eq_true p15
                  replace q15 := eq_true q15
                  go_wp2
                  go_ret
                  exact ⟨vq, bq⟩
               ·rw [if_neg c24] at H
                have c24b0 := decide_eq_false c24
                clear c24
                by_cases c27 : (bt (rdOf ByteArray.empty t138 x4_1) x5_3) > 57
                ·rw [if_pos c27] at H
                 have c27b0 := decide_eq_true c27
                 clear c27
                 by_cases c28 : (bt (rdOf ByteArray.empty t138 x4_1) x5_3) = 45
                 ·rw [if_pos c28] at H
                  have c28b0 := beq_iff_eq.mpr c28
                  have c28b1 := bne_eq_false_iff_eq.mpr c28
                  clear c28
                  have H' := Aside0.mk H
                  clear H
                  have p143 : 0 ≤ (x4_1 : Int) := of_decide_eq_true (by assumption)
                  have q143 : x4_1 < (t138.length : Int) := of_decide_eq_true (by assumption)
                  obtain ⟨ad143, e143, hx143_0⟩ := Kd.at_string (Kd.R_reads' HO_3.out).2.2 x4_1 p143 q143
                  cases e143
                  replace p143 := eq_true p143
                  replace q143 := eq_true q143
                  have p144 : 0 ≤ (x4_1 : Int) := of_decide_eq_true (by assumption)
                  have q144 : x4_1 < (t138.length : Int) := of_decide_eq_true (by assumption)
                  obtain ⟨ad144, e144, hx144_0⟩ := Kd.at_string (Kd.R_reads' HO_3.out).2.2 x4_1 p144 q144
                  obtain rfl : ad143 = ad144 := (by injection e144)
                  replace p144 := eq_true p144
                  replace q144 := eq_true q144
                  have p15 : 0 ≤ (x5_3 : Int) := of_decide_eq_true (by assumption)
                  have q15 : x5_3 < ((rdOf ByteArray.empty t138 x4_1).size : Int) := of_decide_eq_true (by assumption)
                  have hx15 := bt_at (rdOf ByteArray.empty t138 x4_1) x5_3
                  replace p15 := eq_true p15
                  replace q15 := eq_true q15
                  go_wp2
                  go_roundg k3
                  case measure => have := HK1.out; have := HJ4.out; have := HK3.out; omega
                  case rel => exact ⟨(wrap64 (x5_3 + 1)), vq, H', ⟨by have := HK1.out; have := HJ4.out; have := HK3.out; omega⟩, ⟨by (with_reducible repeat (first | apply Kd.R_alloc | apply Kd.R_drewN | apply Kd.R_drew)); exact HO_3.out⟩, ⟨bq⟩⟩
                 ·rw [if_neg c28] at H
                  have c28b0 := beq_eq_false_iff_ne.mpr c28
                  have c28b1 := bne_iff_ne.mpr c28
                  by_cases c29 : (bt (rdOf ByteArray.empty t138 x4_1) x5_3) = 95
                  ·rw [if_pos c29] at H
                   have c29b0 := beq_iff_eq.mpr c29
                   have c29b1 := bne_eq_false_iff_eq.mpr c29
                   clear c29
                   have H' := Aside0.mk H
                   clear H
                   have p143 : 0 ≤ (x4_1 : Int) := of_decide_eq_true (by assumption)
                   have q143 : x4_1 < (t138.length : Int) := of_decide_eq_true (by assumption)
                   obtain ⟨ad143, e143, hx143_0⟩ := Kd.at_string (Kd.R_reads' HO_3.out).2.2 x4_1 p143 q143
                   cases e143
                   replace p143 := eq_true p143
                   replace q143 := eq_true q143
                   have p144 : 0 ≤ (x4_1 : Int) := of_decide_eq_true (by assumption)
                   have q144 : x4_1 < (t138.length : Int) := of_decide_eq_true (by assumption)
                   obtain ⟨ad144, e144, hx144_0⟩ := Kd.at_string (Kd.R_reads' HO_3.out).2.2 x4_1 p144 q144
                   obtain rfl : ad143 = ad144 := (by injection e144)
                   replace p144 := eq_true p144
                   replace q144 := eq_true q144
                   have p15 : 0 ≤ (x5_3 : Int) := of_decide_eq_true (by assumption)
                   have q15 : x5_3 < ((rdOf ByteArray.empty t138 x4_1).size : Int) := of_decide_eq_true (by assumption)
                   have hx15 := bt_at (rdOf ByteArray.empty t138 x4_1) x5_3
                   replace p15 := eq_true p15
                   replace q15 := eq_true q15
                   go_wp2
                   go_roundg k3
                   case measure => have := HK1.out; have := HJ4.out; have := HK3.out; omega
                   case rel => exact ⟨(wrap64 (x5_3 + 1)), vq, H', ⟨by have := HK1.out; have := HJ4.out; have := HK3.out; omega⟩, ⟨by (with_reducible repeat (first | apply Kd.R_alloc | apply Kd.R_drewN | apply Kd.R_drew)); exact HO_3.out⟩, ⟨bq⟩⟩
                  ·rw [if_neg c29] at H
                   have c29b0 := beq_eq_false_iff_ne.mpr c29
                   have c29b1 := bne_iff_ne.mpr c29
                   obtain rfl := Option.some.inj H
                   have p143 : 0 ≤ (x4_1 : Int) := of_decide_eq_true (by assumption)
                   have q143 : x4_1 < (t138.length : Int) := of_decide_eq_true (by assumption)
                   obtain ⟨ad143, e143, hx143_0⟩ := Kd.at_string (Kd.R_reads' HO_3.out).2.2 x4_1 p143 q143
                   cases e143
                   replace p143 := eq_true p143
                   replace q143 := eq_true q143
                   have p144 : 0 ≤ (x4_1 : Int) := of_decide_eq_true (by assumption)
                   have q144 : x4_1 < (t138.length : Int) := of_decide_eq_true (by assumption)
                   obtain ⟨ad144, e144, hx144_0⟩ := Kd.at_string (Kd.R_reads' HO_3.out).2.2 x4_1 p144 q144
                   obtain rfl : ad143 = ad144 := (by injection e144)
                   replace p144 := eq_true p144
                   replace q144 := eq_true q144
                   have p15 : 0 ≤ (x5_3 : Int) := of_decide_eq_true (by assumption)
                   have q15 : x5_3 < ((rdOf ByteArray.empty t138 x4_1).size : Int) := of_decide_eq_true (by assumption)
                   have hx15 := bt_at (rdOf ByteArray.empty t138 x4_1) x5_3
                   replace p15 := eq_true p15
                   replace q15 := eq_true q15
                   go_wp2
                   go_ret
                   exact ⟨vq, bq⟩
                ·rw [if_neg c27] at H
                 have c27b0 := decide_eq_false c27
                 clear c27
                 have H' := Aside0.mk H
                 clear H
                 have p143 : 0 ≤ (x4_1 : Int) := of_decide_eq_true (by assumption)
                 have q143 : x4_1 < (t138.length : Int) := of_decide_eq_true (by assumption)
                 obtain ⟨ad143, e143, hx143_0⟩ := Kd.at_string (Kd.R_reads' HO_3.out).2.2 x4_1 p143 q143
                 cases e143
                 replace p143 := eq_true p143
                 replace q143 := eq_true q143
                 have p144 : 0 ≤ (x4_1 : Int) := of_decide_eq_true (by assumption)
                 have q144 : x4_1 < (t138.length : Int) := of_decide_eq_true (by assumption)
                 obtain ⟨ad144, e144, hx144_0⟩ := Kd.at_string (Kd.R_reads' HO_3.out).2.2 x4_1 p144 q144
                 obtain rfl : ad143 = ad144 := (by injection e144)
                 replace p144 := eq_true p144
                 replace q144 := eq_true q144
                 have p15 : 0 ≤ (x5_3 : Int) := of_decide_eq_true (by assumption)
                 have q15 : x5_3 < ((rdOf ByteArray.empty t138 x4_1).size : Int) := of_decide_eq_true (by assumption)
                 have hx15 := bt_at (rdOf ByteArray.empty t138 x4_1) x5_3
                 replace p15 := eq_true p15
                 replace q15 := eq_true q15
                 go_wp2
                 go_roundg k3
                 case measure => have := HK1.out; have := HJ4.out; have := HK3.out; omega
                 case rel => exact ⟨(wrap64 (x5_3 + 1)), vq, H', ⟨by have := HK1.out; have := HJ4.out; have := HK3.out; omega⟩, ⟨by (with_reducible repeat (first | apply Kd.R_alloc | apply Kd.R_drewN | apply Kd.R_drew)); exact HO_3.out⟩, ⟨bq⟩⟩
              ·rw [if_neg c23] at H
               have c23b0 := decide_eq_false c23
               clear c23
               have H' := Aside0.mk H
               clear H
               have p143 : 0 ≤ (x4_1 : Int) := of_decide_eq_true (by assumption)
               have q143 : x4_1 < (t138.length : Int) := of_decide_eq_true (by assumption)
               obtain ⟨ad143, e143, hx143_0⟩ := Kd.at_string (Kd.R_reads' HO_3.out).2.2 x4_1 p143 q143
               cases e143
               replace p143 := eq_true p143
               replace q143 := eq_true q143
               have p144 : 0 ≤ (x4_1 : Int) := of_decide_eq_true (by assumption)
               have q144 : x4_1 < (t138.length : Int) := of_decide_eq_true (by assumption)
               obtain ⟨ad144, e144, hx144_0⟩ := Kd.at_string (Kd.R_reads' HO_3.out).2.2 x4_1 p144 q144
               obtain rfl : ad143 = ad144 := (by injection e144)
               replace p144 := eq_true p144
               replace q144 := eq_true q144
               have p15 : 0 ≤ (x5_3 : Int) := of_decide_eq_true (by assumption)
               have q15 : x5_3 < ((rdOf ByteArray.empty t138 x4_1).size : Int) := of_decide_eq_true (by assumption)
               have hx15 := bt_at (rdOf ByteArray.empty t138 x4_1) x5_3
               replace p15 := eq_true p15
               replace q15 := eq_true q15
               go_wp2
               go_roundg k3
               case measure => have := HK1.out; have := HJ4.out; have := HK3.out; omega
               case rel => exact ⟨(wrap64 (x5_3 + 1)), vq, H', ⟨by have := HK1.out; have := HJ4.out; have := HK3.out; omega⟩, ⟨by (with_reducible repeat (first | apply Kd.R_alloc | apply Kd.R_drewN | apply Kd.R_drew)); exact HO_3.out⟩, ⟨bq⟩⟩
            ·rw [if_neg c14] at H
             exact absurd H (by simp)
           ·rw [if_neg c13] at H
            have c13b0 := decide_eq_false c13
            clear c13
            have H' := Aside0.mk H
            clear H
            have p143 : 0 ≤ (x4_1 : Int) := of_decide_eq_true (by assumption)
            have q143 : x4_1 < (t138.length : Int) := of_decide_eq_true (by assumption)
            obtain ⟨ad143, e143, hx143_0⟩ := Kd.at_string (Kd.R_reads' HO_3.out).2.2 x4_1 p143 q143
            cases e143
            replace p143 := eq_true p143
            replace q143 := eq_true q143
            go_wp2
            go_roundg k3
            case measure => have := HK1.out; have := HJ4.out; have := HK3.out; omega
            case rel => exact ⟨(wrap64 (x4_1 + 1)), vq, H', ⟨by have := HK1.out; have := HJ4.out; have := HK3.out; omega⟩, ⟨by (with_reducible repeat (first | apply Kd.R_alloc | apply Kd.R_drewN | apply Kd.R_drew)); exact HO_3.out⟩, ⟨bq⟩⟩
          ·rw [if_neg c12] at H
           exact absurd H (by simp)
         ·rw [if_neg c11] at H
          exact absurd H (by simp)
   ·rw [if_neg c4] at H
    have c4b0 := decide_eq_false c4
    clear c4
    replace H := Option.bind_eq_some_iff.mp H
    obtain ⟨t141, A300, H⟩ := H
    replace H : (some t141) = some r := H
    have A30 := Aside0.mk A300
    clear A300
    obtain rfl := Option.some.inj H
    obtain ⟨Ao31, co31, eo31⟩ := Kd.R_slice HO_3.out
    subst eo31
    go_wp2_with (first | ((with_reducible refine gate_callee (f := 75) rfl ?_); refine goesL_ (some 70) rfl rfl Tryz.func75 (by kernel_rfl) rfl #[.int .i64 (a0.size : Int), .int .i64 1, .int .i64 60] rfl aq ?_; (with_reducible refine (spec_l1In.calls (a0.size : Int) 1 60 t141 _ A30.out).mono ?_); rintro e w' ⟨rfl, ⟨nd, rfl⟩⟩; refine ⟨_, rfl, ?_⟩))
    go_ret
    exact ⟨vq, bq⟩
def spec_l2Parts.f (k : Nat) (a0 : ByteArray) : Option (List ByteArray) := (spec_l1Cut.f k a0 46).bind fun t145 => (if (t145.length : Int) > 1 then (if 0 ≤ (wrap64 ((t145.length : Int) - 1)) then (if (wrap64 ((t145.length : Int) - 1)) < (t145.length : Int) then (if (rdOf ByteArray.empty t145 (wrap64 ((t145.length : Int) - 1))).toList = ([] : List UInt8) then (if (wrap64 ((t145.length : Int) - 1)) ≤ (t145.length : Int) then (some (t145.take ((wrap64 ((t145.length : Int) - 1)) : Int).toNat)) else (none)) else (some t145)) else (none)) else (none)) else (some t145))
theorem spec_l2Parts.mono : ∀ a0 k, LeO (spec_l2Parts.f k a0) (spec_l2Parts.f (k + 1) a0) := by
 intro a0 k
 unfold spec_l2Parts.f
 repeat' first
   | (with_reducible exact spec_l1Cut.mono _ _ _)
   | (with_reducible exact LeO.refl _)
   | (with_reducible exact LeO.none _)
   | (with_reducible refine LeO.ite ?_ ?_)
   | (with_reducible refine LeO.bind ?_ (fun _ => ?_))
set_option maxHeartbeats 8000000 in
set_option maxRecDepth 100000 in
theorem spec_l2Parts.calls (k : Nat) (a0 : ByteArray) (r : List ByteArray) (w : World) (h : spec_l2Parts.f k a0 = some r) :
  Calls Tryz.prog 142 #[.string a0] w fun e w' => ∃ v0_ : Value, e = .returned (v0_) ∧ Kd.R Kd.string 9 w' w.heap.size (fun _ => True) v0_ r ∧ Below w.heap.size w w' := by
 have HB := Aside0.mk (Below.refl w.heap.size w)
 have H : ((spec_l1Cut.f k a0 46).bind fun t145 => (if (t145.length : Int) > 1 then (if 0 ≤ (wrap64 ((t145.length : Int) - 1)) then (if (wrap64 ((t145.length : Int) - 1)) < (t145.length : Int) then (if (rdOf ByteArray.empty t145 (wrap64 ((t145.length : Int) - 1))).toList = ([] : List UInt8) then (if (wrap64 ((t145.length : Int) - 1)) ≤ (t145.length : Int) then (some (t145.take ((wrap64 ((t145.length : Int) - 1)) : Int).toNat)) else (none)) else (some t145)) else (none)) else (none)) else (some t145))) = some r := h
 clear h
 replace H := Option.bind_eq_some_iff.mp H
 obtain ⟨t145, A20, H⟩ := H
 replace H : (if (t145.length : Int) > 1 then (if 0 ≤ (wrap64 ((t145.length : Int) - 1)) then (if (wrap64 ((t145.length : Int) - 1)) < (t145.length : Int) then (if (rdOf ByteArray.empty t145 (wrap64 ((t145.length : Int) - 1))).toList = ([] : List UInt8) then (if (wrap64 ((t145.length : Int) - 1)) ≤ (t145.length : Int) then (some (t145.take ((wrap64 ((t145.length : Int) - 1)) : Int).toNat)) else (none)) else (some t145)) else (none)) else (none)) else (some t145)) = some r := H
 have A2 := Aside0.mk A20
 clear A20
 by_cases c3 : (t145.length : Int) > 1
 ·rw [if_pos c3] at H
  have c3b0 := decide_eq_true c3
  have c3b1 : decide (1 < t145.length) = true := decide_eq_true (by omega)
  clear c3
  obtain ⟨ji4, hji4⟩ : ∃ j_ : Int, (wrap64 ((t145.length : Int) - 1)) = j_ := ⟨_, rfl⟩
  replace H : (if 0 ≤ (ji4) then (if (ji4) < (t145.length : Int) then (if (rdOf ByteArray.empty t145 (ji4)).toList = ([] : List UInt8) then (if (ji4) ≤ (t145.length : Int) then (some (t145.take ((ji4) : Int).toNat)) else (none)) else (some t145)) else (none)) else (none)) = some r := by first | (rw [hji4] at H; exact H) | (simp only [hji4] at H ⊢; exact H)
  (try rw [hji4] at A2)
  have hji4w : (IntKind.i64.wrap ((t145.length : Int) - 1)) = ji4 := (i64_w _).trans hji4
  by_cases c5 : 0 ≤ (ji4)
  ·rw [if_pos c5] at H
   have c5b0 := decide_eq_true c5
   clear c5
   by_cases c6 : (ji4) < (t145.length : Int)
   ·rw [if_pos c6] at H
    have c6b0 := decide_eq_true c6
    clear c6
    by_cases c7 : (rdOf ByteArray.empty t145 (ji4)).toList = ([] : List UInt8)
    ·rw [if_pos c7] at H
     have c7b0 := beq_iff_eq.mpr c7
     have c7b1 := bne_eq_false_iff_eq.mpr c7
     clear c7
     by_cases c8 : (ji4) ≤ (t145.length : Int)
     ·rw [if_pos c8] at H
      have c8b0 := eq_true c8
      have c8b1 := decide_eq_true c8
      clear c8
      obtain ⟨y149, hy149⟩ : ∃ y_ : List ByteArray, y_ = (t145.take ((ji4) : Int).toNat) := ⟨_, rfl⟩
      replace H : (some y149) = some r := by first | (rw [hy149]; with_reducible exact H) | (have H2_ := (Option.bind_some _ _).symm.trans H; rw [hy149]; with_reducible exact H2_) | (have H2_ := (Option.bind_some _ _).symm.trans H; with_reducible exact H2_) | with_reducible exact H | (rw [hy149]; exact H) | exact H
      have Ny149 := Aside0.mk hy149
      clear hy149
      obtain rfl := Option.some.inj H
      go_enter Tryz.func142, Tryz.ntmps142
      go_wp2_with (first | ((with_reducible refine gate_callee (f := 141) rfl ?_); refine goesL_ (some 5) rfl rfl Tryz.func141 (by kernel_rfl) rfl #[.string a0, .int .u8 46] rfl aq ?_; (with_reducible refine (spec_l1Cut.calls k a0 46 t145 _ A2.out).mono ?_); rintro e w9 ⟨v146, rfl, ho0, hb⟩; refine ⟨_, rfl, ?_⟩; have n0_ := Aside0.mk (Kd.R_lower ho0 (below_size (bq))); have n1_ := Aside0.mk (below_step (bq) hb); clear HB; have HO147 := n0_; have HB := n1_; clear n0_ n1_; (try clear hb); (try clear hb2); (try clear hk); (try clear hi); (try clear ho0); obtain ⟨Ao10, co10, eo10⟩ := Kd.R_slice HO147.out; subst eo10; have p148 : 0 ≤ ((ji4) : Int) := of_decide_eq_true (by assumption); have q148 : (ji4) < (t145.length : Int) := of_decide_eq_true (by assumption); obtain ⟨ad148, e148, hx148_0⟩ := Kd.at_string (Kd.R_reads' HO147.out).2.2 (ji4) p148 q148; cases e148; replace p148 := eq_true p148; replace q148 := eq_true q148; have q11 : ((ji4) : Int) ≤ ((t145.length : Int) : Int) := of_decide_eq_true (by assumption); obtain ⟨i011, hi011, _, hsz11, _⟩ := info_parts info9; have hcut11 := cut_to (P := Tryz.prog) 26 9 .i64 Tryz.underlying26 hi011 (some ad148) t145.length co10 (ji4) (of_decide_eq_true (by assumption)) q11 (Kd.R_reads' HO147.out).2.1; have hr11 := Kd.R_take (m := ((ji4) : Int).toNat) HO147.out (by omega); have hy11 : y149.length = ((ji4) : Int).toNat := (by rw [Ny149.out, List.length_take]; omega); rw [← Ny149.out] at hr11; rw [← hy11] at hr11 hcut11; clear hy11 hi011 hsz11 HO147; have HO151 := Aside0.mk hr11; clear hr11; replace q11 := eq_true q11))
      go_ret
      exact ⟨_, by first | rfl | (simp [errW_none, errW_some] <;> rfl) | (simp only [← hji4]; first | rfl | (simp [errW_none, errW_some] <;> rfl)) | (simp [*, errW_none, errW_some] <;> rfl) | (simp [nen, een]; done), by (with_reducible repeat (first | apply Kd.R_alloc | apply Kd.R_drewN | apply Kd.R_drew)); exact HO151.out, bq⟩
     ·rw [if_neg c8] at H
      exact absurd H (by simp)
    ·rw [if_neg c7] at H
     have c7b0 := beq_eq_false_iff_ne.mpr c7
     have c7b1 := bne_iff_ne.mpr c7
     obtain rfl := Option.some.inj H
     go_enter Tryz.func142, Tryz.ntmps142
     go_wp2_with (first | ((with_reducible refine gate_callee (f := 141) rfl ?_); refine goesL_ (some 5) rfl rfl Tryz.func141 (by kernel_rfl) rfl #[.string a0, .int .u8 46] rfl aq ?_; (with_reducible refine (spec_l1Cut.calls k a0 46 t145 _ A2.out).mono ?_); rintro e w12 ⟨v146, rfl, ho0, hb⟩; refine ⟨_, rfl, ?_⟩; have n0_ := Aside0.mk (Kd.R_lower ho0 (below_size (bq))); have n1_ := Aside0.mk (below_step (bq) hb); clear HB; have HO147 := n0_; have HB := n1_; clear n0_ n1_; (try clear hb); (try clear hb2); (try clear hk); (try clear hi); (try clear ho0); obtain ⟨Ao13, co13, eo13⟩ := Kd.R_slice HO147.out; subst eo13; have p148 : 0 ≤ ((ji4) : Int) := of_decide_eq_true (by assumption); have q148 : (ji4) < (t145.length : Int) := of_decide_eq_true (by assumption); obtain ⟨ad148, e148, hx148_0⟩ := Kd.at_string (Kd.R_reads' HO147.out).2.2 (ji4) p148 q148; cases e148; replace p148 := eq_true p148; replace q148 := eq_true q148))
     go_ret
     exact ⟨_, by first | rfl | (simp [errW_none, errW_some] <;> rfl) | (simp only [← hji4]; first | rfl | (simp [errW_none, errW_some] <;> rfl)) | (simp [*, errW_none, errW_some] <;> rfl) | (simp [nen, een]; done), by (with_reducible repeat (first | apply Kd.R_alloc | apply Kd.R_drewN | apply Kd.R_drew)); exact HO147.out, bq⟩
   ·rw [if_neg c6] at H
    exact absurd H (by simp)
  ·rw [if_neg c5] at H
   exact absurd H (by simp)
 ·rw [if_neg c3] at H
  have c3b0 := decide_eq_false c3
  have c3b1 : decide (1 < t145.length) = false := decide_eq_false (by omega)
  clear c3
  obtain rfl := Option.some.inj H
  go_enter Tryz.func142, Tryz.ntmps142
  go_wp2_with (first | ((with_reducible refine gate_callee (f := 141) rfl ?_); refine goesL_ (some 5) rfl rfl Tryz.func141 (by kernel_rfl) rfl #[.string a0, .int .u8 46] rfl aq ?_; (with_reducible refine (spec_l1Cut.calls k a0 46 t145 _ A2.out).mono ?_); rintro e w14 ⟨v146, rfl, ho0, hb⟩; refine ⟨_, rfl, ?_⟩; have n0_ := Aside0.mk (Kd.R_lower ho0 (below_size (bq))); have n1_ := Aside0.mk (below_step (bq) hb); clear HB; have HO147 := n0_; have HB := n1_; clear n0_ n1_; (try clear hb); (try clear hb2); (try clear hk); (try clear hi); (try clear ho0); obtain ⟨Ao15, co15, eo15⟩ := Kd.R_slice HO147.out; subst eo15))
  go_ret
  exact ⟨_, by first | rfl | (simp [errW_none, errW_some] <;> rfl) | (simp [*, errW_none, errW_some] <;> rfl) | (simp [nen, een]; done), by (with_reducible repeat (first | apply Kd.R_alloc | apply Kd.R_drewN | apply Kd.R_drew)); exact HO147.out, bq⟩
end Go.Proofs.YteldemgdcpmmfaaGreatDoor.Lh
namespace Go.Proofs.YteldemgdcpmmfaaGreatDoor.Lh
open Go.RowKit Go.Proofs.YteldemgdcpmmfaaGreatDoor.H Go.Proofs.YteldemgdcpmmfaaGreatDoorW.PrintWords Go.Proofs.YteldemgdcpmmfaaGreatDoorW.PrintLast Go.Proofs.YteldemgdcpmmfaaGreatDoorW.PrintMore Go.Proofs.YteldemgdcpmmfaaGreatDoor.Lp
attribute [local go_sem] max2_int min2_int max_two min_two max_three min_three max_four min_four   -- for this text's walks alone
set_option linter.unusedVariables false
set_option linter.unusedSimpArgs false
def spec_l2Digits.l0 : Nat → ByteArray → Int → Int → Int → Option (Int)
 | 0, _, _, _, _ => none
 | k + 1, x0, x1, x5, x6 => if x6 < (x0.size : Int) then (if 0 ≤ x6 then ((spec_l1Hex.f k (bt x0 x6)).bind fun t152 => (if t152 < 0 then (some (-1)) else (if t152 ≥ x1 then (some (-1)) else (if x5 > 4294967295 then (some (-1)) else (spec_l2Digits.l0 k x0 x1 (wrap64 ((wrap64 (x5 * x1)) + t152)) (wrap64 (x6 + 1))))))) else (none)) else (some x5)
def spec_l2Digits.f (k : Nat) (a0 : ByteArray) (a1 : Int) : Option (Int) := spec_l2Digits.l0 k a0 a1 0 0
theorem spec_l2Digits.mono_l : ∀ k, (∀ y0 y1 y2 y3, LeO (spec_l2Digits.l0 k y0 y1 y2 y3) (spec_l2Digits.l0 (k + 1) y0 y1 y2 y3))
 | 0 => fun _ _ _ _ r h => by simp [spec_l2Digits.l0] at h
 | k + 1 => by
  have ih0 := spec_l2Digits.mono_l k
  ·intro y0 y1 y2 y3
   unfold spec_l2Digits.l0
   repeat' first
   | (with_reducible exact ih0 _ _ _ _)
   | (with_reducible exact spec_l1Hex.mono _ _)
   | (with_reducible exact LeO.refl _)
   | (with_reducible exact LeO.none _)
   | (with_reducible refine LeO.ite ?_ ?_)
   | (with_reducible refine LeO.bind ?_ (fun _ => ?_))
theorem spec_l2Digits.mono : ∀ a0 a1 k, LeO (spec_l2Digits.f k a0 a1) (spec_l2Digits.f (k + 1) a0 a1) := by
 intro a0 a1 k
 have ih0 := spec_l2Digits.mono_l k
 unfold spec_l2Digits.f
 repeat' first
   | (with_reducible exact ih0 _ _ _ _)
   | (with_reducible exact spec_l1Hex.mono _ _)
   | (with_reducible exact LeO.refl _)
   | (with_reducible exact LeO.none _)
   | (with_reducible refine LeO.ite ?_ ?_)
   | (with_reducible refine LeO.bind ?_ (fun _ => ?_))
set_option maxHeartbeats 8000000 in
set_option maxRecDepth 100000 in
theorem spec_l2Digits.calls (k : Nat) (a0 : ByteArray) (a1 : Int) (r : Int) (w : World) (h : spec_l2Digits.f k a0 a1 = some r) :
  Calls Tryz.prog 168 #[.string a0, .int .i64 a1] w fun e w' => e = .returned (.int .i64 r) ∧ Drawn0 w w' := by
 have H : (spec_l2Digits.l0 k a0 a1 0 0) = some r := h
 clear h
 have H' := Aside0.mk H
 clear H
 go_enter Tryz.func168, Tryz.ntmps168
 go_wp2
 go_loopg [5, 6] k (fun kq v5 v6 w' => ∃ (x5_1 : Int) (x6_1 : Int), v5 = .int .i64 x5_1 ∧ v6 = .int .i64 x6_1 ∧ Aside0 (spec_l2Digits.l0 kq a0 a1 x5_1 x6_1 = some r) ∧ Aside0 (kq ≤ k) ∧ Drawn0 w w')
 case atStart => exact ⟨(0), (0), vq, vq, H', ⟨Nat.le_refl _⟩, dq⟩
 case round =>
  clear H'
  obtain ⟨x5_1, x6_1, rfl, rfl, HA, HK1, ⟨m1, rfl⟩⟩ := hrel
  cases gk with
  | zero => exact absurd HA.out (by simp [spec_l2Digits.l0])
  | succ k1 =>
   have H := HA.out
   clear HA
   simp only [spec_l2Digits.l0] at H
   by_cases c3 : x6_1 < (a0.size : Int)
   ·rw [if_pos c3] at H
    have c3b0 := decide_eq_true c3
    clear c3
    by_cases c4 : 0 ≤ x6_1
    ·rw [if_pos c4] at H
     have c4b0 := decide_eq_true c4
     clear c4
     replace H := Option.bind_eq_some_iff.mp H
     obtain ⟨t152, A60, H⟩ := H
     replace H : (if t152 < 0 then (some (-1)) else (if t152 ≥ a1 then (some (-1)) else (if x5_1 > 4294967295 then (some (-1)) else (spec_l2Digits.l0 k1 a0 a1 (wrap64 ((wrap64 (x5_1 * a1)) + t152)) (wrap64 (x6_1 + 1)))))) = some r := H
     have A6 := Aside0.mk A60
     clear A60
     by_cases c7 : t152 < 0
     ·rw [if_pos c7] at H
      have c7b0 := decide_eq_true c7
      clear c7
      obtain rfl := Option.some.inj H
      have p5 : 0 ≤ (x6_1 : Int) := of_decide_eq_true (by assumption)
      have q5 : x6_1 < (a0.size : Int) := of_decide_eq_true (by assumption)
      have hx5 := bt_at a0 x6_1
      replace p5 := eq_true p5
      replace q5 := eq_true q5
      go_wp2_with (first | ((with_reducible refine gate_callee (f := 160) rfl ?_); refine goesL_ (some 17) rfl rfl Tryz.func160 (by kernel_rfl) rfl #[.int .u8 (bt a0 x6_1)] rfl aq ?_; (with_reducible refine (spec_l1Hex.calls k1 (bt a0 x6_1) t152 _ A6.out).mono ?_); rintro e w' ⟨rfl, ⟨nd, rfl⟩⟩; refine ⟨_, rfl, ?_⟩))
      go_ret
      exact ⟨vq, dq⟩
     ·rw [if_neg c7] at H
      have c7b0 := decide_eq_false c7
      clear c7
      by_cases c8 : t152 ≥ a1
      ·rw [if_pos c8] at H
       have c8b0 := decide_eq_true c8
       clear c8
       obtain rfl := Option.some.inj H
       have p5 : 0 ≤ (x6_1 : Int) := of_decide_eq_true (by assumption)
       have q5 : x6_1 < (a0.size : Int) := of_decide_eq_true (by assumption)
       have hx5 := bt_at a0 x6_1
       replace p5 := eq_true p5
       replace q5 := eq_true q5
       go_wp2_with (first | ((with_reducible refine gate_callee (f := 160) rfl ?_); refine goesL_ (some 17) rfl rfl Tryz.func160 (by kernel_rfl) rfl #[.int .u8 (bt a0 x6_1)] rfl aq ?_; (with_reducible refine (spec_l1Hex.calls k1 (bt a0 x6_1) t152 _ A6.out).mono ?_); rintro e w' ⟨rfl, ⟨nd, rfl⟩⟩; refine ⟨_, rfl, ?_⟩))
       go_ret
       exact ⟨vq, dq⟩
      ·rw [if_neg c8] at H
       have c8b0 := decide_eq_false c8
       clear c8
       by_cases c9 : x5_1 > 4294967295
       ·rw [if_pos c9] at H
        have c9b0 := decide_eq_true c9
        clear c9
        obtain rfl := Option.some.inj H
        have p5 : 0 ≤ (x6_1 : Int) := of_decide_eq_true (by assumption)
        have q5 : x6_1 < (a0.size : Int) := of_decide_eq_true (by assumption)
        have hx5 := bt_at a0 x6_1
        replace p5 := eq_true p5
        replace q5 := eq_true q5
        go_wp2_with (first | ((with_reducible refine gate_callee (f := 160) rfl ?_); refine goesL_ (some 17) rfl rfl Tryz.func160 (by kernel_rfl) rfl #[.int .u8 (bt a0 x6_1)] rfl aq ?_; (with_reducible refine (spec_l1Hex.calls k1 (bt a0 x6_1) t152 _ A6.out).mono ?_); rintro e w' ⟨rfl, ⟨nd, rfl⟩⟩; refine ⟨_, rfl, ?_⟩))
        go_ret
        exact ⟨vq, dq⟩
       ·rw [if_neg c9] at H
        have c9b0 := decide_eq_false c9
        clear c9
        have H' := Aside0.mk H
        clear H
        have p5 : 0 ≤ (x6_1 : Int) := of_decide_eq_true (by assumption)
        have q5 : x6_1 < (a0.size : Int) := of_decide_eq_true (by assumption)
        have hx5 := bt_at a0 x6_1
        replace p5 := eq_true p5
        replace q5 := eq_true q5
        go_wp2_with (first | ((with_reducible refine gate_callee (f := 160) rfl ?_); refine goesL_ (some 17) rfl rfl Tryz.func160 (by kernel_rfl) rfl #[.int .u8 (bt a0 x6_1)] rfl aq ?_; (with_reducible refine (spec_l1Hex.calls k1 (bt a0 x6_1) t152 _ A6.out).mono ?_); rintro e w' ⟨rfl, ⟨nd, rfl⟩⟩; refine ⟨_, rfl, ?_⟩))
        go_roundg k1
        case measure => have := HK1.out; omega
        case rel => exact ⟨(wrap64 ((wrap64 (x5_1 * a1)) + t152)), (wrap64 (x6_1 + 1)), vq, vq, H', ⟨by have := HK1.out; omega⟩, dq⟩
    ·rw [if_neg c4] at H
     exact absurd H (by simp)
   ·rw [if_neg c3] at H
    have c3b0 := decide_eq_false c3
    clear c3
    obtain rfl := Option.some.inj H
    go_wp2
    go_ret
    exact ⟨vq, dq⟩
mutual
def spec_l2Part.j0 : Nat → ByteArray → Bool → Option (Int)
 | 0, _, _ => none
 | k + 1, x0, x6 => if x6 = true then (if 2 ≤ (x0.size : Int) then ((spec_l2Digits.f k (x0.extract 2 x0.size) 16).bind fun t153 => (some t153)) else (none)) else (if (x0.size : Int) ≥ 2 then (if 0 < (x0.size : Int) then (spec_l2Part.j1 k x0 ((bt x0 0) == 48)) else (none)) else (spec_l2Part.j1 k x0 false))
def spec_l2Part.j1 : Nat → ByteArray → Bool → Option (Int)
 | 0, _, _ => none
 | k + 1, x0, x28 => if x28 = true then (if 1 ≤ (x0.size : Int) then ((spec_l2Digits.f k (x0.extract 1 x0.size) 8).bind fun t154 => (some t154)) else (none)) else ((spec_l2Digits.f k x0 10).bind fun t155 => (some t155))
end
def spec_l2Part.f (k : Nat) (a0 : ByteArray) : Option (Int) := if a0.toList = ([] : List UInt8) then (some (-1)) else (if (a0.size : Int) ≥ 2 then (if 0 < (a0.size : Int) then (if (bt a0 0) = 48 then (if 1 < (a0.size : Int) then (if (bt a0 1) = 120 then (spec_l2Part.j0 k a0 true) else (spec_l2Part.j0 k a0 ((bt a0 1) == 88))) else (none)) else (spec_l2Part.j0 k a0 false)) else (none)) else (spec_l2Part.j0 k a0 false))
theorem spec_l2Part.mono_l : ∀ k, (∀ y0 y1, LeO (spec_l2Part.j0 k y0 y1) (spec_l2Part.j0 (k + 1) y0 y1)) ∧ (∀ y0 y1, LeO (spec_l2Part.j1 k y0 y1) (spec_l2Part.j1 (k + 1) y0 y1))
 | 0 => ⟨fun _ _ r h => by simp [spec_l2Part.j0] at h, fun _ _ r h => by simp [spec_l2Part.j1] at h⟩
 | k + 1 => by
  obtain ⟨ih0, ih1⟩ := spec_l2Part.mono_l k
  refine ⟨?_, ?_⟩
  ·intro y0 y1
   unfold spec_l2Part.j0
   repeat' first
   | (with_reducible exact ih0 _ _)
   | (with_reducible exact ih1 _ _)
   | (with_reducible exact spec_l2Digits.mono _ _ _)
   | (with_reducible exact LeO.refl _)
   | (with_reducible exact LeO.none _)
   | (with_reducible refine LeO.ite ?_ ?_)
   | (with_reducible refine LeO.bind ?_ (fun _ => ?_))
  ·intro y0 y1
   unfold spec_l2Part.j1
   repeat' first
   | (with_reducible exact ih0 _ _)
   | (with_reducible exact ih1 _ _)
   | (with_reducible exact spec_l2Digits.mono _ _ _)
   | (with_reducible exact LeO.refl _)
   | (with_reducible exact LeO.none _)
   | (with_reducible refine LeO.ite ?_ ?_)
   | (with_reducible refine LeO.bind ?_ (fun _ => ?_))
theorem spec_l2Part.mono : ∀ a0 k, LeO (spec_l2Part.f k a0) (spec_l2Part.f (k + 1) a0) := by
 intro a0 k
 obtain ⟨ih0, ih1⟩ := spec_l2Part.mono_l k
 unfold spec_l2Part.f
 repeat' first
   | (with_reducible exact ih0 _ _)
   | (with_reducible exact ih1 _ _)
   | (with_reducible exact spec_l2Digits.mono _ _ _)
   | (with_reducible exact LeO.refl _)
   | (with_reducible exact LeO.none _)
   | (with_reducible refine LeO.ite ?_ ?_)
   | (with_reducible refine LeO.bind ?_ (fun _ => ?_))
set_option maxHeartbeats 8000000 in
set_option maxRecDepth 100000 in
theorem spec_l2Part.calls (k : Nat) (a0 : ByteArray) (r : Int) (w : World) (h : spec_l2Part.f k a0 = some r) :
  Calls Tryz.prog 143 #[.string a0] w fun e w' => e = .returned (.int .i64 r) ∧ Drawn0 w w' := by
 have H : (if a0.toList = ([] : List UInt8) then (some (-1)) else (if (a0.size : Int) ≥ 2 then (if 0 < (a0.size : Int) then (if (bt a0 0) = 48 then (if 1 < (a0.size : Int) then (if (bt a0 1) = 120 then (spec_l2Part.j0 k a0 true) else (spec_l2Part.j0 k a0 ((bt a0 1) == 88))) else (none)) else (spec_l2Part.j0 k a0 false)) else (none)) else (spec_l2Part.j0 k a0 false))) = some r := h
 clear h
 by_cases c2 : a0.toList = ([] : List UInt8)
 ·rw [if_pos c2] at H
  have c2b0 := beq_iff_eq.mpr c2
  have c2b1 := bne_eq_false_iff_eq.mpr c2
  clear c2
  obtain rfl := Option.some.inj H
  go_enter Tryz.func143, Tryz.ntmps143
  go_wp2
  go_ret
  exact ⟨vq, dq⟩
 ·rw [if_neg c2] at H
  have c2b0 := beq_eq_false_iff_ne.mpr c2
  have c2b1 := bne_iff_ne.mpr c2
  have HC3 := Aside0.mk H
  clear H
  go_enter Tryz.func143, Tryz.ntmps143
  go_upto_region 3 with (fail)
  go_cut [6] (fun v6 wc => ∃ (kq : Nat) (x6_2 : Bool), v6 = .bool x6_2 ∧ Aside0 (spec_l2Part.j0 kq a0 x6_2 = some r) ∧ Aside0 (kq ≤ k) ∧ Drawn0 w wc)
  case first =>
   have H := HC3.out
   clear HC3
   by_cases c4 : (a0.size : Int) ≥ 2
   ·rw [if_pos c4] at H
    have c4b0 := decide_eq_true c4
    have c4b1 : decide (2 ≤ a0.size) = true := decide_eq_true (by omega)
    clear c4
    (first | rw [c4b0] | (simp only [i64_w, i32_w]; rw [c4b0]) | skip)
    by_cases c5 : 0 < (a0.size : Int)
    ·rw [if_pos c5] at H
     have c5b0 := decide_eq_true c5
     have c5b1 : decide (0 < a0.size) = true := decide_eq_true (by omega)
     clear c5
     by_cases c7 : (bt a0 0) = 48
     ·rw [if_pos c7] at H
      have c7b0 := beq_iff_eq.mpr c7
      have c7b1 := bne_eq_false_iff_eq.mpr c7
      clear c7
      by_cases c8 : 1 < (a0.size : Int)
      ·rw [if_pos c8] at H
       have c8b0 := decide_eq_true c8
       have c8b1 : decide (1 < a0.size) = true := decide_eq_true (by omega)
       clear c8
       by_cases c10 : (bt a0 1) = 120
       ·rw [if_pos c10] at H
        have c10b0 := beq_iff_eq.mpr c10
        have c10b1 := bne_eq_false_iff_eq.mpr c10
        clear c10
        have H' := Aside0.mk H
        clear H
        have p6 : 0 ≤ (0 : Int) := (by omega)
        have q6 : 0 < a0.size := (by have : (0 : Int) < (a0.size : Int) := of_decide_eq_true (by assumption); omega)
        have hx6 : ∀ h : 0 < a0.size, ((a0[0]'h).toNat : Int) = bt a0 0 := bt_at a0 0
        clear p6
        have qi6 : (0 < (a0.size : Int)) = True := eq_true (of_decide_eq_true (by assumption))
        replace q6 := eq_true q6
        have p9 : 0 ≤ (1 : Int) := (by omega)
        have q9 : 1 < a0.size := (by have : (1 : Int) < (a0.size : Int) := of_decide_eq_true (by assumption); omega)
        have hx9 : ∀ h : 1 < a0.size, ((a0[1]'h).toNat : Int) = bt a0 1 := bt_at a0 1
        clear p9
        have qi9 : (1 < (a0.size : Int)) = True := eq_true (of_decide_eq_true (by assumption))
        replace q9 := eq_true q9
        go_wp2
        go_meet
        case rel => exact ⟨_, (true), vq, H', ⟨by first | omega | exact Nat.le_refl _⟩, dq⟩
       ·rw [if_neg c10] at H
        have c10b0 := beq_eq_false_iff_ne.mpr c10
        have c10b1 := bne_iff_ne.mpr c10
        have H' := Aside0.mk H
        clear H
        have p6 : 0 ≤ (0 : Int) := (by omega)
        have q6 : 0 < a0.size := (by have : (0 : Int) < (a0.size : Int) := of_decide_eq_true (by assumption); omega)
        have hx6 : ∀ h : 0 < a0.size, ((a0[0]'h).toNat : Int) = bt a0 0 := bt_at a0 0
        clear p6
        have qi6 : (0 < (a0.size : Int)) = True := eq_true (of_decide_eq_true (by assumption))
        replace q6 := eq_true q6
        have p9 : 0 ≤ (1 : Int) := (by omega)
        have q9 : 1 < a0.size := (by have : (1 : Int) < (a0.size : Int) := of_decide_eq_true (by assumption); omega)
        have hx9 : ∀ h : 1 < a0.size, ((a0[1]'h).toNat : Int) = bt a0 1 := bt_at a0 1
        clear p9
        have qi9 : (1 < (a0.size : Int)) = True := eq_true (of_decide_eq_true (by assumption))
        replace q9 := eq_true q9
        have p11 : 0 ≤ (1 : Int) := (by omega)
        have q11 : 1 < a0.size := (by have : (1 : Int) < (a0.size : Int) := of_decide_eq_true (by assumption); omega)
        have hx11 : ∀ h : 1 < a0.size, ((a0[1]'h).toNat : Int) = bt a0 1 := bt_at a0 1
        clear p11
        have qi11 : (1 < (a0.size : Int)) = True := eq_true (of_decide_eq_true (by assumption))
        replace q11 := eq_true q11
        go_wp2
        go_meet
        case rel => exact ⟨_, (((bt a0 1) == 88)), vq, H', ⟨by first | omega | exact Nat.le_refl _⟩, dq⟩
      ·rw [if_neg c8] at H
       exact absurd H (by simp)
     ·rw [if_neg c7] at H
      have c7b0 := beq_eq_false_iff_ne.mpr c7
      have c7b1 := bne_iff_ne.mpr c7
      have H' := Aside0.mk H
      clear H
      have p6 : 0 ≤ (0 : Int) := (by omega)
      have q6 : 0 < a0.size := (by have : (0 : Int) < (a0.size : Int) := of_decide_eq_true (by assumption); omega)
      have hx6 : ∀ h : 0 < a0.size, ((a0[0]'h).toNat : Int) = bt a0 0 := bt_at a0 0
      clear p6
      have qi6 : (0 < (a0.size : Int)) = True := eq_true (of_decide_eq_true (by assumption))
      replace q6 := eq_true q6
      go_wp2
      go_meet
      case rel => exact ⟨_, (false), vq, H', ⟨by first | omega | exact Nat.le_refl _⟩, dq⟩
    ·rw [if_neg c5] at H
     exact absurd H (by simp)
   ·rw [if_neg c4] at H
    have c4b0 := decide_eq_false c4
    have c4b1 : decide (2 ≤ a0.size) = false := decide_eq_false (by omega)
    clear c4
    (first | rw [c4b0] | (simp only [i64_w, i32_w]; rw [c4b0]) | skip)
    have H' := Aside0.mk H
    clear H
    go_wp2
    go_meet
    case rel => exact ⟨_, (false), vq, H', ⟨by first | omega | exact Nat.le_refl _⟩, dq⟩
  case rest =>
   clear HC3
   obtain ⟨kq, x6_2, rfl, HA, HJ2, ⟨mc2, rfl⟩⟩ := hcut
   cases kq with
   | zero => exact absurd HA.out (by simp [spec_l2Part.j0])
   | succ kj2 =>
    have H := HA.out
    clear HA
    simp only [spec_l2Part.j0] at H
    by_cases c12 : x6_2 = true
    ·subst c12
     have H1 : (if 2 ≤ (a0.size : Int) then ((spec_l2Digits.f kj2 (a0.extract 2 a0.size) 16).bind fun t153 => (some t153)) else (none)) = some r := by rw [if_pos rfl] at H; exact H
     clear H
     have H := H1
     clear H1
     by_cases c13 : 2 ≤ (a0.size : Int)
     ·rw [if_pos c13] at H
      have c13b0 := eq_true c13
      have c13b1 := decide_eq_true c13
      clear c13
      replace H := Option.bind_eq_some_iff.mp H
      obtain ⟨t153, A140, H⟩ := H
      replace H : (some t153) = some r := H
      have A14 := Aside0.mk A140
      clear A140
      obtain rfl := Option.some.inj H
      go_wp2_with (first | ((with_reducible refine gate_callee (f := 168) rfl ?_); refine goesL_ (some 27) rfl rfl Tryz.func168 (by kernel_rfl) rfl #[.string (a0.extract 2 a0.size), .int .i64 16] rfl aq ?_; (with_reducible refine (spec_l2Digits.calls kj2 (a0.extract 2 a0.size) 16 t153 _ A14.out).mono ?_); rintro e w' ⟨rfl, ⟨nd, rfl⟩⟩; refine ⟨_, rfl, ?_⟩))
      go_ret
      exact ⟨vq, dq⟩
     ·rw [if_neg c13] at H
      exact absurd H (by simp)
    ·replace c12 := Bool.eq_false_iff.mpr c12
     subst c12
     have H1 : (if (a0.size : Int) ≥ 2 then (if 0 < (a0.size : Int) then (spec_l2Part.j1 kj2 a0 ((bt a0 0) == 48)) else (none)) else (spec_l2Part.j1 kj2 a0 false)) = some r := by rw [if_neg (show ¬ (false = true) by decide)] at H; exact H
     clear H
     have H := H1
     clear H1
     have HC15 := Aside0.mk H
     clear H
     go_upto_region 5 with (fail)
     go_cut [28] (fun v28 wc => ∃ (kq : Nat) (x28_14 : Bool), v28 = .bool x28_14 ∧ Aside0 (spec_l2Part.j1 kq a0 x28_14 = some r) ∧ Aside0 (kq ≤ kj2) ∧ Drawn0 w wc)
     case first =>
      have H := HC15.out
      clear HC15
      by_cases c16 : (a0.size : Int) ≥ 2
      ·rw [if_pos c16] at H
       have c16b0 := decide_eq_true c16
       have c16b1 : decide (2 ≤ a0.size) = true := decide_eq_true (by omega)
       clear c16
       (first | rw [c16b0] | (simp only [i64_w, i32_w]; rw [c16b0]) | skip)
       by_cases c17 : 0 < (a0.size : Int)
       ·rw [if_pos c17] at H
        have c17b0 := decide_eq_true c17
        have c17b1 : decide (0 < a0.size) = true := decide_eq_true (by omega)
        clear c17
        have H' := Aside0.mk H
        clear H
        have p18 : 0 ≤ (0 : Int) := (by omega)
        have q18 : 0 < a0.size := (by have : (0 : Int) < (a0.size : Int) := of_decide_eq_true (by assumption); omega)
        have hx18 : ∀ h : 0 < a0.size, ((a0[0]'h).toNat : Int) = bt a0 0 := bt_at a0 0
        clear p18
        have qi18 : (0 < (a0.size : Int)) = True := eq_true (of_decide_eq_true (by assumption))
        replace q18 := eq_true q18
        go_wp2
        go_meet
        case rel => exact ⟨_, (((bt a0 0) == 48)), vq, H', ⟨by have := HJ2.out; first | omega | exact Nat.le_refl _⟩, dq⟩
       ·rw [if_neg c17] at H
        exact absurd H (by simp)
      ·rw [if_neg c16] at H
       have c16b0 := decide_eq_false c16
       have c16b1 : decide (2 ≤ a0.size) = false := decide_eq_false (by omega)
       clear c16
       (first | rw [c16b0] | (simp only [i64_w, i32_w]; rw [c16b0]) | skip)
       have H' := Aside0.mk H
       clear H
       go_wp2
       go_meet
       case rel => exact ⟨_, (false), vq, H', ⟨by have := HJ2.out; first | omega | exact Nat.le_refl _⟩, dq⟩
     case rest =>
      clear HC15
      obtain ⟨kq, x28_14, rfl, HA, HJ14, ⟨mc14, rfl⟩⟩ := hcut
      cases kq with
      | zero => exact absurd HA.out (by simp [spec_l2Part.j1])
      | succ kj14 =>
       have H := HA.out
       clear HA
       simp only [spec_l2Part.j1] at H
       by_cases c19 : x28_14 = true
       ·subst c19
        have H1 : (if 1 ≤ (a0.size : Int) then ((spec_l2Digits.f kj14 (a0.extract 1 a0.size) 8).bind fun t154 => (some t154)) else (none)) = some r := by rw [if_pos rfl] at H; exact H
        clear H
        have H := H1
        clear H1
        by_cases c20 : 1 ≤ (a0.size : Int)
        ·rw [if_pos c20] at H
         have c20b0 := eq_true c20
         have c20b1 := decide_eq_true c20
         clear c20
         replace H := Option.bind_eq_some_iff.mp H
         obtain ⟨t154, A210, H⟩ := H
         replace H : (some t154) = some r := H
         have A21 := Aside0.mk A210
         clear A210
         obtain rfl := Option.some.inj H
         go_wp2_with (first | ((with_reducible refine gate_callee (f := 168) rfl ?_); refine goesL_ (some 39) rfl rfl Tryz.func168 (by kernel_rfl) rfl #[.string (a0.extract 1 a0.size), .int .i64 8] rfl aq ?_; (with_reducible refine (spec_l2Digits.calls kj14 (a0.extract 1 a0.size) 8 t154 _ A21.out).mono ?_); rintro e w' ⟨rfl, ⟨nd, rfl⟩⟩; refine ⟨_, rfl, ?_⟩))
         go_ret
         exact ⟨vq, dq⟩
        ·rw [if_neg c20] at H
         exact absurd H (by simp)
       ·replace c19 := Bool.eq_false_iff.mpr c19
        subst c19
        have H1 : ((spec_l2Digits.f kj14 a0 10).bind fun t155 => (some t155)) = some r := by rw [if_neg (show ¬ (false = true) by decide)] at H; exact H
        clear H
        have H := H1
        clear H1
        replace H := Option.bind_eq_some_iff.mp H
        obtain ⟨t155, A220, H⟩ := H
        replace H : (some t155) = some r := H
        have A22 := Aside0.mk A220
        clear A220
        obtain rfl := Option.some.inj H
        go_wp2_with (first | ((with_reducible refine gate_callee (f := 168) rfl ?_); refine goesL_ (some 41) rfl rfl Tryz.func168 (by kernel_rfl) rfl #[.string a0, .int .i64 10] rfl aq ?_; (with_reducible refine (spec_l2Digits.calls kj14 a0 10 t155 _ A22.out).mono ?_); rintro e w' ⟨rfl, ⟨nd, rfl⟩⟩; refine ⟨_, rfl, ?_⟩))
        go_ret
        exact ⟨vq, dq⟩
end Go.Proofs.YteldemgdcpmmfaaGreatDoor.Lh
