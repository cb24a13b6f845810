/- Texts of this claim, joined: Lhx12. Conditions: each theorem's own. -/
import Derived.Test.YteldemgdcpmmfaaGreatDoorA02
import Derived.Test.YteldemgdcpmmfaaGreatDoorA05
import Derived.Test.YteldemgdcpmmfaaGreatDoorA06
import Derived.Test.YteldemgdcpmmfaaGreatDoorA12
namespace Go.Proofs.YteldemgdcpmmfaaGreatDoor.Lh
open Go.RowKit Go.Proofs.YteldemgdcpmmfaaGreatDoor.H Go.Proofs.YteldemgdcpmmfaaGreatDoorW.PrintWords Go.Proofs.YteldemgdcpmmfaaGreatDoorW.PrintLast Go.Proofs.YteldemgdcpmmfaaGreatDoorW.PrintMore Go.Proofs.YteldemgdcpmmfaaGreatDoor.Lp
attribute [local go_sem] max2_int min2_int max_two min_two max_three min_three max_four min_four   -- for this text's walks alone
set_option linter.unusedVariables false
set_option linter.unusedSimpArgs false
mutual
def impl_endsInNumber.j0 : Nat → ByteArray → Bool → Option (Bool)
 | 0, _, _ => none
 | k + 1, x4, x23 => if x23 = true then ((impl_labelNumber.f k x4).bind fun bt276 => (some bt276.2)) else (impl_endsInNumber.l0 k x4 (x4.size : Int) 0)
def impl_endsInNumber.l0 : Nat → ByteArray → Int → Int → Option (Bool)
 | 0, _, _, _ => none
 | k + 1, x4, x31, x32 => if x32 < x31 then (if 0 ≤ x32 then (if x32 < (x4.size : Int) then ((impl_isDigit.f (bt x4 x32)).bind fun t278 => (if t278 = true then (impl_endsInNumber.l0 k x4 x31 (wrap64 (x32 + 1))) else (some false))) else (none)) else (none)) else (some true)
end
def impl_endsInNumber.f (k : Nat) (a0 : ByteArray) : Option (Bool) := (impl_labels.f a0).bind fun t270 => (if 0 ≤ (wrap64 ((t270.length : Int) - 1)) then (if (wrap64 ((t270.length : Int) - 1)) < (t270.length : Int) then (if (rdOf ByteArray.empty t270 (wrap64 ((t270.length : Int) - 1))).toList = ([] : List UInt8) then (some false) else ((strings_HasPrefix.f (rdOf ByteArray.empty t270 (wrap64 ((t270.length : Int) - 1))) (⟨#[48, 120]⟩ : ByteArray)).bind fun t274 => (if t274 = true then (impl_endsInNumber.j0 k (rdOf ByteArray.empty t270 (wrap64 ((t270.length : Int) - 1))) true) else ((strings_HasPrefix.f (rdOf ByteArray.empty t270 (wrap64 ((t270.length : Int) - 1))) (⟨#[48, 88]⟩ : ByteArray)).bind fun t275 => (impl_endsInNumber.j0 k (rdOf ByteArray.empty t270 (wrap64 ((t270.length : Int) - 1))) t275))))) else (none)) else (none))
theorem impl_endsInNumber.mono_l : ∀ k, (∀ y0 y1, LeO (impl_endsInNumber.j0 k y0 y1) (impl_endsInNumber.j0 (k + 1) y0 y1)) ∧ (∀ y0 y1 y2, LeO (impl_endsInNumber.l0 k y0 y1 y2) (impl_endsInNumber.l0 (k + 1) y0 y1 y2))
 | 0 => ⟨fun _ _ r h => by simp [impl_endsInNumber.j0] at h, fun _ _ _ r h => by simp [impl_endsInNumber.l0] at h⟩
 | k + 1 => by
  obtain ⟨ih0, ih1⟩ := impl_endsInNumber.mono_l k
  refine ⟨?_, ?_⟩
  ·intro y0 y1
   unfold impl_endsInNumber.j0
   repeat' first
   | (with_reducible exact ih0 _ _)
   | (with_reducible exact ih1 _ _ _)
   | (with_reducible exact impl_labelNumber.mono _ _)
   | (with_reducible exact LeO.refl _)
   | (with_reducible exact LeO.none _)
   | (with_reducible refine LeO.ite ?_ ?_)
   | (with_reducible refine LeO.bind ?_ (fun _ => ?_))
  ·intro y0 y1 y2
   unfold impl_endsInNumber.l0
   repeat' first
   | (with_reducible exact ih0 _ _)
   | (with_reducible exact ih1 _ _ _)
   | (with_reducible exact impl_labelNumber.mono _ _)
   | (with_reducible exact LeO.refl _)
   | (with_reducible exact LeO.none _)
   | (with_reducible refine LeO.ite ?_ ?_)
   | (with_reducible refine LeO.bind ?_ (fun _ => ?_))
theorem impl_endsInNumber.mono : ∀ a0 k, LeO (impl_endsInNumber.f k a0) (impl_endsInNumber.f (k + 1) a0) := by
 intro a0 k
 obtain ⟨ih0, ih1⟩ := impl_endsInNumber.mono_l k
 unfold impl_endsInNumber.f
 repeat' first
   | (with_reducible exact ih0 _ _)
   | (with_reducible exact ih1 _ _ _)
   | (with_reducible exact impl_labelNumber.mono _ _)
   | (with_reducible exact LeO.refl _)
   | (with_reducible exact LeO.none _)
   | (with_reducible refine LeO.ite ?_ ?_)
   | (with_reducible refine LeO.bind ?_ (fun _ => ?_))
set_option maxHeartbeats 8000000 in
set_option maxRecDepth 100000 in
theorem impl_endsInNumber.calls (k : Nat) (a0 : ByteArray) (r : Bool) (w : World) (hT : TabM w) (h : impl_endsInNumber.f k a0 = some r) :
  Calls Tryz.prog 108 #[.string a0] w fun e w' => e = .returned (.bool r) ∧ Below w.heap.size w w' := by
 have HTB := Aside0.mk hT
 clear hT
 have HB := Aside0.mk (Below.refl w.heap.size w)
 have H : ((impl_labels.f a0).bind fun t270 => (if 0 ≤ (wrap64 ((t270.length : Int) - 1)) then (if (wrap64 ((t270.length : Int) - 1)) < (t270.length : Int) then (if (rdOf ByteArray.empty t270 (wrap64 ((t270.length : Int) - 1))).toList = ([] : List UInt8) then (some false) else ((strings_HasPrefix.f (rdOf ByteArray.empty t270 (wrap64 ((t270.length : Int) - 1))) (⟨#[48, 120]⟩ : ByteArray)).bind fun t274 => (if t274 = true then (impl_endsInNumber.j0 k (rdOf ByteArray.empty t270 (wrap64 ((t270.length : Int) - 1))) true) else ((strings_HasPrefix.f (rdOf ByteArray.empty t270 (wrap64 ((t270.length : Int) - 1))) (⟨#[48, 88]⟩ : ByteArray)).bind fun t275 => (impl_endsInNumber.j0 k (rdOf ByteArray.empty t270 (wrap64 ((t270.length : Int) - 1))) t275))))) else (none)) else (none))) = some r := h
 clear h
 replace H := Option.bind_eq_some_iff.mp H
 obtain ⟨t270, A20, H⟩ := H
 replace H : (if 0 ≤ (wrap64 ((t270.length : Int) - 1)) then (if (wrap64 ((t270.length : Int) - 1)) < (t270.length : Int) then (if (rdOf ByteArray.empty t270 (wrap64 ((t270.length : Int) - 1))).toList = ([] : List UInt8) then (some false) else ((strings_HasPrefix.f (rdOf ByteArray.empty t270 (wrap64 ((t270.length : Int) - 1))) (⟨#[48, 120]⟩ : ByteArray)).bind fun t274 => (if t274 = true then (impl_endsInNumber.j0 k (rdOf ByteArray.empty t270 (wrap64 ((t270.length : Int) - 1))) true) else ((strings_HasPrefix.f (rdOf ByteArray.empty t270 (wrap64 ((t270.length : Int) - 1))) (⟨#[48, 88]⟩ : ByteArray)).bind fun t275 => (impl_endsInNumber.j0 k (rdOf ByteArray.empty t270 (wrap64 ((t270.length : Int) - 1))) t275))))) else (none)) else (none)) = some r := H
 have A2 := Aside0.mk A20
 clear A20
 obtain ⟨ji3, hji3⟩ : ∃ j_ : Int, (wrap64 ((t270.length : Int) - 1)) = j_ := ⟨_, rfl⟩
 replace H : (if 0 ≤ (ji3) then (if (ji3) < (t270.length : Int) then (if (rdOf ByteArray.empty t270 (ji3)).toList = ([] : List UInt8) then (some false) else ((strings_HasPrefix.f (rdOf ByteArray.empty t270 (ji3)) (⟨#[48, 120]⟩ : ByteArray)).bind fun t274 => (if t274 = true then (impl_endsInNumber.j0 k (rdOf ByteArray.empty t270 (ji3)) true) else ((strings_HasPrefix.f (rdOf ByteArray.empty t270 (ji3)) (⟨#[48, 88]⟩ : ByteArray)).bind fun t275 => (impl_endsInNumber.j0 k (rdOf ByteArray.empty t270 (ji3)) t275))))) else (none)) else (none)) = some r := by first | (rw [hji3] at H; exact H) | (simp only [hji3] at H ⊢; exact H)
 (try rw [hji3] at A2)
 have hji3w : (IntKind.i64.wrap ((t270.length : Int) - 1)) = ji3 := (i64_w _).trans hji3
 by_cases c4 : 0 ≤ (ji3)
 ·rw [if_pos c4] at H
  have c4b0 := decide_eq_true c4
  clear c4
  by_cases c5 : (ji3) < (t270.length : Int)
  ·rw [if_pos c5] at H
   have c5b0 := decide_eq_true c5
   clear c5
   by_cases c6 : (rdOf ByteArray.empty t270 (ji3)).toList = ([] : List UInt8)
   ·rw [if_pos c6] at H
    have c6b0 := beq_iff_eq.mpr c6
    have c6b1 := bne_eq_false_iff_eq.mpr c6
    clear c6
    obtain rfl := Option.some.inj H
    go_enter Tryz.func108, Tryz.ntmps108
    go_wp2_with (first | ((with_reducible refine gate_callee (f := 136) rfl ?_); refine goesL_ (some 9) rfl rfl Tryz.func136 (by kernel_rfl) rfl #[.string a0] rfl aq ?_; (with_reducible refine (impl_labels.calls a0 t270 _ ?side1 A2.out).mono ?_); (case side1 => exact TabM.below HTB.out (bq)); rintro e w7 ⟨v271, rfl, ho0, hb⟩; refine ⟨_, rfl, ?_⟩; have n0_ := Aside0.mk (Kd.R_lower ho0 (below_size (bq))); have n1_ := Aside0.mk (below_step (bq) hb); clear HB; have HO272 := n0_; have HB := n1_; clear n0_ n1_; (try clear hb); (try clear hb2); (try clear hk); (try clear hi); (try clear ho0); obtain ⟨Ao8, co8, eo8⟩ := Kd.R_slice HO272.out; subst eo8; have p273 : 0 ≤ ((ji3) : Int) := of_decide_eq_true (by assumption); have q273 : (ji3) < (t270.length : Int) := of_decide_eq_true (by assumption); obtain ⟨ad273, e273, hx273_0⟩ := Kd.at_string (Kd.R_reads' HO272.out).2.2 (ji3) p273 q273; cases e273; replace p273 := eq_true p273; replace q273 := eq_true q273))
    go_ret
    exact ⟨by first | rfl | (simp [errW_none, errW_some] <;> rfl) | (simp only [← hji3]; first | rfl | (simp [errW_none, errW_some] <;> rfl)) | (simp [*, errW_none, errW_some] <;> rfl) | (simp [nen, een]; done), bq⟩
   ·rw [if_neg c6] at H
    have c6b0 := beq_eq_false_iff_ne.mpr c6
    have c6b1 := bne_iff_ne.mpr c6
    have HC9 := Aside0.mk H
    clear H
    go_enter Tryz.func108, Tryz.ntmps108
    go_upto_region 5 with (first | ((with_reducible refine gate_callee (f := 136) rfl ?_); refine goesL_ (some 9) rfl rfl Tryz.func136 (by kernel_rfl) rfl #[.string a0] rfl aq ?_; (with_reducible refine (impl_labels.calls a0 t270 _ ?side1 A2.out).mono ?_); (case side1 => exact TabM.below HTB.out (bq)); rintro e w10 ⟨v271, rfl, ho0, hb⟩; refine ⟨_, rfl, ?_⟩; have n0_ := Aside0.mk (Kd.R_lower ho0 (below_size (bq))); have n1_ := Aside0.mk (below_step (bq) hb); clear HB; have HO272 := n0_; have HB := n1_; clear n0_ n1_; (try clear hb); (try clear hb2); (try clear hk); (try clear hi); (try clear ho0); obtain ⟨Ao11, co11, eo11⟩ := Kd.R_slice HO272.out; subst eo11; have p273 : 0 ≤ ((ji3) : Int) := of_decide_eq_true (by assumption); have q273 : (ji3) < (t270.length : Int) := of_decide_eq_true (by assumption); obtain ⟨ad273, e273, hx273_0⟩ := Kd.at_string (Kd.R_reads' HO272.out).2.2 (ji3) p273 q273; cases e273; replace p273 := eq_true p273; replace q273 := eq_true q273))
    (try simp only [Act.put, List.setIfInBounds_toArray, List.set_cons_zero, List.set_cons_succ])
    go_cut [23] (fun v23 wc => ∃ (kq : Nat) (x23_8 : Bool), v23 = .bool x23_8 ∧ Aside0 (impl_endsInNumber.j0 kq (rdOf ByteArray.empty t270 (ji3)) x23_8 = some r) ∧ Aside0 (kq ≤ k) ∧ Aside0 (Below w.heap.size w wc))
    case first =>
     have H := HC9.out
     clear HC9
     replace H := Option.bind_eq_some_iff.mp H
     obtain ⟨t274, A120, H⟩ := H
     replace H : (if t274 = true then (impl_endsInNumber.j0 k (rdOf ByteArray.empty t270 (ji3)) true) else ((strings_HasPrefix.f (rdOf ByteArray.empty t270 (ji3)) (⟨#[48, 88]⟩ : ByteArray)).bind fun t275 => (impl_endsInNumber.j0 k (rdOf ByteArray.empty t270 (ji3)) t275))) = some r := H
     have A12 := Aside0.mk A120
     clear A120
     by_cases c13 : t274 = true
     ·subst c13
      have H1 : (impl_endsInNumber.j0 k (rdOf ByteArray.empty t270 (ji3)) true) = some r := by rw [if_pos rfl] at H; exact H
      clear H
      have H := H1
      clear H1
      have H' := Aside0.mk H
      clear H
      go_wp2_with (first | ((with_reducible refine gate_callee (f := 137) rfl ?_); refine goesL_ (some 19) rfl rfl Tryz.func137 (by kernel_rfl) rfl #[.string (rdOf ByteArray.empty t270 (ji3)), .string (⟨#[48, 120]⟩ : ByteArray)] rfl (by (try simp only [List.map_toArray, List.map_cons, List.map_nil]); first | done | (simp only [hji3]; rfl) | rfl | (simp only [List.length_drop, List.length_take]; rfl)) ?_; (with_reducible refine (strings_HasPrefix.calls (rdOf ByteArray.empty t270 (ji3)) (⟨#[48, 120]⟩ : ByteArray) true _ A12.out).mono ?_); rintro e w' ⟨rfl, ⟨nd, rfl⟩⟩; refine ⟨_, rfl, ?_⟩))
      go_meet
      case rel => exact ⟨_, (true), vq, H', ⟨by first | omega | exact Nat.le_refl _⟩, ⟨bq⟩⟩
     ·replace c13 := Bool.eq_false_iff.mpr c13
      subst c13
      have H1 : ((strings_HasPrefix.f (rdOf ByteArray.empty t270 (ji3)) (⟨#[48, 88]⟩ : ByteArray)).bind fun t275 => (impl_endsInNumber.j0 k (rdOf ByteArray.empty t270 (ji3)) t275)) = some r := by rw [if_neg (show ¬ (false = true) by decide)] at H; exact H
      clear H
      have H := H1
      clear H1
      replace H := Option.bind_eq_some_iff.mp H
      obtain ⟨t275, A140, H⟩ := H
      replace H : (impl_endsInNumber.j0 k (rdOf ByteArray.empty t270 (ji3)) t275) = some r := H
      have A14 := Aside0.mk A140
      clear A140
      have H' := Aside0.mk H
      clear H
      go_wp2_with (first | ((with_reducible refine gate_callee (f := 137) rfl ?_); refine goesL_ (some 19) rfl rfl Tryz.func137 (by kernel_rfl) rfl #[.string (rdOf ByteArray.empty t270 (ji3)), .string (⟨#[48, 120]⟩ : ByteArray)] rfl (by (try simp only [List.map_toArray, List.map_cons, List.map_nil]); first | done | (simp only [hji3]; rfl) | rfl | (simp only [List.length_drop, List.length_take]; rfl)) ?_; (with_reducible refine (strings_HasPrefix.calls (rdOf ByteArray.empty t270 (ji3)) (⟨#[48, 120]⟩ : ByteArray) false _ A12.out).mono ?_); rintro e w' ⟨rfl, ⟨nd, rfl⟩⟩; refine ⟨_, rfl, ?_⟩) | (go_at_call 137; (with_reducible refine (strings_HasPrefix.calls (rdOf ByteArray.empty t270 (ji3)) (⟨#[48, 88]⟩ : ByteArray) t275 _ A14.out).mono ?_); rintro e w' ⟨rfl, ⟨nd, rfl⟩⟩))
      go_meet
      case rel => exact ⟨_, (t275), vq, H', ⟨by first | omega | exact Nat.le_refl _⟩, ⟨bq⟩⟩
    case rest =>
     clear HC9
     obtain ⟨kq, x23_8, rfl, HA, HJ8, HB⟩ := hcut
     cases kq with
     | zero => exact absurd HA.out (by simp [impl_endsInNumber.j0])
     | succ kj8 =>
      have H := HA.out
      clear HA
      simp only [impl_endsInNumber.j0] at H
      by_cases c15 : x23_8 = true
      ·subst c15
       have H1 : ((impl_labelNumber.f kj8 (rdOf ByteArray.empty t270 (ji3))).bind fun bt276 => (some bt276.2)) = some r := by rw [if_pos rfl] at H; exact H
       clear H
       have H := H1
       clear H1
       replace H := Option.bind_eq_some_iff.mp H
       obtain ⟨⟨t276, t277⟩, A160, H⟩ := H
       replace H : (some t277) = some r := H
       have A16 := Aside0.mk A160
       clear A160
       obtain rfl := Option.some.inj H
       go_wp2_with (first | ((with_reducible refine gate_callee (f := 138) rfl ?_); refine goesL_ (some 26) rfl rfl Tryz.func138 (by kernel_rfl) rfl #[.string (rdOf ByteArray.empty t270 (ji3))] rfl (by (try simp only [List.map_toArray, List.map_cons, List.map_nil]); first | done | (simp only [hji3]; rfl) | rfl | (simp only [List.length_drop, List.length_take]; rfl)) ?_; (with_reducible refine (impl_labelNumber.calls kj8 (rdOf ByteArray.empty t270 (ji3)) t276 t277 _ A16.out).mono ?_); rintro e w' ⟨rfl, ⟨nd, rfl⟩⟩; refine ⟨_, rfl, ?_⟩))
       go_ret
       exact ⟨by first | rfl | (simp [errW_none, errW_some] <;> rfl) | (simp only [← hji3]; first | rfl | (simp [errW_none, errW_some] <;> rfl)) | (simp [*, errW_none, errW_some] <;> rfl) | (simp [nen, een]; done), bq⟩
      ·replace c15 := Bool.eq_false_iff.mpr c15
       subst c15
       have H1 : (impl_endsInNumber.l0 kj8 (rdOf ByteArray.empty t270 (ji3)) ((rdOf ByteArray.empty t270 (ji3)).size : Int) 0) = some r := by rw [if_neg (show ¬ (false = true) by decide)] at H; exact H
       clear H
       have H := H1
       clear H1
       have H' := Aside0.mk H
       clear H
       go_wp2
       go_loopg [32] kj8 (fun kq v32 w' => ∃ (x32_2 : Int), v32 = .int .i64 x32_2 ∧ Aside0 (impl_endsInNumber.l0 kq (rdOf ByteArray.empty t270 (ji3)) ((rdOf ByteArray.empty t270 (ji3)).size : Int) x32_2 = some r) ∧ Aside0 (kq ≤ kj8) ∧ Aside0 (Below w.heap.size w w'))
       case atStart => exact ⟨(0), vq, H', ⟨Nat.le_refl _⟩, ⟨bq⟩⟩
       case round =>
        clear H'
        obtain ⟨x32_2, rfl, HA, HK2, HB⟩ := hrel
        cases gk with
        | zero => exact absurd HA.out (by simp [impl_endsInNumber.l0])
        | succ k2 =>
         have H := HA.out
         clear HA
         simp only [impl_endsInNumber.l0] at H
         by_cases c17 : x32_2 < ((rdOf ByteArray.empty t270 (ji3)).size : Int)
         ·rw [if_pos c17] at H
          have c17b0 := decide_eq_true c17
          clear c17
          by_cases c18 : 0 ≤ x32_2
          ·rw [if_pos c18] at H
           have c18b0 := decide_eq_true c18
           clear c18
           by_cases c19 : x32_2 < ((rdOf ByteArray.empty t270 (ji3)).size : Int)
           ·rw [if_pos c19] at H
            have c19b0 := decide_eq_true c19
            clear c19
            replace H := Option.bind_eq_some_iff.mp H
            obtain ⟨t278, A210, H⟩ := H
            replace H : (if t278 = true then (impl_endsInNumber.l0 k2 (rdOf ByteArray.empty t270 (ji3)) ((rdOf ByteArray.empty t270 (ji3)).size : Int) (wrap64 (x32_2 + 1))) else (some false)) = some r := H
            have A21 := Aside0.mk A210
            clear A210
            by_cases c22 : t278 = true
            ·subst c22
             have H1 : (impl_endsInNumber.l0 k2 (rdOf ByteArray.empty t270 (ji3)) ((rdOf ByteArray.empty t270 (ji3)).size : Int) (wrap64 (x32_2 + 1))) = some r := by rw [if_pos rfl] at H; exact H
             clear H
             have H := H1
             clear H1
             have H' := Aside0.mk H
             clear H
             have p20 : 0 ≤ (x32_2 : Int) := of_decide_eq_true (by assumption)
             have q20 : x32_2 < ((rdOf ByteArray.empty t270 (ji3)).size : Int) := of_decide_eq_true (by assumption)
             have hx20 := bt_at (rdOf ByteArray.empty t270 (ji3)) x32_2
             replace p20 := eq_true p20
             replace q20 := eq_true q20
             go_wp2_with (first | ((with_reducible refine gate_callee (f := 115) rfl ?_); refine goesL_ (some 38) rfl rfl Tryz.func115 (by kernel_rfl) rfl #[.int .u8 (bt (rdOf ByteArray.empty t270 (ji3)) x32_2)] rfl (by (try simp only [List.map_toArray, List.map_cons, List.map_nil]); first | done | (simp only [hji3]; rfl) | rfl | (simp only [List.length_drop, List.length_take]; rfl)) ?_; (with_reducible refine (impl_isDigit.calls (bt (rdOf ByteArray.empty t270 (ji3)) x32_2) true _ A21.out).mono ?_); rintro e w' ⟨rfl, ⟨nd, rfl⟩⟩; refine ⟨_, rfl, ?_⟩))
             go_roundg k2
             case measure => have := HJ8.out; have := HK2.out; omega
             case rel => exact ⟨(wrap64 (x32_2 + 1)), vq, H', ⟨by have := HJ8.out; have := HK2.out; omega⟩, ⟨bq⟩⟩
            ·replace c22 := Bool.eq_false_iff.mpr c22
             subst c22
             have H1 : (some false) = some r := by rw [if_neg (show ¬ (false = true) by decide)] at H; exact H
             clear H
             have H := H1
             clear H1
             obtain rfl := Option.some.inj H
             have p20 : 0 ≤ (x32_2 : Int) := of_decide_eq_true (by assumption)
             have q20 : x32_2 < ((rdOf ByteArray.empty t270 (ji3)).size : Int) := of_decide_eq_true (by assumption)
             have hx20 := bt_at (rdOf ByteArray.empty t270 (ji3)) x32_2
             replace p20 := eq_true p20
             replace q20 := eq_true q20
             go_wp2_with (first | ((with_reducible refine gate_callee (f := 115) rfl ?_); refine goesL_ (some 38) rfl rfl Tryz.func115 (by kernel_rfl) rfl #[.int .u8 (bt (rdOf ByteArray.empty t270 (ji3)) x32_2)] rfl (by (try simp only [List.map_toArray, List.map_cons, List.map_nil]); first | done | (simp only [hji3]; rfl) | rfl | (simp only [List.length_drop, List.length_take]; rfl)) ?_; (with_reducible refine (impl_isDigit.calls (bt (rdOf ByteArray.empty t270 (ji3)) x32_2) false _ A21.out).mono ?_); rintro e w' ⟨rfl, ⟨nd, rfl⟩⟩; refine ⟨_, rfl, ?_⟩))
             go_ret
             exact ⟨by first | rfl | (simp [errW_none, errW_some] <;> rfl) | (simp only [← hji3]; first | rfl | (simp [errW_none, errW_some] <;> rfl)) | (simp [*, errW_none, errW_some] <;> rfl) | (simp [nen, een]; done), bq⟩
           ·rw [if_neg c19] at H
            exact absurd H (by simp)
          ·rw [if_neg c18] at H
           exact absurd H (by simp)
         ·rw [if_neg c17] at H
          have c17b0 := decide_eq_false c17
          clear c17
          obtain rfl := Option.some.inj H
          go_wp2
          go_ret
          exact ⟨by first | rfl | (simp [errW_none, errW_some] <;> rfl) | (simp only [← hji3]; first | rfl | (simp [errW_none, errW_some] <;> rfl)) | (simp [*, errW_none, errW_some] <;> rfl) | (simp [nen, een]; done), bq⟩
  ·rw [if_neg c5] at H
   exact absurd H (by simp)
 ·rw [if_neg c4] at H
  exact absurd H (by simp)
mutual
def impl_FourGet.j0 : Nat → List ByteArray → Bool → Option (Int × Bool)
 | 0, _, _ => none
 | k + 1, x4, x20 => if x20 = true then (some (0, false)) else (impl_FourGet.l0 k x4 0 x4 (x4.length : Int) 0)
def impl_FourGet.l0 : Nat → List ByteArray → Int → List ByteArray → Int → Int → Option (Int × Bool)
 | 0, _, _, _, _, _ => none
 | k + 1, x4, x5, x21, x22, x23 => if x23 < x22 then (if 0 ≤ x23 then (if x23 < (x21.length : Int) then ((impl_labelNumber.f k (rdOf ByteArray.empty x21 x23)).bind fun bt283 => (if x23 = (wrap64 ((x4.length : Int) - 1)) then (if 0 ≤ (wrap64 (8 * (wrap64 (5 - (x4.length : Int))))) then (impl_FourGet.j2 k x4 x5 x23 bt283.1 bt283.2 (wrap64 ((shl .i64 1 (wrap64 (8 * (wrap64 (5 - (x4.length : Int)))))) - 1)) x21 x22 x23) else (none)) else (impl_FourGet.j2 k x4 x5 x23 bt283.1 bt283.2 255 x21 x22 x23))) else (none)) else (none)) else (some (x5, true))
def impl_FourGet.j2 : Nat → List ByteArray → Int → Int → Int → Bool → Int → List ByteArray → Int → Int → Option (Int × Bool)
 | 0, _, _, _, _, _, _, _, _, _ => none
 | k + 1, x4, x5, x6, x8, x9, x10, x21, x22, x23 => if x9 = true then (impl_FourGet.j3 k x4 x5 x6 x8 x21 x22 x23 (decide (x8 > x10))) else (impl_FourGet.j3 k x4 x5 x6 x8 x21 x22 x23 true)
def impl_FourGet.j3 : Nat → List ByteArray → Int → Int → Int → List ByteArray → Int → Int → Bool → Option (Int × Bool)
 | 0, _, _, _, _, _, _, _, _ => none
 | k + 1, x4, x5, x6, x8, x21, x22, x23, x50 => if x50 = true then (some (0, false)) else (if x6 < (wrap64 ((x4.length : Int) - 1)) then (if 0 ≤ (wrap64 (8 * (wrap64 (3 - x6)))) then (impl_FourGet.l0 k x4 (wrap64 (x5 + (shl .i64 x8 (wrap64 (8 * (wrap64 (3 - x6))))))) x21 x22 (wrap64 (x23 + 1))) else (none)) else (impl_FourGet.l0 k x4 (wrap64 (x5 + x8)) x21 x22 (wrap64 (x23 + 1))))
end
def impl_FourGet.f (k : Nat) (a0 : ByteArray) : Option (Int × Bool) := (impl_labels.f a0).bind fun t279 => (if (a0.size : Int) > 200 then (impl_FourGet.j0 k t279 true) else (impl_FourGet.j0 k t279 (decide ((t279.length : Int) > 4))))
theorem impl_FourGet.mono_l : ∀ k, (∀ y0 y1, LeO (impl_FourGet.j0 k y0 y1) (impl_FourGet.j0 (k + 1) y0 y1)) ∧ (∀ y0 y1 y2 y3 y4, LeO (impl_FourGet.l0 k y0 y1 y2 y3 y4) (impl_FourGet.l0 (k + 1) y0 y1 y2 y3 y4)) ∧ (∀ y0 y1 y2 y3 y4 y5 y6 y7 y8, LeO (impl_FourGet.j2 k y0 y1 y2 y3 y4 y5 y6 y7 y8) (impl_FourGet.j2 (k + 1) y0 y1 y2 y3 y4 y5 y6 y7 y8)) ∧ (∀ y0 y1 y2 y3 y4 y5 y6 y7, LeO (impl_FourGet.j3 k y0 y1 y2 y3 y4 y5 y6 y7) (impl_FourGet.j3 (k + 1) y0 y1 y2 y3 y4 y5 y6 y7))
 | 0 => ⟨fun _ _ r h => by simp [impl_FourGet.j0] at h, fun _ _ _ _ _ r h => by simp [impl_FourGet.l0] at h, fun _ _ _ _ _ _ _ _ _ r h => by simp [impl_FourGet.j2] at h, fun _ _ _ _ _ _ _ _ r h => by simp [impl_FourGet.j3] at h⟩
 | k + 1 => by
  obtain ⟨ih0, ih1, ih2, ih3⟩ := impl_FourGet.mono_l k
  refine ⟨?_, ?_, ?_, ?_⟩
  ·intro y0 y1
   unfold impl_FourGet.j0
   repeat' first
   | (with_reducible exact ih0 _ _)
   | (with_reducible exact ih1 _ _ _ _ _)
   | (with_reducible exact ih2 _ _ _ _ _ _ _ _ _)
   | (with_reducible exact ih3 _ _ _ _ _ _ _ _)
   | (with_reducible exact impl_labelNumber.mono _ _)
   | (with_reducible exact LeO.refl _)
   | (with_reducible exact LeO.none _)
   | (with_reducible refine LeO.ite ?_ ?_)
   | (with_reducible refine LeO.bind ?_ (fun _ => ?_))
  ·intro y0 y1 y2 y3 y4
   unfold impl_FourGet.l0
   repeat' first
   | (with_reducible exact ih0 _ _)
   | (with_reducible exact ih1 _ _ _ _ _)
   | (with_reducible exact ih2 _ _ _ _ _ _ _ _ _)
   | (with_reducible exact ih3 _ _ _ _ _ _ _ _)
   | (with_reducible exact impl_labelNumber.mono _ _)
   | (with_reducible exact LeO.refl _)
   | (with_reducible exact LeO.none _)
   | (with_reducible refine LeO.ite ?_ ?_)
   | (with_reducible refine LeO.bind ?_ (fun _ => ?_))
  ·intro y0 y1 y2 y3 y4 y5 y6 y7 y8
   unfold impl_FourGet.j2
   repeat' first
   | (with_reducible exact ih0 _ _)
   | (with_reducible exact ih1 _ _ _ _ _)
   | (with_reducible exact ih2 _ _ _ _ _ _ _ _ _)
   | (with_reducible exact ih3 _ _ _ _ _ _ _ _)
   | (with_reducible exact impl_labelNumber.mono _ _)
   | (with_reducible exact LeO.refl _)
   | (with_reducible exact LeO.none _)
   | (with_reducible refine LeO.ite ?_ ?_)
   | (with_reducible refine LeO.bind ?_ (fun _ => ?_))
  ·intro y0 y1 y2 y3 y4 y5 y6 y7
   unfold impl_FourGet.j3
   repeat' first
   | (with_reducible exact ih0 _ _)
   | (with_reducible exact ih1 _ _ _ _ _)
   | (with_reducible exact ih2 _ _ _ _ _ _ _ _ _)
   | (with_reducible exact ih3 _ _ _ _ _ _ _ _)
   | (with_reducible exact impl_labelNumber.mono _ _)
   | (with_reducible exact LeO.refl _)
   | (with_reducible exact LeO.none _)
   | (with_reducible refine LeO.ite ?_ ?_)
   | (with_reducible refine LeO.bind ?_ (fun _ => ?_))
theorem impl_FourGet.mono : ∀ a0 k, LeO (impl_FourGet.f k a0) (impl_FourGet.f (k + 1) a0) := by
 intro a0 k
 obtain ⟨ih0, ih1, ih2, ih3⟩ := impl_FourGet.mono_l k
 unfold impl_FourGet.f
 repeat' first
   | (with_reducible exact ih0 _ _)
   | (with_reducible exact ih1 _ _ _ _ _)
   | (with_reducible exact ih2 _ _ _ _ _ _ _ _ _)
   | (with_reducible exact ih3 _ _ _ _ _ _ _ _)
   | (with_reducible exact impl_labelNumber.mono _ _)
   | (with_reducible exact LeO.refl _)
   | (with_reducible exact LeO.none _)
   | (with_reducible refine LeO.ite ?_ ?_)
   | (with_reducible refine LeO.bind ?_ (fun _ => ?_))
set_option maxHeartbeats 8000000 in
set_option maxRecDepth 100000 in
theorem impl_FourGet.calls (k : Nat) (a0 : ByteArray) (r1 : Int) (r2 : Bool) (w : World) (hT : TabM w) (h : impl_FourGet.f k a0 = some (r1, r2)) :
  Calls Tryz.prog 126 #[.string a0] w fun e w' => e = .returned (.tuple #[.int .i64 r1, .bool r2]) ∧ Below w.heap.size w w' := by
 have HTB := Aside0.mk hT
 clear hT
 have HB := Aside0.mk (Below.refl w.heap.size w)
 have H : ((impl_labels.f a0).bind fun t279 => (if (a0.size : Int) > 200 then (impl_FourGet.j0 k t279 true) else (impl_FourGet.j0 k t279 (decide ((t279.length : Int) > 4))))) = some (r1, r2) := h
 clear h
 replace H := Option.bind_eq_some_iff.mp H
 obtain ⟨t279, A20, H⟩ := H
 replace H : (if (a0.size : Int) > 200 then (impl_FourGet.j0 k t279 true) else (impl_FourGet.j0 k t279 (decide ((t279.length : Int) > 4)))) = some (r1, r2) := H
 have A2 := Aside0.mk A20
 clear A20
 have HC3 := Aside0.mk H
 clear H
 go_enter Tryz.func126, Tryz.ntmps126
 go_upto_region 2 with (first | ((with_reducible refine gate_callee (f := 136) rfl ?_); refine goesL_ (some 12) rfl rfl Tryz.func136 (by kernel_rfl) rfl #[.string a0] rfl aq ?_; (with_reducible refine (impl_labels.calls a0 t279 _ ?side1 A2.out).mono ?_); (case side1 => exact TabM.below HTB.out (bq)); rintro e w4 ⟨v280, rfl, ho0, hb⟩; refine ⟨_, rfl, ?_⟩; have n0_ := Aside0.mk (Kd.R_lower ho0 (below_size (bq))); have n1_ := Aside0.mk (below_step (bq) hb); clear HB; have HO281 := n0_; have HB := n1_; clear n0_ n1_; (try clear hb); (try clear hb2); (try clear hk); (try clear hi); (try clear ho0)))
 (try simp only [Act.put, List.setIfInBounds_toArray, List.set_cons_zero, List.set_cons_succ])
 go_cut [20] (fun v20 wc => ∃ (kq : Nat) (x20_2 : Bool), v20 = .bool x20_2 ∧ Aside0 (impl_FourGet.j0 kq t279 x20_2 = some (r1, r2)) ∧ Aside0 (kq ≤ k) ∧ Aside0 (Kd.R Kd.string 9 wc w.heap.size (fun _ => True) v280 t279) ∧ Aside0 (Below w.heap.size w wc))
 case first =>
  have H := HC3.out
  clear HC3
  by_cases c5 : (a0.size : Int) > 200
  ·rw [if_pos c5] at H
   have c5b0 := decide_eq_true c5
   have c5b1 : decide (200 < a0.size) = true := decide_eq_true (by omega)
   clear c5
   (first | rw [c5b0] | (simp only [i64_w, i32_w]; rw [c5b0]) | skip)
   have H' := Aside0.mk H
   clear H
   go_wp2
   go_meet
   case rel => exact ⟨_, (true), vq, H', ⟨by first | omega | exact Nat.le_refl _⟩, ⟨by (with_reducible repeat (first | apply Kd.R_alloc | apply Kd.R_drewN | apply Kd.R_drew)); exact HO281.out⟩, ⟨bq⟩⟩
  ·rw [if_neg c5] at H
   have c5b0 := decide_eq_false c5
   have c5b1 : decide (200 < a0.size) = false := decide_eq_false (by omega)
   clear c5
   (first | rw [c5b0] | (simp only [i64_w, i32_w]; rw [c5b0]) | skip)
   have H' := Aside0.mk H
   clear H
   obtain ⟨Ao6, co6, eo6⟩ := Kd.R_slice HO281.out
   subst eo6
   go_wp2
   go_meet
   case rel => exact ⟨_, (decide ((t279.length : Int) > 4)), vq, H', ⟨by first | omega | exact Nat.le_refl _⟩, ⟨by (with_reducible repeat (first | apply Kd.R_alloc | apply Kd.R_drewN | apply Kd.R_drew)); exact HO281.out⟩, ⟨bq⟩⟩
 case rest =>
  clear HC3
  obtain ⟨kq, x20_2, rfl, HA, HJ2, HO_4, HB⟩ := hcut
  cases kq with
  | zero => exact absurd HA.out (by simp [impl_FourGet.j0])
  | succ kj2 =>
   have H := HA.out
   clear HA
   simp only [impl_FourGet.j0] at H
   by_cases c7 : x20_2 = true
   ·subst c7
    have H1 : (some (0, false)) = some (r1, r2) := by rw [if_pos rfl] at H; exact H
    clear H
    have H := H1
    clear H1
    simp only [Option.some.injEq, Prod.mk.injEq] at H
    obtain ⟨rfl, rfl⟩ := H
    go_wp2
    go_ret2
    exact ⟨vq, bq⟩
   ·replace c7 := Bool.eq_false_iff.mpr c7
    subst c7
    have H1 : (impl_FourGet.l0 kj2 t279 0 t279 (t279.length : Int) 0) = some (r1, r2) := by rw [if_neg (show ¬ (false = true) by decide)] at H; exact H
    clear H
    have H := H1
    clear H1
    have H' := Aside0.mk H
    clear H
    obtain ⟨Ao8, co8, eo8⟩ := Kd.R_slice HO_4.out
    subst eo8
    go_wp2
    go_loopg [5, 23] kj2 (fun kq v5 v23 w' => ∃ (x5_2 : Int) (x23_2 : Int), v5 = .int .i64 x5_2 ∧ v23 = .int .i64 x23_2 ∧ Aside0 (impl_FourGet.l0 kq t279 x5_2 t279 (t279.length : Int) x23_2 = some (r1, r2)) ∧ Aside0 (kq ≤ kj2) ∧ Aside0 (Kd.R Kd.string 9 w' w.heap.size (fun _ => True) (.slice Ao8 t279.length co8) t279) ∧ Aside0 (Kd.R Kd.string 9 w' w.heap.size (fun _ => True) (.slice Ao8 t279.length co8) t279) ∧ Aside0 (Below w.heap.size w w'))
    case atStart => exact ⟨(0), (0), vq, vq, H', ⟨Nat.le_refl _⟩, ⟨by (with_reducible repeat (first | apply Kd.R_alloc | apply Kd.R_drewN | apply Kd.R_drew)); exact HO_4.out⟩, ⟨by (with_reducible repeat (first | apply Kd.R_alloc | apply Kd.R_drewN | apply Kd.R_drew)); exact HO_4.out⟩, ⟨bq⟩⟩
    case round =>
     clear H'
     obtain ⟨x5_2, x23_2, rfl, rfl, HA, HK2, HO_4, HO_21, HB⟩ := hrel
     cases gk with
     | zero => exact absurd HA.out (by simp [impl_FourGet.l0])
     | succ k2 =>
      have H := HA.out
      clear HA
      simp only [impl_FourGet.l0] at H
      by_cases c9 : x23_2 < (t279.length : Int)
      ·rw [if_pos c9] at H
       have c9b0 := decide_eq_true c9
       clear c9
       by_cases c10 : 0 ≤ x23_2
       ·rw [if_pos c10] at H
        have c10b0 := decide_eq_true c10
        clear c10
        by_cases c11 : x23_2 < (t279.length : Int)
        ·rw [if_pos c11] at H
         have c11b0 := decide_eq_true c11
         clear c11
         replace H := Option.bind_eq_some_iff.mp H
         obtain ⟨⟨t283, t284⟩, A120, H⟩ := H
         replace H : (if x23_2 = (wrap64 ((t279.length : Int) - 1)) then (if 0 ≤ (wrap64 (8 * (wrap64 (5 - (t279.length : Int))))) then (impl_FourGet.j2 k2 t279 x5_2 x23_2 t283 t284 (wrap64 ((shl .i64 1 (wrap64 (8 * (wrap64 (5 - (t279.length : Int)))))) - 1)) t279 (t279.length : Int) x23_2) else (none)) else (impl_FourGet.j2 k2 t279 x5_2 x23_2 t283 t284 255 t279 (t279.length : Int) x23_2)) = some (r1, r2) := H
         have A12 := Aside0.mk A120
         clear A120
         have HC13 := Aside0.mk H
         clear H
         have p282 : 0 ≤ (x23_2 : Int) := of_decide_eq_true (by assumption)
         have q282 : x23_2 < (t279.length : Int) := of_decide_eq_true (by assumption)
         obtain ⟨ad282, e282, hx282_0⟩ := Kd.at_string (Kd.R_reads' HO_21.out).2.2 x23_2 p282 q282
         cases e282
         replace p282 := eq_true p282
         replace q282 := eq_true q282
         go_upto_if 37 with (first | ((with_reducible refine gate_callee (f := 138) rfl ?_); refine goesL_ (some 30) rfl rfl Tryz.func138 (by kernel_rfl) rfl #[.string (rdOf ByteArray.empty t279 x23_2)] rfl aq ?_; (with_reducible refine (impl_labelNumber.calls k2 (rdOf ByteArray.empty t279 x23_2) t283 t284 _ A12.out).mono ?_); rintro e w' ⟨rfl, ⟨nd, rfl⟩⟩; refine ⟨_, rfl, ?_⟩))
         (try simp only [Act.put, List.setIfInBounds_toArray, List.set_cons_zero, List.set_cons_succ])
         go_cut [10] (fun v10 wc => ∃ (kq : Nat) (x10_12 : Int), v10 = .int .i64 x10_12 ∧ Aside0 (impl_FourGet.j2 kq t279 x5_2 x23_2 t283 t284 x10_12 t279 (t279.length : Int) x23_2 = some (r1, r2)) ∧ Aside0 (kq ≤ k2) ∧ Aside0 (Kd.R Kd.string 9 wc w.heap.size (fun _ => True) (.slice (some ad282) t279.length co8) t279) ∧ Aside0 (Kd.R Kd.string 9 wc w.heap.size (fun _ => True) (.slice (some ad282) t279.length co8) t279) ∧ Aside0 (Below w.heap.size w wc))
         case first =>
          have H := HC13.out
          clear HC13
          by_cases c14 : x23_2 = (wrap64 ((t279.length : Int) - 1))
          ·rw [if_pos c14] at H
           have c14b0 := beq_iff_eq.mpr c14
           have c14b1 := bne_eq_false_iff_eq.mpr c14
           clear c14
           (first | rw [c14b0] | (simp only [i64_w, i32_w]; rw [c14b0]) | skip)
           obtain ⟨ji15, hji15⟩ : ∃ j_ : Int, (wrap64 (8 * (wrap64 (5 - (t279.length : Int))))) = j_ := ⟨_, rfl⟩
           replace H : (if 0 ≤ (ji15) then (impl_FourGet.j2 k2 t279 x5_2 x23_2 t283 t284 (wrap64 ((shl .i64 1 (ji15)) - 1)) t279 (t279.length : Int) x23_2) else (none)) = some (r1, r2) := by first | (rw [hji15] at H; exact H) | (simp only [hji15] at H ⊢; exact H)
           have hji15w : (IntKind.i64.wrap (8 * (wrap64 (5 - (t279.length : Int))))) = ji15 := (i64_w _).trans hji15
           by_cases c16 : 0 ≤ (ji15)
           ·rw [if_pos c16] at H
            have c16b0 := eq_true c16
            have c16b1 := decide_eq_true c16
            clear c16
            obtain ⟨ji17, hji17⟩ : ∃ j_ : Int, (shl .i64 1 (ji15)) = j_ := ⟨_, rfl⟩
            replace H : (impl_FourGet.j2 k2 t279 x5_2 x23_2 t283 t284 (wrap64 ((ji17) - 1)) t279 (t279.length : Int) x23_2) = some (r1, r2) := by first | (rw [hji17] at H; exact H) | (simp only [hji17] at H ⊢; exact H)
            have hji17_ : (IntKind.i64.wrap (1 * 2 ^ min (ji15).toNat 64)) = ji17 := hji17
            have hji17z : (ji15) ≤ 64 → (IntKind.i64.wrap (1 * 2 ^ (ji15).toNat)) = ji17 := shl_small hji17
            have hji17u : (IntKind.i64.wrap (2 ^ min (ji15).toNat 64)) = ji17 := by have h_ := hji17_; rw [Int.one_mul] at h_; exact h_
            have hji17v : (ji15) ≤ 64 → (IntKind.i64.wrap (2 ^ (ji15).toNat)) = ji17 := fun hle_ => by have h_ := hji17z hle_; rw [Int.one_mul] at h_; exact h_
            have hji17y : (wrap64 (1 * 2 ^ min (ji15).toNat 64)) = ji17 := (i64_w _).symm.trans hji17_
            have hji17x : (ji15) ≤ 64 → (wrap64 (1 * 2 ^ (ji15).toNat)) = ji17 := fun h_ => (i64_w _).symm.trans (hji17z h_)
            have H' := Aside0.mk H
            clear H
            go_wp2
            go_meet
            case rel => exact ⟨_, (wrap64 ((ji17) - 1)), (by first | rfl | (simp; done) | (simp only [← hji17] <;> (first | rfl | simp)) | (simp [*]; done) | (simp [nen, een]; done)), H', ⟨by have := HJ2.out; have := HK2.out; first | omega | exact Nat.le_refl _⟩, ⟨by (with_reducible repeat (first | apply Kd.R_alloc | apply Kd.R_drewN | apply Kd.R_drew)); exact HO_4.out⟩, ⟨by (with_reducible repeat (first | apply Kd.R_alloc | apply Kd.R_drewN | apply Kd.R_drew)); exact HO_21.out⟩, ⟨bq⟩⟩
           ·rw [if_neg c16] at H
            exact absurd H (by simp)
          ·rw [if_neg c14] at H
           have c14b0 := beq_eq_false_iff_ne.mpr c14
           have c14b1 := bne_iff_ne.mpr c14
           (first | rw [c14b0] | (simp only [i64_w, i32_w]; rw [c14b0]) | skip)
           have H' := Aside0.mk H
           clear H
           go_wp2
           go_meet
           case rel => exact ⟨_, (255), vq, H', ⟨by have := HJ2.out; have := HK2.out; first | omega | exact Nat.le_refl _⟩, ⟨by (with_reducible repeat (first | apply Kd.R_alloc | apply Kd.R_drewN | apply Kd.R_drew)); exact HO_4.out⟩, ⟨by (with_reducible repeat (first | apply Kd.R_alloc | apply Kd.R_drewN | apply Kd.R_drew)); exact HO_21.out⟩, ⟨bq⟩⟩
         case rest =>
          clear HC13
          obtain ⟨kq, x10_12, rfl, HA, HJ12, HO_4, HO_21, HB⟩ := hcut
          cases kq with
          | zero => exact absurd HA.out (by simp [impl_FourGet.j2])
          | succ kj12 =>
           have H := HA.out
           clear HA
           simp only [impl_FourGet.j2] at H
           have HC18 := Aside0.mk H
           clear H
           go_upto_region 12 with (fail)
           go_cut [50] (fun v50 wc => ∃ (kq : Nat) (x50_17 : Bool), v50 = .bool x50_17 ∧ Aside0 (impl_FourGet.j3 kq t279 x5_2 x23_2 t283 t279 (t279.length : Int) x23_2 x50_17 = some (r1, r2)) ∧ Aside0 (kq ≤ kj12) ∧ Aside0 (Kd.R Kd.string 9 wc w.heap.size (fun _ => True) (.slice (some ad282) t279.length co8) t279) ∧ Aside0 (Kd.R Kd.string 9 wc w.heap.size (fun _ => True) (.slice (some ad282) t279.length co8) t279) ∧ Aside0 (Below w.heap.size w wc))
           case first =>
            have H := HC18.out
            clear HC18
            by_cases c19 : t284 = true
            ·subst c19
             have H1 : (impl_FourGet.j3 kj12 t279 x5_2 x23_2 t283 t279 (t279.length : Int) x23_2 (decide (t283 > x10_12))) = some (r1, r2) := by rw [if_pos rfl] at H; exact H
             clear H
             have H := H1
             clear H1
             have H' := Aside0.mk H
             clear H
             go_wp2
             go_meet
             case rel => exact ⟨_, (decide (t283 > x10_12)), vq, H', ⟨by have := HJ2.out; have := HK2.out; have := HJ12.out; first | omega | exact Nat.le_refl _⟩, ⟨by (with_reducible repeat (first | apply Kd.R_alloc | apply Kd.R_drewN | apply Kd.R_drew)); exact HO_4.out⟩, ⟨by (with_reducible repeat (first | apply Kd.R_alloc | apply Kd.R_drewN | apply Kd.R_drew)); exact HO_21.out⟩, ⟨bq⟩⟩
            ·replace c19 := Bool.eq_false_iff.mpr c19
             subst c19
             have H1 : (impl_FourGet.j3 kj12 t279 x5_2 x23_2 t283 t279 (t279.length : Int) x23_2 true) = some (r1, r2) := by rw [if_neg (show ¬ (false = true) by decide)] at H; exact H
             clear H
             have H := H1
             clear H1
             have H' := Aside0.mk H
             clear H
             go_wp2
             go_meet
             case rel => exact ⟨_, (true), vq, H', ⟨by have := HJ2.out; have := HK2.out; have := HJ12.out; first | omega | exact Nat.le_refl _⟩, ⟨by (with_reducible repeat (first | apply Kd.R_alloc | apply Kd.R_drewN | apply Kd.R_drew)); exact HO_4.out⟩, ⟨by (with_reducible repeat (first | apply Kd.R_alloc | apply Kd.R_drewN | apply Kd.R_drew)); exact HO_21.out⟩, ⟨bq⟩⟩
           case rest =>
            clear HC18
            obtain ⟨kq, x50_17, rfl, HA, HJ17, HO_4, HO_21, HB⟩ := hcut
            cases kq with
            | zero => exact absurd HA.out (by simp [impl_FourGet.j3])
            | succ kj17 =>
             have H := HA.out
             clear HA
             simp only [impl_FourGet.j3] at H
             by_cases c20 : x50_17 = true
             ·subst c20
              have H1 : (some (0, false)) = some (r1, r2) := by rw [if_pos rfl] at H; exact H
              clear H
              have H := H1
              clear H1
              simp only [Option.some.injEq, Prod.mk.injEq] at H
              obtain ⟨rfl, rfl⟩ := H
              go_wp2
              go_ret2
              exact ⟨vq, bq⟩
             ·replace c20 := Bool.eq_false_iff.mpr c20
              subst c20
              have H1 : (if x23_2 < (wrap64 ((t279.length : Int) - 1)) then (if 0 ≤ (wrap64 (8 * (wrap64 (3 - x23_2)))) then (impl_FourGet.l0 kj17 t279 (wrap64 (x5_2 + (shl .i64 t283 (wrap64 (8 * (wrap64 (3 - x23_2))))))) t279 (t279.length : Int) (wrap64 (x23_2 + 1))) else (none)) else (impl_FourGet.l0 kj17 t279 (wrap64 (x5_2 + t283)) t279 (t279.length : Int) (wrap64 (x23_2 + 1)))) = some (r1, r2) := by rw [if_neg (show ¬ (false = true) by decide)] at H; exact H
              clear H
              have H := H1
              clear H1
              by_cases c21 : x23_2 < (wrap64 ((t279.length : Int) - 1))
              ·rw [if_pos c21] at H
               have c21b0 := decide_eq_true c21
               clear c21
               obtain ⟨ji22, hji22⟩ : ∃ j_ : Int, (wrap64 (8 * (wrap64 (3 - x23_2)))) = j_ := ⟨_, rfl⟩
               replace H : (if 0 ≤ (ji22) then (impl_FourGet.l0 kj17 t279 (wrap64 (x5_2 + (shl .i64 t283 (ji22)))) t279 (t279.length : Int) (wrap64 (x23_2 + 1))) else (none)) = some (r1, r2) := by first | (rw [hji22] at H; exact H) | (simp only [hji22] at H ⊢; exact H)
               have hji22w : (IntKind.i64.wrap (8 * (wrap64 (3 - x23_2)))) = ji22 := (i64_w _).trans hji22
               by_cases c23 : 0 ≤ (ji22)
               ·rw [if_pos c23] at H
                have c23b0 := eq_true c23
                have c23b1 := decide_eq_true c23
                clear c23
                obtain ⟨ji24, hji24⟩ : ∃ j_ : Int, (shl .i64 t283 (ji22)) = j_ := ⟨_, rfl⟩
                replace H : (impl_FourGet.l0 kj17 t279 (wrap64 (x5_2 + (ji24))) t279 (t279.length : Int) (wrap64 (x23_2 + 1))) = some (r1, r2) := by first | (rw [hji24] at H; exact H) | (simp only [hji24] at H ⊢; exact H)
                have hji24_ : (IntKind.i64.wrap (t283 * 2 ^ min (ji22).toNat 64)) = ji24 := hji24
                have hji24z : (ji22) ≤ 64 → (IntKind.i64.wrap (t283 * 2 ^ (ji22).toNat)) = ji24 := shl_small hji24
                have hji24y : (wrap64 (t283 * 2 ^ min (ji22).toNat 64)) = ji24 := (i64_w _).symm.trans hji24_
                have hji24x : (ji22) ≤ 64 → (wrap64 (t283 * 2 ^ (ji22).toNat)) = ji24 := fun h_ => (i64_w _).symm.trans (hji24z h_)
                have H' := Aside0.mk H
                clear H
                go_wp2
                go_roundg kj17
                case measure => have := HJ2.out; have := HK2.out; have := HJ12.out; have := HJ17.out; omega
                case rel => exact ⟨(wrap64 (x5_2 + (ji24))), (wrap64 (x23_2 + 1)), (by first | rfl | (simp; done) | (simp only [← hji24] <;> (first | rfl | simp)) | (simp [*]; done) | (simp [nen, een]; done)), vq, H', ⟨by have := HJ2.out; have := HK2.out; have := HJ12.out; have := HJ17.out; omega⟩, ⟨by (with_reducible repeat (first | apply Kd.R_alloc | apply Kd.R_drewN | apply Kd.R_drew)); exact HO_4.out⟩, ⟨by (with_reducible repeat (first | apply Kd.R_alloc | apply Kd.R_drewN | apply Kd.R_drew)); exact HO_21.out⟩, ⟨bq⟩⟩
               ·rw [if_neg c23] at H
                exact absurd H (by simp)
              ·rw [if_neg c21] at H
               have c21b0 := decide_eq_false c21
               clear c21
               have H' := Aside0.mk H
               clear H
               go_wp2
               go_roundg kj17
               case measure => have := HJ2.out; have := HK2.out; have := HJ12.out; have := HJ17.out; omega
               case rel => exact ⟨(wrap64 (x5_2 + t283)), (wrap64 (x23_2 + 1)), vq, vq, H', ⟨by have := HJ2.out; have := HK2.out; have := HJ12.out; have := HJ17.out; omega⟩, ⟨by (with_reducible repeat (first | apply Kd.R_alloc | apply Kd.R_drewN | apply Kd.R_drew)); exact HO_4.out⟩, ⟨by (with_reducible repeat (first | apply Kd.R_alloc | apply Kd.R_drewN | apply Kd.R_drew)); exact HO_21.out⟩, ⟨bq⟩⟩
        ·rw [if_neg c11] at H
         exact absurd H (by simp)
       ·rw [if_neg c10] at H
        exact absurd H (by simp)
      ·rw [if_neg c9] at H
       have c9b0 := decide_eq_false c9
       clear c9
       simp only [Option.some.injEq, Prod.mk.injEq] at H
       obtain ⟨rfl, rfl⟩ := H
       go_wp2
       go_ret2
       exact ⟨vq, bq⟩
end Go.Proofs.YteldemgdcpmmfaaGreatDoor.Lh
