-- Written by a program of this session (wip/print/drive.py) for this claim; Lean checks it.
import Derived.Test.YtglliobchdjmcaaPFnPathInx0
import Derived.Test.YtglliobchdjmcaaPFnPathInx1
namespace Go.Proofs.Ytglliobchdjmcaa.PFnPathIn
open Go.RowKit Go.Proofs.Ytglliobchdjmcaa.H Go.Proofs.YtglliobchdjmcaaW.PrintWords Go.Proofs.YtglliobchdjmcaaW.PrintLast Go.Proofs.YtglliobchdjmcaaW.PrintMore
attribute [local go_sem] max2_int min2_int max_two min_two max_three min_three max_four min_four   -- for this text's walks alone
set_option linter.unusedVariables false
set_option linter.unusedSimpArgs false

/-! ### laws_FnPathIn: function 6 -/
def laws_FnPathIn.j0 : Nat → ByteArray → ByteArray → Bool → Bool → Option (Bool)
  | 0, _, _, _, _ => none
  | k + 1, x3, x4, x5, x47 => if x47 = true then ((spec_PathIn.f x3 x4).bind fun t136 => (if (x5 == t136) = true then ((impl_PathIn.f x3 x3).bind fun t137 => (some (t137 == (x3.toList != ([] : List UInt8))))) else (some false))) else (if (x3.size : Int) ≥ (x4.size : Int) then (if 0 ≤ (x4.size : Int) then (if (x4.size : Int) ≤ (x3.size : Int) then (if (x3.extract 0 ((x4.size : Int) : Int).toNat).toList = x4.toList then (if x3.size + 2 ≤ 9223372036854775807 then ((impl_PathIn.f (x3 ++ (⟨#[47, 120]⟩ : ByteArray)) x4).bind fun t138 => (some t138)) else (none)) else (some false)) else (none)) else (none)) else (some false))
def laws_FnPathIn.f (k : Nat) (l0 : List Int) : Option (Bool) := if (l0.length : Int) > 1048576 then (some true) else ((spec_DrawPathIn.f k l0).bind fun bt130 => ((impl_PathIn.f bt130.1 bt130.2).bind fun t132 => ((spec_PathIn.f bt130.1 bt130.2).bind fun t133 => (if (t132 != t133) = true then (laws_FnPathIn.j0 k bt130.1 bt130.2 t132 true) else ((impl_PathIn.f bt130.1 bt130.1).bind fun t134 => (if (t134 != (bt130.1.toList != ([] : List UInt8))) = true then (laws_FnPathIn.j0 k bt130.1 bt130.2 t132 true) else (if bt130.1.toList = ([] : List UInt8) then (laws_FnPathIn.j0 k bt130.1 bt130.2 t132 (!t132)) else (if 0 < (bt130.1.size : Int) then (if (bt bt130.1 0) = 47 then ((impl_PathIn.f bt130.1 (⟨#[47]⟩ : ByteArray)).bind fun t135 => (if t135 = true then (laws_FnPathIn.j0 k bt130.1 bt130.2 t132 (!t132)) else (laws_FnPathIn.j0 k bt130.1 bt130.2 t132 true))) else (laws_FnPathIn.j0 k bt130.1 bt130.2 t132 (!t132))) else (none)))))))))
theorem laws_FnPathIn.mono_l : ∀ k, (∀ y0 y1 y2 y3, LeO (laws_FnPathIn.j0 k y0 y1 y2 y3) (laws_FnPathIn.j0 (k + 1) y0 y1 y2 y3))
  | 0 => fun _ _ _ _ r h => by simp [laws_FnPathIn.j0] at h
  | k + 1 => by
    have ih0 := laws_FnPathIn.mono_l k
    · intro y0 y1 y2 y3
      unfold laws_FnPathIn.j0
      repeat' first
      | (with_reducible exact ih0 _ _ _ _)
      | (with_reducible exact spec_DrawPathIn.mono _ _)
      | (with_reducible exact LeO.refl _)
      | (with_reducible exact LeO.none _)
      | (with_reducible refine LeO.ite ?_ ?_)
      | (with_reducible refine LeO.bind ?_ (fun _ => ?_))
      | exact ih0 _ _ _ _
      | exact spec_DrawPathIn.mono _ _
      | exact LeO.none _
      | refine LeO.ite ?_ ?_
      | refine LeO.bind ?_ (fun _ => ?_)
theorem laws_FnPathIn.mono : ∀ a0 k, LeO (laws_FnPathIn.f k a0) (laws_FnPathIn.f (k + 1) a0) := by
  intro a0 k
  have ih0 := laws_FnPathIn.mono_l k
  unfold laws_FnPathIn.f
  repeat' first
      | (with_reducible exact ih0 _ _ _ _)
      | (with_reducible exact spec_DrawPathIn.mono _ _)
      | (with_reducible exact LeO.refl _)
      | (with_reducible exact LeO.none _)
      | (with_reducible refine LeO.ite ?_ ?_)
      | (with_reducible refine LeO.bind ?_ (fun _ => ?_))
      | exact ih0 _ _ _ _
      | exact spec_DrawPathIn.mono _ _
      | exact LeO.none _
      | refine LeO.ite ?_ ?_
      | refine LeO.bind ?_ (fun _ => ?_)
set_option maxHeartbeats 8000000 in
set_option maxRecDepth 100000 in
theorem laws_FnPathIn.calls (k : Nat) (A0 : Option Addr) (c0 : Nat) (l0 : List Int) (r : Bool) (w : World) (hr0 : Kd.C (Kd.int .u8) w A0 l0.length l0) (hc0 : l0.length ≤ c0) (h : laws_FnPathIn.f k l0 = some r) :
    Calls Try.prog 6 #[.slice A0 l0.length c0] w fun e w' => e = .returned (.bool r) ∧ Below w.heap.size w w' := by
  have HR0 := Aside0.mk hr0
  have HC0 := Aside0.mk hc0
  clear hr0 hc0
  have HB := Aside0.mk (Below.refl w.heap.size w)
  have H : (if (l0.length : Int) > 1048576 then (some true) else ((spec_DrawPathIn.f k l0).bind fun bt130 => ((impl_PathIn.f bt130.1 bt130.2).bind fun t132 => ((spec_PathIn.f bt130.1 bt130.2).bind fun t133 => (if (t132 != t133) = true then (laws_FnPathIn.j0 k bt130.1 bt130.2 t132 true) else ((impl_PathIn.f bt130.1 bt130.1).bind fun t134 => (if (t134 != (bt130.1.toList != ([] : List UInt8))) = true then (laws_FnPathIn.j0 k bt130.1 bt130.2 t132 true) else (if bt130.1.toList = ([] : List UInt8) then (laws_FnPathIn.j0 k bt130.1 bt130.2 t132 (!t132)) else (if 0 < (bt130.1.size : Int) then (if (bt bt130.1 0) = 47 then ((impl_PathIn.f bt130.1 (⟨#[47]⟩ : ByteArray)).bind fun t135 => (if t135 = true then (laws_FnPathIn.j0 k bt130.1 bt130.2 t132 (!t132)) else (laws_FnPathIn.j0 k bt130.1 bt130.2 t132 true))) else (laws_FnPathIn.j0 k bt130.1 bt130.2 t132 (!t132))) else (none)))))))))) = some r := h
  clear h
  by_cases c2 : (l0.length : Int) > 1048576
  · rw [if_pos c2] at H
    have c2b0 : decide (1048576 < (l0.length : Int)) = true := decide_eq_true c2
    have c2b1 : decide (1048576 < l0.length) = true := decide_eq_true (by omega)
    clear c2
    obtain rfl := Option.some.inj H
    go_enter Try.func6, Try.ntmps6
    go_wp2
    go_ret
    exact ⟨by first | rfl | (simp [errW_none, errW_some] <;> rfl) | (simp [*, errW_none, errW_some] <;> rfl) | (simp [nen, een]; done), by repeat (first | (with_reducible first | exact HB.out | apply below_alloc | apply pw_below_drewN | apply below_drew1) | exact HB.out)⟩
  · rw [if_neg c2] at H
    have c2b0 : decide (1048576 < (l0.length : Int)) = false := decide_eq_false c2
    have c2b1 : decide (1048576 < l0.length) = false := decide_eq_false (by omega)
    clear c2
    replace H := Option.bind_eq_some_iff.mp H
    obtain ⟨⟨t130, t131⟩, A30, H⟩ := H
    replace H : ((impl_PathIn.f t130 t131).bind fun t132 => ((spec_PathIn.f t130 t131).bind fun t133 => (if (t132 != t133) = true then (laws_FnPathIn.j0 k t130 t131 t132 true) else ((impl_PathIn.f t130 t130).bind fun t134 => (if (t134 != (t130.toList != ([] : List UInt8))) = true then (laws_FnPathIn.j0 k t130 t131 t132 true) else (if t130.toList = ([] : List UInt8) then (laws_FnPathIn.j0 k t130 t131 t132 (!t132)) else (if 0 < (t130.size : Int) then (if (bt t130 0) = 47 then ((impl_PathIn.f t130 (⟨#[47]⟩ : ByteArray)).bind fun t135 => (if t135 = true then (laws_FnPathIn.j0 k t130 t131 t132 (!t132)) else (laws_FnPathIn.j0 k t130 t131 t132 true))) else (laws_FnPathIn.j0 k t130 t131 t132 (!t132))) else (none)))))))) = some r := H
    have A3 := Aside0.mk A30
    clear A30
    replace H := Option.bind_eq_some_iff.mp H
    obtain ⟨t132, A40, H⟩ := H
    replace H : ((spec_PathIn.f t130 t131).bind fun t133 => (if (t132 != t133) = true then (laws_FnPathIn.j0 k t130 t131 t132 true) else ((impl_PathIn.f t130 t130).bind fun t134 => (if (t134 != (t130.toList != ([] : List UInt8))) = true then (laws_FnPathIn.j0 k t130 t131 t132 true) else (if t130.toList = ([] : List UInt8) then (laws_FnPathIn.j0 k t130 t131 t132 (!t132)) else (if 0 < (t130.size : Int) then (if (bt t130 0) = 47 then ((impl_PathIn.f t130 (⟨#[47]⟩ : ByteArray)).bind fun t135 => (if t135 = true then (laws_FnPathIn.j0 k t130 t131 t132 (!t132)) else (laws_FnPathIn.j0 k t130 t131 t132 true))) else (laws_FnPathIn.j0 k t130 t131 t132 (!t132))) else (none))))))) = some r := H
    have A4 := Aside0.mk A40
    clear A40
    have HC5 := Aside0.mk H
    clear H
    go_enter Try.func6, Try.ntmps6
    go_upto_region 5 with (first | ((with_reducible refine gate_callee (f := 13) rfl ?_); refine goesL_ (some 11) rfl rfl Try.func13 (by kernel_rfl) rfl #[.slice A0 l0.length c0] rfl (by (try simp only [List.map_toArray, List.map_cons, List.map_nil]); first | done | rfl | (simp only [List.length_drop, List.length_take]; rfl)) ?_; (with_reducible refine (spec_DrawPathIn.calls k _ _ l0 t130 t131 _ ?side1 ?side2 A3.out).mono ?_); (case side1 => repeat (first | exact HR0.out | (with_reducible refine Kd.C_alloc ?_ _) | (with_reducible refine Kd.C_drewN ?_ _) | (with_reducible refine Kd.C_drew ?_))); (case side2 => exact HC0.out); rintro e w6 ⟨rfl, hb⟩; refine ⟨_, rfl, ?_⟩; have n0_ := Aside0.mk (below_step (by repeat (first | (with_reducible first | exact HB.out | apply below_alloc | apply pw_below_drewN | apply below_drew1) | exact HB.out)) hb); clear HB; have HB := n0_; clear n0_; (try clear hb); (try clear hb2); (try clear hk); (try clear hi)) | ((with_reducible refine gate_callee (f := 12) rfl ?_); refine goesL_ (some 16) rfl rfl Try.func12 (by kernel_rfl) rfl #[.string t130, .string t131] rfl (by (try simp only [List.map_toArray, List.map_cons, List.map_nil]); first | done | rfl | (simp only [List.length_drop, List.length_take]; rfl)) ?_; (with_reducible refine (impl_PathIn.calls t130 t131 t132 _ A4.out).mono ?_); rintro e w' ⟨rfl, ⟨nd, rfl⟩⟩; refine ⟨_, rfl, ?_⟩))
    (try simp only [Act.put, List.setIfInBounds_toArray, List.set_cons_zero, List.set_cons_succ])
    go_cut [47] (fun v47 wc => ∃ (kq : Nat) (x47_4 : Bool), v47 = .bool x47_4 ∧ Aside0 (laws_FnPathIn.j0 kq t130 t131 t132 x47_4 = some r) ∧ Aside0 (kq ≤ k) ∧ Aside0 (Below w.heap.size w wc))
    case first =>
      have H := HC5.out
      clear HC5
      replace H := Option.bind_eq_some_iff.mp H
      obtain ⟨t133, A70, H⟩ := H
      replace H : (if (t132 != t133) = true then (laws_FnPathIn.j0 k t130 t131 t132 true) else ((impl_PathIn.f t130 t130).bind fun t134 => (if (t134 != (t130.toList != ([] : List UInt8))) = true then (laws_FnPathIn.j0 k t130 t131 t132 true) else (if t130.toList = ([] : List UInt8) then (laws_FnPathIn.j0 k t130 t131 t132 (!t132)) else (if 0 < (t130.size : Int) then (if (bt t130 0) = 47 then ((impl_PathIn.f t130 (⟨#[47]⟩ : ByteArray)).bind fun t135 => (if t135 = true then (laws_FnPathIn.j0 k t130 t131 t132 (!t132)) else (laws_FnPathIn.j0 k t130 t131 t132 true))) else (laws_FnPathIn.j0 k t130 t131 t132 (!t132))) else (none)))))) = some r := H
      have A7 := Aside0.mk A70
      clear A70
      by_cases c8 : (t132 != t133) = true
      · rw [if_pos c8] at H
        have c8b0 : (t132 != t133) = true := c8
        (try (have c8b1 : decide (t132 = t133) = false := by simpa using c8))
        (try (have c8b2 : (t132 == t133) = false := by simpa using c8))
        (try (have c8b3 : ¬ (t132 = t133) := by simpa using c8))
        clear c8
        (first | rw [c8b0] | (simp only [i64_w, i32_w]; rw [c8b0]) | skip)
        have H' := Aside0.mk H
        clear H
        go_wp2_with (first | ((with_reducible refine gate_callee (f := 11) rfl ?_); refine goesL_ (some 20) rfl rfl Try.func11 (by kernel_rfl) rfl #[.string t130, .string t131] rfl (by (try simp only [List.map_toArray, List.map_cons, List.map_nil]); first | done | rfl | (simp only [List.length_drop, List.length_take]; rfl)) ?_; (with_reducible refine (spec_PathIn.calls t130 t131 t133 _ A7.out).mono ?_); rintro e w' ⟨rfl, ⟨nd, rfl⟩⟩; refine ⟨_, rfl, ?_⟩))
        go_meet
        case rel => exact ⟨_, (true), (by first | rfl | (simp; done) | (simp [*]; done) | (simp [nen, een]; done)), H', ⟨by first | omega | exact Nat.le_refl _⟩, ⟨by repeat (first | (with_reducible first | exact HB.out | apply below_alloc | apply pw_below_drewN | apply below_drew1) | exact HB.out)⟩⟩
      · rw [if_neg c8] at H
        have c8b0 : (t132 != t133) = false := by simpa using c8
        (try (have c8b1 : decide (t132 = t133) = true := by simpa using c8))
        (try (have c8b2 : (t132 == t133) = true := by simpa using c8))
        clear c8
        (first | rw [c8b0] | (simp only [i64_w, i32_w]; rw [c8b0]) | skip)
        replace H := Option.bind_eq_some_iff.mp H
        obtain ⟨t134, A90, H⟩ := H
        replace H : (if (t134 != (t130.toList != ([] : List UInt8))) = true then (laws_FnPathIn.j0 k t130 t131 t132 true) else (if t130.toList = ([] : List UInt8) then (laws_FnPathIn.j0 k t130 t131 t132 (!t132)) else (if 0 < (t130.size : Int) then (if (bt t130 0) = 47 then ((impl_PathIn.f t130 (⟨#[47]⟩ : ByteArray)).bind fun t135 => (if t135 = true then (laws_FnPathIn.j0 k t130 t131 t132 (!t132)) else (laws_FnPathIn.j0 k t130 t131 t132 true))) else (laws_FnPathIn.j0 k t130 t131 t132 (!t132))) else (none)))) = some r := H
        have A9 := Aside0.mk A90
        clear A90
        by_cases c10 : (t134 != (t130.toList != ([] : List UInt8))) = true
        · rw [if_pos c10] at H
          have c10b0 : (t134 != (t130.toList != ([] : List UInt8))) = true := c10
          (try (have c10b1 : decide (t134 = (t130.toList != ([] : List UInt8))) = false := by simpa using c10))
          (try (have c10b2 : (t134 == (t130.toList != ([] : List UInt8))) = false := by simpa using c10))
          (try (have c10b3 : ¬ (t134 = (t130.toList != ([] : List UInt8))) := by simpa using c10))
          (try (have c10b4 : (t134 != (!t130.toList.isEmpty)) = true := by have e_ : (t130.toList != ([] : List UInt8)) = !t130.toList.isEmpty := (by cases t130.toList <;> rfl); rw [e_] at c10; simpa using c10))
          (try (have c10b5 : decide (t134 = (!t130.toList.isEmpty)) = false := by have e_ : (t130.toList != ([] : List UInt8)) = !t130.toList.isEmpty := (by cases t130.toList <;> rfl); rw [e_] at c10; simpa using c10))
          (try (have c10b6 : (t134 == (!t130.toList.isEmpty)) = false := by have e_ : (t130.toList != ([] : List UInt8)) = !t130.toList.isEmpty := (by cases t130.toList <;> rfl); rw [e_] at c10; simpa using c10))
          (try (have c10b7 : ¬ (t134 = (!t130.toList.isEmpty)) := by have e_ : (t130.toList != ([] : List UInt8)) = !t130.toList.isEmpty := (by cases t130.toList <;> rfl); rw [e_] at c10; simpa using c10))
          clear c10
          have H' := Aside0.mk H
          clear H
          go_wp2_with (first | ((with_reducible refine gate_callee (f := 11) rfl ?_); refine goesL_ (some 20) rfl rfl Try.func11 (by kernel_rfl) rfl #[.string t130, .string t131] rfl (by (try simp only [List.map_toArray, List.map_cons, List.map_nil]); first | done | rfl | (simp only [List.length_drop, List.length_take]; rfl)) ?_; (with_reducible refine (spec_PathIn.calls t130 t131 t133 _ A7.out).mono ?_); rintro e w' ⟨rfl, ⟨nd, rfl⟩⟩; refine ⟨_, rfl, ?_⟩) | (go_at_call 12; (with_reducible refine (impl_PathIn.calls t130 t130 t134 _ A9.out).mono ?_); rintro e w' ⟨rfl, ⟨nd, rfl⟩⟩))
          go_meet
          case rel => exact ⟨_, (true), (by first | rfl | (simp; done) | (simp [*]; done) | (simp [nen, een]; done)), H', ⟨by first | omega | exact Nat.le_refl _⟩, ⟨by repeat (first | (with_reducible first | exact HB.out | apply below_alloc | apply pw_below_drewN | apply below_drew1) | exact HB.out)⟩⟩
        · rw [if_neg c10] at H
          have c10b0 : (t134 != (t130.toList != ([] : List UInt8))) = false := by simpa using c10
          (try (have c10b1 : decide (t134 = (t130.toList != ([] : List UInt8))) = true := by simpa using c10))
          (try (have c10b2 : (t134 == (t130.toList != ([] : List UInt8))) = true := by simpa using c10))
          (try (have c10b3 : (t134 != (!t130.toList.isEmpty)) = false := by have e_ : (t130.toList != ([] : List UInt8)) = !t130.toList.isEmpty := (by cases t130.toList <;> rfl); rw [e_] at c10; simpa using c10))
          (try (have c10b4 : decide (t134 = (!t130.toList.isEmpty)) = true := by have e_ : (t130.toList != ([] : List UInt8)) = !t130.toList.isEmpty := (by cases t130.toList <;> rfl); rw [e_] at c10; simpa using c10))
          (try (have c10b5 : (t134 == (!t130.toList.isEmpty)) = true := by have e_ : (t130.toList != ([] : List UInt8)) = !t130.toList.isEmpty := (by cases t130.toList <;> rfl); rw [e_] at c10; simpa using c10))
          clear c10
          by_cases c11 : t130.toList = ([] : List UInt8)
          · rw [if_pos c11] at H
            have c11b0 : (t130.toList == ([] : List UInt8)) = true := beq_iff_eq.mpr c11
            have c11b1 : (t130.toList != ([] : List UInt8)) = false := bne_eq_false_iff_eq.mpr c11
            (try (have c11b2 : t134 = true := by have h_ := c10b0; rw [c11] at h_; simpa using h_))
            (try (have c11b3 : t134 = true := by have h_ := c10b0; rw [c11] at h_; simpa using h_))
            (try (have c11b4 : ¬ (t134 = true) := by have h_ := c10b0; rw [c11] at h_; simpa using h_))
            (try (have c11b5 : ¬ (t134 = true) := by have h_ := c10b0; rw [c11] at h_; simpa using h_))
            clear c11
            have H' := Aside0.mk H
            clear H
            go_wp2_with (first | ((with_reducible refine gate_callee (f := 11) rfl ?_); refine goesL_ (some 20) rfl rfl Try.func11 (by kernel_rfl) rfl #[.string t130, .string t131] rfl (by (try simp only [List.map_toArray, List.map_cons, List.map_nil]); first | done | rfl | (simp only [List.length_drop, List.length_take]; rfl)) ?_; (with_reducible refine (spec_PathIn.calls t130 t131 t133 _ A7.out).mono ?_); rintro e w' ⟨rfl, ⟨nd, rfl⟩⟩; refine ⟨_, rfl, ?_⟩) | (go_at_call 12; (with_reducible refine (impl_PathIn.calls t130 t130 t134 _ A9.out).mono ?_); rintro e w' ⟨rfl, ⟨nd, rfl⟩⟩))
            go_meet
            case rel => exact ⟨_, (!t132), (by first | rfl | (simp; done) | (simp [*]; done) | (simp [nen, een]; done)), H', ⟨by first | omega | exact Nat.le_refl _⟩, ⟨by repeat (first | (with_reducible first | exact HB.out | apply below_alloc | apply pw_below_drewN | apply below_drew1) | exact HB.out)⟩⟩
          · rw [if_neg c11] at H
            have c11b0 : (t130.toList == ([] : List UInt8)) = false := beq_eq_false_iff_ne.mpr c11
            have c11b1 : (t130.toList != ([] : List UInt8)) = true := bne_iff_ne.mpr c11
            (try (have c11b2 : ¬ (t134 = true) := by have h_ := c10b0; have e_ : (t130.toList != ([] : List UInt8)) = true := (by simpa using c11); rw [e_] at h_; simpa using h_))
            (try (have c11b3 : ¬ (t134 = true) := by have h_ := c10b0; have e_ : (t130.toList != ([] : List UInt8)) = true := (by simpa using c11); rw [e_] at h_; simpa using h_))
            (try (have c11b4 : t134 = true := by have h_ := c10b0; have e_ : (t130.toList != ([] : List UInt8)) = true := (by simpa using c11); rw [e_] at h_; simpa using h_))
            (try (have c11b5 : t134 = true := by have h_ := c10b0; have e_ : (t130.toList != ([] : List UInt8)) = true := (by simpa using c11); rw [e_] at h_; simpa using h_))
            by_cases c12 : 0 < (t130.size : Int)
            · rw [if_pos c12] at H
              have c12b0 : decide (0 < (t130.size : Int)) = true := decide_eq_true c12
              have c12b1 : decide (0 < t130.size) = true := decide_eq_true (by omega)
              clear c12
              by_cases c14 : (bt t130 0) = 47
              · rw [if_pos c14] at H
                have c14b0 : ((bt t130 0) == 47) = true := beq_iff_eq.mpr c14
                have c14b1 : ((bt t130 0) != 47) = false := bne_eq_false_iff_eq.mpr c14
                clear c14
                replace H := Option.bind_eq_some_iff.mp H
                obtain ⟨t135, A150, H⟩ := H
                replace H : (if t135 = true then (laws_FnPathIn.j0 k t130 t131 t132 (!t132)) else (laws_FnPathIn.j0 k t130 t131 t132 true)) = some r := H
                have A15 := Aside0.mk A150
                clear A150
                by_cases c16 : t135 = true
                · subst c16
                  have H1 : (laws_FnPathIn.j0 k t130 t131 t132 (!t132)) = some r := by rw [if_pos rfl] at H; exact H
                  clear H
                  have H := H1
                  clear H1
                  have H' := Aside0.mk H
                  clear H
                  go_wp2_with (first | ((with_reducible refine gate_callee (f := 11) rfl ?_); refine goesL_ (some 20) rfl rfl Try.func11 (by kernel_rfl) rfl #[.string t130, .string t131] rfl (by (try simp only [List.map_toArray, List.map_cons, List.map_nil]); first | done | rfl | (simp only [List.length_drop, List.length_take]; rfl)) ?_; (with_reducible refine (spec_PathIn.calls t130 t131 t133 _ A7.out).mono ?_); rintro e w' ⟨rfl, ⟨nd, rfl⟩⟩; refine ⟨_, rfl, ?_⟩) | (go_at_call 12; (with_reducible refine (impl_PathIn.calls t130 t130 t134 _ A9.out).mono ?_); rintro e w' ⟨rfl, ⟨nd, rfl⟩⟩; have p13 : 0 ≤ (0 : Int) := (by omega); have q13 : 0 < t130.size := (by have : (0 : Int) < (t130.size : Int) := of_decide_eq_true (by first | (with_reducible assumption) | assumption); omega); have hx13 : ∀ h : 0 < t130.size, ((t130[0]'h).toNat : Int) = bt t130 0 := bt_at t130 0; clear p13; have qi13 : (0 < (t130.size : Int)) = True := eq_true (of_decide_eq_true (by first | (with_reducible assumption) | assumption)); replace q13 := eq_true q13) | (go_at_call 12; (with_reducible refine (impl_PathIn.calls t130 (⟨#[47]⟩ : ByteArray) true _ A15.out).mono ?_); rintro e w' ⟨rfl, ⟨nd, rfl⟩⟩))
                  go_meet
                  case rel => exact ⟨_, (!t132), (by first | rfl | (simp; done) | (simp [*]; done) | (simp [nen, een]; done)), H', ⟨by first | omega | exact Nat.le_refl _⟩, ⟨by repeat (first | (with_reducible first | exact HB.out | apply below_alloc | apply pw_below_drewN | apply below_drew1) | exact HB.out)⟩⟩
                · replace c16 := Bool.eq_false_iff.mpr c16
                  subst c16
                  have H1 : (laws_FnPathIn.j0 k t130 t131 t132 true) = some r := by rw [if_neg (show ¬ (false = true) by decide)] at H; exact H
                  clear H
                  have H := H1
                  clear H1
                  have H' := Aside0.mk H
                  clear H
                  go_wp2_with (first | ((with_reducible refine gate_callee (f := 11) rfl ?_); refine goesL_ (some 20) rfl rfl Try.func11 (by kernel_rfl) rfl #[.string t130, .string t131] rfl (by (try simp only [List.map_toArray, List.map_cons, List.map_nil]); first | done | rfl | (simp only [List.length_drop, List.length_take]; rfl)) ?_; (with_reducible refine (spec_PathIn.calls t130 t131 t133 _ A7.out).mono ?_); rintro e w' ⟨rfl, ⟨nd, rfl⟩⟩; refine ⟨_, rfl, ?_⟩) | (go_at_call 12; (with_reducible refine (impl_PathIn.calls t130 t130 t134 _ A9.out).mono ?_); rintro e w' ⟨rfl, ⟨nd, rfl⟩⟩; have p13 : 0 ≤ (0 : Int) := (by omega); have q13 : 0 < t130.size := (by have : (0 : Int) < (t130.size : Int) := of_decide_eq_true (by first | (with_reducible assumption) | assumption); omega); have hx13 : ∀ h : 0 < t130.size, ((t130[0]'h).toNat : Int) = bt t130 0 := bt_at t130 0; clear p13; have qi13 : (0 < (t130.size : Int)) = True := eq_true (of_decide_eq_true (by first | (with_reducible assumption) | assumption)); replace q13 := eq_true q13) | (go_at_call 12; (with_reducible refine (impl_PathIn.calls t130 (⟨#[47]⟩ : ByteArray) false _ A15.out).mono ?_); rintro e w' ⟨rfl, ⟨nd, rfl⟩⟩))
                  go_meet
                  case rel => exact ⟨_, (true), (by first | rfl | (simp; done) | (simp [*]; done) | (simp [nen, een]; done)), H', ⟨by first | omega | exact Nat.le_refl _⟩, ⟨by repeat (first | (with_reducible first | exact HB.out | apply below_alloc | apply pw_below_drewN | apply below_drew1) | exact HB.out)⟩⟩
              · rw [if_neg c14] at H
                have c14b0 : ((bt t130 0) == 47) = false := beq_eq_false_iff_ne.mpr c14
                have c14b1 : ((bt t130 0) != 47) = true := bne_iff_ne.mpr c14
                have H' := Aside0.mk H
                clear H
                go_wp2_with (first | ((with_reducible refine gate_callee (f := 11) rfl ?_); refine goesL_ (some 20) rfl rfl Try.func11 (by kernel_rfl) rfl #[.string t130, .string t131] rfl (by (try simp only [List.map_toArray, List.map_cons, List.map_nil]); first | done | rfl | (simp only [List.length_drop, List.length_take]; rfl)) ?_; (with_reducible refine (spec_PathIn.calls t130 t131 t133 _ A7.out).mono ?_); rintro e w' ⟨rfl, ⟨nd, rfl⟩⟩; refine ⟨_, rfl, ?_⟩) | (go_at_call 12; (with_reducible refine (impl_PathIn.calls t130 t130 t134 _ A9.out).mono ?_); rintro e w' ⟨rfl, ⟨nd, rfl⟩⟩; have p13 : 0 ≤ (0 : Int) := (by omega); have q13 : 0 < t130.size := (by have : (0 : Int) < (t130.size : Int) := of_decide_eq_true (by first | (with_reducible assumption) | assumption); omega); have hx13 : ∀ h : 0 < t130.size, ((t130[0]'h).toNat : Int) = bt t130 0 := bt_at t130 0; clear p13; have qi13 : (0 < (t130.size : Int)) = True := eq_true (of_decide_eq_true (by first | (with_reducible assumption) | assumption)); replace q13 := eq_true q13))
                go_meet
                case rel => exact ⟨_, (!t132), (by first | rfl | (simp; done) | (simp [*]; done) | (simp [nen, een]; done)), H', ⟨by first | omega | exact Nat.le_refl _⟩, ⟨by repeat (first | (with_reducible first | exact HB.out | apply below_alloc | apply pw_below_drewN | apply below_drew1) | exact HB.out)⟩⟩
            · rw [if_neg c12] at H
              exact absurd H (by simp)
    case rest =>
      clear HC5
      try clear c1
      try clear p1
      try clear q1
      try clear hx1
      try clear qi1
      try clear c2
      try clear c2b0
      try clear c2b1
      try clear p2
      try clear c6
      try clear c8
      try clear c8b0
      try clear c8b1
      try clear c8b2
      try clear c10
      try clear c10b0
      try clear c10b1
      try clear c10b2
      try clear c11
      try clear c11b0
      try clear c11b1
      try clear c11b2
      try clear c12
      try clear c12b0
      try clear c12b1
      try clear c13
      try clear p13
      try clear q13
      try clear hx13
      try clear qi13
      try clear c14
      try clear c14b0
      try clear c14b1
      try clear c16
      try clear p13
      try clear q13
      obtain ⟨kq, x47_4, rfl, HA, HJ4, HB⟩ := hcut
      cases kq with
      | zero => exact absurd HA.out (by simp [laws_FnPathIn.j0])
      | succ kj4 =>
        have H := HA.out
        clear HA
        simp only [laws_FnPathIn.j0] at H
        by_cases c17 : x47_4 = true
        · subst c17
          have H1 : ((spec_PathIn.f t130 t131).bind fun t136 => (if (t132 == t136) = true then ((impl_PathIn.f t130 t130).bind fun t137 => (some (t137 == (t130.toList != ([] : List UInt8))))) else (some false))) = some r := by rw [if_pos rfl] at H; exact H
          clear H
          have H := H1
          clear H1
          replace H := Option.bind_eq_some_iff.mp H
          obtain ⟨t136, A180, H⟩ := H
          replace H : (if (t132 == t136) = true then ((impl_PathIn.f t130 t130).bind fun t137 => (some (t137 == (t130.toList != ([] : List UInt8))))) else (some false)) = some r := H
          have A18 := Aside0.mk A180
          clear A180
          by_cases c19 : (t132 == t136) = true
          · rw [if_pos c19] at H
            have c19b0 : (t132 == t136) = true := c19
            (try (have c19b1 : decide (t132 = t136) = true := by simpa using c19))
            (try (have c19b2 : (t132 == t136) = true := by simpa using c19))
            clear c19
            replace H := Option.bind_eq_some_iff.mp H
            obtain ⟨t137, A200, H⟩ := H
            replace H : (some (t137 == (t130.toList != ([] : List UInt8)))) = some r := H
            have A20 := Aside0.mk A200
            clear A200
            obtain rfl := Option.some.inj H
            go_wp2_with (first | ((with_reducible refine gate_callee (f := 11) rfl ?_); refine goesL_ (some 51) rfl rfl Try.func11 (by kernel_rfl) rfl #[.string t130, .string t131] rfl (by (try simp only [List.map_toArray, List.map_cons, List.map_nil]); first | done | rfl | (simp only [List.length_drop, List.length_take]; rfl)) ?_; (with_reducible refine (spec_PathIn.calls t130 t131 t136 _ A18.out).mono ?_); rintro e w' ⟨rfl, ⟨nd, rfl⟩⟩; refine ⟨_, rfl, ?_⟩) | (go_at_call 12; (with_reducible refine (impl_PathIn.calls t130 t130 t137 _ A20.out).mono ?_); rintro e w' ⟨rfl, ⟨nd, rfl⟩⟩))
            go_ret
            exact ⟨by first | rfl | (simp [errW_none, errW_some] <;> rfl) | (simp [*, errW_none, errW_some] <;> rfl) | (simp [nen, een]; done), by repeat (first | (with_reducible first | exact HB.out | apply below_alloc | apply pw_below_drewN | apply below_drew1) | exact HB.out)⟩
          · rw [if_neg c19] at H
            have c19b0 : (t132 == t136) = false := by simpa using c19
            (try (have c19b1 : decide (t132 = t136) = false := by simpa using c19))
            (try (have c19b2 : (t132 == t136) = false := by simpa using c19))
            (try (have c19b3 : ¬ (t132 = t136) := by simpa using c19))
            clear c19
            obtain rfl := Option.some.inj H
            go_wp2_with (first | ((with_reducible refine gate_callee (f := 11) rfl ?_); refine goesL_ (some 51) rfl rfl Try.func11 (by kernel_rfl) rfl #[.string t130, .string t131] rfl (by (try simp only [List.map_toArray, List.map_cons, List.map_nil]); first | done | rfl | (simp only [List.length_drop, List.length_take]; rfl)) ?_; (with_reducible refine (spec_PathIn.calls t130 t131 t136 _ A18.out).mono ?_); rintro e w' ⟨rfl, ⟨nd, rfl⟩⟩; refine ⟨_, rfl, ?_⟩))
            go_ret
            exact ⟨by first | rfl | (simp [errW_none, errW_some] <;> rfl) | (simp [*, errW_none, errW_some] <;> rfl) | (simp [nen, een]; done), by repeat (first | (with_reducible first | exact HB.out | apply below_alloc | apply pw_below_drewN | apply below_drew1) | exact HB.out)⟩
        · replace c17 := Bool.eq_false_iff.mpr c17
          subst c17
          have H1 : (if (t130.size : Int) ≥ (t131.size : Int) then (if 0 ≤ (t131.size : Int) then (if (t131.size : Int) ≤ (t130.size : Int) then (if (t130.extract 0 ((t131.size : Int) : Int).toNat).toList = t131.toList then (if t130.size + 2 ≤ 9223372036854775807 then ((impl_PathIn.f (t130 ++ (⟨#[47, 120]⟩ : ByteArray)) t131).bind fun t138 => (some t138)) else (none)) else (some false)) else (none)) else (none)) else (some false)) = some r := by rw [if_neg (show ¬ (false = true) by decide)] at H; exact H
          clear H
          have H := H1
          clear H1
          by_cases c21 : (t130.size : Int) ≥ (t131.size : Int)
          · rw [if_pos c21] at H
            have c21b0 : decide ((t131.size : Int) ≤ (t130.size : Int)) = true := decide_eq_true c21
            have c21b1 : decide (t131.size ≤ t130.size) = true := decide_eq_true (Int.ofNat_le.mp c21)
            clear c21
            by_cases c22 : 0 ≤ (t131.size : Int)
            · rw [if_pos c22] at H
              have c22b0 := eq_true c22
              have c22b1 : decide (0 ≤ (t131.size : Int)) = true := decide_eq_true c22
              clear c22
              by_cases c23 : (t131.size : Int) ≤ (t130.size : Int)
              · rw [if_pos c23] at H
                have c23b0 := eq_true c23
                have c23b1 : decide ((t131.size : Int) ≤ (t130.size : Int)) = true := decide_eq_true c23
                clear c23
                by_cases c24 : (t130.extract 0 ((t131.size : Int) : Int).toNat).toList = t131.toList
                · rw [if_pos c24] at H
                  have c24b0 : ((t130.extract 0 ((t131.size : Int) : Int).toNat).toList == t131.toList) = true := beq_iff_eq.mpr c24
                  have c24b1 : ((t130.extract 0 ((t131.size : Int) : Int).toNat).toList != t131.toList) = false := bne_eq_false_iff_eq.mpr c24
                  (try (have c24b2 : ((t130.extract 0 t131.size).toList == t131.toList) = true := by simpa using c24))
                  (try (have c24b3 : ((t130.extract 0 t131.size).toList != t131.toList) = false := by simpa using c24))
                  clear c24
                  by_cases c25 : t130.size + 2 ≤ 9223372036854775807
                  · rw [if_pos c25] at H
                    have c25b0 := eq_true c25
                    have c25b1 : decide (t130.size + 2 ≤ 9223372036854775807) = true := decide_eq_true c25
                    try have c25b2 : (9223372036854775807 < t130.size + 2) = False := eq_false (Nat.not_lt.2 c25)
                    replace H := Option.bind_eq_some_iff.mp H
                    obtain ⟨t138, A260, H⟩ := H
                    replace H : (some t138) = some r := H
                    have A26 := Aside0.mk A260
                    clear A260
                    obtain rfl := Option.some.inj H
                    go_wp2_with (first | (go_at_call 12; (with_reducible refine (impl_PathIn.calls (t130 ++ (⟨#[47, 120]⟩ : ByteArray)) t131 t138 _ A26.out).mono ?_); rintro e w' ⟨rfl, ⟨nd, rfl⟩⟩))
                    go_ret
                    exact ⟨by first | rfl | (simp [errW_none, errW_some] <;> rfl) | (simp [*, errW_none, errW_some] <;> rfl) | (simp [nen, een]; done), by repeat (first | (with_reducible first | exact HB.out | apply below_alloc | apply pw_below_drewN | apply below_drew1) | exact HB.out)⟩
                  · rw [if_neg c25] at H
                    exact absurd H (by simp)
                · rw [if_neg c24] at H
                  have c24b0 : ((t130.extract 0 ((t131.size : Int) : Int).toNat).toList == t131.toList) = false := beq_eq_false_iff_ne.mpr c24
                  have c24b1 : ((t130.extract 0 ((t131.size : Int) : Int).toNat).toList != t131.toList) = true := bne_iff_ne.mpr c24
                  (try (have c24b2 : ((t130.extract 0 t131.size).toList == t131.toList) = false := by simpa using c24))
                  (try (have c24b3 : ((t130.extract 0 t131.size).toList != t131.toList) = true := by simpa using c24))
                  obtain rfl := Option.some.inj H
                  go_wp2
                  go_ret
                  exact ⟨by first | rfl | (simp [errW_none, errW_some] <;> rfl) | (simp [*, errW_none, errW_some] <;> rfl) | (simp [nen, een]; done), by repeat (first | (with_reducible first | exact HB.out | apply below_alloc | apply pw_below_drewN | apply below_drew1) | exact HB.out)⟩
              · rw [if_neg c23] at H
                exact absurd H (by simp)
            · rw [if_neg c22] at H
              exact absurd H (by simp)
          · rw [if_neg c21] at H
            have c21b0 : decide ((t131.size : Int) ≤ (t130.size : Int)) = false := decide_eq_false c21
            have c21b1 : decide (t131.size ≤ t130.size) = false := decide_eq_false (fun h => c21 (Int.ofNat_le.mpr h))
            clear c21
            obtain rfl := Option.some.inj H
            go_wp2
            go_ret
            exact ⟨by first | rfl | (simp [errW_none, errW_some] <;> rfl) | (simp [*, errW_none, errW_some] <;> rfl) | (simp [nen, een]; done), by repeat (first | (with_reducible first | exact HB.out | apply below_alloc | apply pw_below_drewN | apply below_drew1) | exact HB.out)⟩

/-- THE ONE PURE STATEMENT of laws_FnPathIn: yours. -/
def laws_FnPathIn.Pure : Prop := ∀ (l0 : List Int), l0.length ≤ maxLen → l0.length * 1 ≤ 140737488351232 → (∀ x ∈ l0, (Lit.int .u8 x).wf = true) → ∃ k, laws_FnPathIn.f k l0 = some true
theorem laws_FnPathIn.walk (P : laws_FnPathIn.Pure) (a0 : Option Addr) (len0 cap0 : Nat) (z0 : List Int) (w : World) (w0 : (a0 = none ∧ len0 = 0 ∧ cap0 = 0 ∧ z0 = []) ∨ ∃ x, a0 = some x ∧ len0 ≤ cap0 ∧ cap0 ≤ maxLen ∧ z0.length = cap0 ∧ (∀ i, i < z0.length → w.cell? (x.add i) = some (.int .u8 (z0.getD i 0))) ∧ ∀ n ∈ z0, (Lit.int .u8 n).wf = true) (y0 : len0 * 1 ≤ 140737488351232) :
    Calls Try.prog 6 #[.slice a0 len0 cap0] w fun e w' => e = .returned (.bool true) ∧ Below w.heap.size w w' := by
  obtain ⟨l0, rfl, hr0, hm0, hw0, hc0⟩ := ReadsInt.ofRowC w0
  obtain ⟨k, h⟩ := P l0 hm0 y0 hw0
  refine (laws_FnPathIn.calls k _ _ l0 true w (Kd.C_of_reads (d := (0 : Int)) (h1 := fun _ => rfl) hr0) hc0 h).mono ?_
  rintro e w' ⟨rfl, hd⟩
  exact ⟨rfl, hd⟩

end Go.Proofs.Ytglliobchdjmcaa.PFnPathIn
