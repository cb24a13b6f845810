-- Written by a program of this session (wip/print/drive.py) for this claim; Lean checks it.
import Derived.Test.YtekeimhhffnjpaaDoorPFnFormx0
import Derived.Test.YtekeimhhffnjpaaDoorPFnFormx4
namespace Go.Proofs.YtekeimhhffnjpaaDoor.PFnForm
open Go.RowKit Go.Proofs.YtekeimhhffnjpaaDoor.H Go.Proofs.YtekeimhhffnjpaaDoorW.PrintWords Go.Proofs.YtekeimhhffnjpaaDoorW.PrintLast Go.Proofs.YtekeimhhffnjpaaDoorW.PrintMore
attribute [local go_sem] max2_int min2_int max_two min_two max_three min_three max_four min_four   -- for this text's walks alone
set_option linter.unusedVariables false
set_option linter.unusedSimpArgs false

/-! ### spec_l1Piece: function 69 -/
mutual
def spec_l1Piece.l0 : Nat → ByteArray → List Int → Int → Option (ByteArray)
  | 0, _, _, _ => none
  | k + 1, x0, x3, x4 => if x4 < (x0.size : Int) then (if 0 ≤ x4 then (if (bt x0 x4) = 32 then (if x3.length < 140737488355328 then (spec_l1Piece.l0 k x0 (x3 ++ [43]) (wrap64 (x4 + 1))) else (none)) else (if (bt x0 x4) ≥ 97 then (if (bt x0 x4) ≤ 122 then (spec_l1Piece.j1 k x0 x3 x4 (bt x0 x4) true) else (if (bt x0 x4) ≥ 65 then (if (bt x0 x4) ≤ 90 then (spec_l1Piece.j1 k x0 x3 x4 (bt x0 x4) true) else (if (bt x0 x4) ≥ 48 then (if (bt x0 x4) ≤ 57 then (spec_l1Piece.j1 k x0 x3 x4 (bt x0 x4) true) else (if (bt x0 x4) = 42 then (spec_l1Piece.j1 k x0 x3 x4 (bt x0 x4) true) else (if (bt x0 x4) = 45 then (spec_l1Piece.j1 k x0 x3 x4 (bt x0 x4) true) else (if (bt x0 x4) = 46 then (spec_l1Piece.j1 k x0 x3 x4 (bt x0 x4) true) else (spec_l1Piece.j1 k x0 x3 x4 (bt x0 x4) ((bt x0 x4) == 95)))))) else (if (bt x0 x4) = 42 then (spec_l1Piece.j1 k x0 x3 x4 (bt x0 x4) true) else (if (bt x0 x4) = 45 then (spec_l1Piece.j1 k x0 x3 x4 (bt x0 x4) true) else (if (bt x0 x4) = 46 then (spec_l1Piece.j1 k x0 x3 x4 (bt x0 x4) true) else (spec_l1Piece.j1 k x0 x3 x4 (bt x0 x4) ((bt x0 x4) == 95))))))) else (if (bt x0 x4) ≥ 48 then (if (bt x0 x4) ≤ 57 then (spec_l1Piece.j1 k x0 x3 x4 (bt x0 x4) true) else (if (bt x0 x4) = 42 then (spec_l1Piece.j1 k x0 x3 x4 (bt x0 x4) true) else (if (bt x0 x4) = 45 then (spec_l1Piece.j1 k x0 x3 x4 (bt x0 x4) true) else (if (bt x0 x4) = 46 then (spec_l1Piece.j1 k x0 x3 x4 (bt x0 x4) true) else (spec_l1Piece.j1 k x0 x3 x4 (bt x0 x4) ((bt x0 x4) == 95)))))) else (if (bt x0 x4) = 42 then (spec_l1Piece.j1 k x0 x3 x4 (bt x0 x4) true) else (if (bt x0 x4) = 45 then (spec_l1Piece.j1 k x0 x3 x4 (bt x0 x4) true) else (if (bt x0 x4) = 46 then (spec_l1Piece.j1 k x0 x3 x4 (bt x0 x4) true) else (spec_l1Piece.j1 k x0 x3 x4 (bt x0 x4) ((bt x0 x4) == 95)))))))) else (if (bt x0 x4) ≥ 65 then (if (bt x0 x4) ≤ 90 then (spec_l1Piece.j1 k x0 x3 x4 (bt x0 x4) true) else (if (bt x0 x4) ≥ 48 then (if (bt x0 x4) ≤ 57 then (spec_l1Piece.j1 k x0 x3 x4 (bt x0 x4) true) else (if (bt x0 x4) = 42 then (spec_l1Piece.j1 k x0 x3 x4 (bt x0 x4) true) else (if (bt x0 x4) = 45 then (spec_l1Piece.j1 k x0 x3 x4 (bt x0 x4) true) else (if (bt x0 x4) = 46 then (spec_l1Piece.j1 k x0 x3 x4 (bt x0 x4) true) else (spec_l1Piece.j1 k x0 x3 x4 (bt x0 x4) ((bt x0 x4) == 95)))))) else (if (bt x0 x4) = 42 then (spec_l1Piece.j1 k x0 x3 x4 (bt x0 x4) true) else (if (bt x0 x4) = 45 then (spec_l1Piece.j1 k x0 x3 x4 (bt x0 x4) true) else (if (bt x0 x4) = 46 then (spec_l1Piece.j1 k x0 x3 x4 (bt x0 x4) true) else (spec_l1Piece.j1 k x0 x3 x4 (bt x0 x4) ((bt x0 x4) == 95))))))) else (if (bt x0 x4) ≥ 48 then (if (bt x0 x4) ≤ 57 then (spec_l1Piece.j1 k x0 x3 x4 (bt x0 x4) true) else (if (bt x0 x4) = 42 then (spec_l1Piece.j1 k x0 x3 x4 (bt x0 x4) true) else (if (bt x0 x4) = 45 then (spec_l1Piece.j1 k x0 x3 x4 (bt x0 x4) true) else (if (bt x0 x4) = 46 then (spec_l1Piece.j1 k x0 x3 x4 (bt x0 x4) true) else (spec_l1Piece.j1 k x0 x3 x4 (bt x0 x4) ((bt x0 x4) == 95)))))) else (if (bt x0 x4) = 42 then (spec_l1Piece.j1 k x0 x3 x4 (bt x0 x4) true) else (if (bt x0 x4) = 45 then (spec_l1Piece.j1 k x0 x3 x4 (bt x0 x4) true) else (if (bt x0 x4) = 46 then (spec_l1Piece.j1 k x0 x3 x4 (bt x0 x4) true) else (spec_l1Piece.j1 k x0 x3 x4 (bt x0 x4) ((bt x0 x4) == 95))))))))) else (none)) else (some (strOfNums x3))
def spec_l1Piece.j1 : Nat → ByteArray → List Int → Int → Int → Bool → Option (ByteArray)
  | 0, _, _, _, _, _ => none
  | k + 1, x0, x3, x4, x5, x33 => if x33 = true then (if x3.length < 140737488355328 then (spec_l1Piece.l0 k x0 (x3 ++ [x5]) (wrap64 (x4 + 1))) else (none)) else ((spec_l1Figure.f (wrap64 (Int.tdiv (wrap64 (x5)) 16))).bind fun t208 => ((spec_l1Figure.f (Int.tmod (wrap64 (x5)) 16)).bind fun t209 => ((some (([37, t208, t209] : List Int) : List Int)).bind fun y210 => (if x3.length + y210.length < 140737488355328 then (spec_l1Piece.l0 k x0 (x3 ++ y210) (wrap64 (x4 + 1))) else (none)))))
end
def spec_l1Piece.f (k : Nat) (a0 : ByteArray) : Option (ByteArray) := spec_l1Piece.l0 k a0 (([] : List Int)) 0
theorem spec_l1Piece.mono_l : ∀ k, (∀ y0 y1 y2, LeO (spec_l1Piece.l0 k y0 y1 y2) (spec_l1Piece.l0 (k + 1) y0 y1 y2)) ∧ (∀ y0 y1 y2 y3 y4, LeO (spec_l1Piece.j1 k y0 y1 y2 y3 y4) (spec_l1Piece.j1 (k + 1) y0 y1 y2 y3 y4))
  | 0 => ⟨fun _ _ _ r h => by simp [spec_l1Piece.l0] at h, fun _ _ _ _ _ r h => by simp [spec_l1Piece.j1] at h⟩
  | k + 1 => by
    obtain ⟨ih0, ih1⟩ := spec_l1Piece.mono_l k
    refine ⟨?_, ?_⟩
    · intro y0 y1 y2
      unfold spec_l1Piece.l0
      repeat' first
      | (with_reducible exact ih0 _ _ _)
      | (with_reducible exact ih1 _ _ _ _ _)
      | (with_reducible exact LeO.refl _)
      | (with_reducible exact LeO.none _)
      | (with_reducible refine LeO.ite ?_ ?_)
      | (with_reducible refine LeO.bind ?_ (fun _ => ?_))
      | exact ih0 _ _ _
      | exact ih1 _ _ _ _ _
      | exact LeO.none _
      | refine LeO.ite ?_ ?_
      | refine LeO.bind ?_ (fun _ => ?_)
    · intro y0 y1 y2 y3 y4
      unfold spec_l1Piece.j1
      repeat' first
      | (with_reducible exact ih0 _ _ _)
      | (with_reducible exact ih1 _ _ _ _ _)
      | (with_reducible exact LeO.refl _)
      | (with_reducible exact LeO.none _)
      | (with_reducible refine LeO.ite ?_ ?_)
      | (with_reducible refine LeO.bind ?_ (fun _ => ?_))
      | exact ih0 _ _ _
      | exact ih1 _ _ _ _ _
      | exact LeO.none _
      | refine LeO.ite ?_ ?_
      | refine LeO.bind ?_ (fun _ => ?_)
theorem spec_l1Piece.mono : ∀ a0 k, LeO (spec_l1Piece.f k a0) (spec_l1Piece.f (k + 1) a0) := by
  intro a0 k
  obtain ⟨ih0, ih1⟩ := spec_l1Piece.mono_l k
  unfold spec_l1Piece.f
  repeat' first
      | (with_reducible exact ih0 _ _ _)
      | (with_reducible exact ih1 _ _ _ _ _)
      | (with_reducible exact LeO.refl _)
      | (with_reducible exact LeO.none _)
      | (with_reducible refine LeO.ite ?_ ?_)
      | (with_reducible refine LeO.bind ?_ (fun _ => ?_))
      | exact ih0 _ _ _
      | exact ih1 _ _ _ _ _
      | exact LeO.none _
      | refine LeO.ite ?_ ?_
      | refine LeO.bind ?_ (fun _ => ?_)
set_option maxHeartbeats 8000000 in
set_option maxRecDepth 100000 in
theorem spec_l1Piece.calls (k : Nat) (a0 : ByteArray) (r : ByteArray) (w : World) (h : spec_l1Piece.f k a0 = some r) :
    Calls Tryd.prog 69 #[.string a0] w fun e w' => e = .returned (.string r) ∧ Below w.heap.size w w' := by
  have HB := Aside0.mk (Below.refl w.heap.size w)
  have H : (spec_l1Piece.l0 k a0 (([] : List Int)) 0) = some r := h
  clear h
  obtain ⟨y199, hy199⟩ : ∃ y_ : List Int, y_ = (([] : List Int)) := ⟨_, rfl⟩
  replace H : (spec_l1Piece.l0 k a0 y199 0) = some r := by first | (rw [hy199]; with_reducible exact H) | (have H2_ := (Option.bind_some _ _).symm.trans H; rw [hy199]; with_reducible exact H2_) | (have H2_ := (Option.bind_some _ _).symm.trans H; with_reducible exact H2_) | with_reducible exact H | (rw [hy199]; exact H) | exact H
  have Ny199 := Aside0.mk hy199
  clear hy199
  have H' := Aside0.mk H
  clear H
  go_enter Tryd.func69, Tryd.ntmps69
  go_wp2_with (first | ((with_reducible refine gate_dst (N := 6) rfl ?_); refine Kd.R_lit (Kd.int .u8) _ 5 ?hg (N := 6) ?hd (xs := ([] : List Int)) (inner := []) (ok := fun _ => True) (okp := fun _ => True) ?hr ?hp (fun _ hk => hk) trivial (Below.refl _ _) (Nat.le_refl _) (by simp) ?_; (case hd => rfl); (case hg => rfl); (case hr => first | (go_simp; done) | (go_simp; rfl)); (case hp => exact (Reps.none _ _)); intro v200 w2 ho3 hb hg_ hnew_; clear hg_ hnew_; (first | rw [← Ny199.out] at ho3 | (simp only [Int.reduceToNat] at ho3; rw [← Ny199.out] at ho3)); have n0_ := Aside0.mk (Kd.R_lower ho3 (below_size (by repeat (first | (with_reducible first | exact HB.out | apply below_alloc | apply pw_below_drewN | apply below_drew1) | exact HB.out)))); have n1_ := Aside0.mk (below_step (by repeat (first | (with_reducible first | exact HB.out | apply below_alloc | apply pw_below_drewN | apply below_drew1) | exact HB.out)) hb); clear HB; have HO201 := n0_; have HB := n1_; clear n0_ n1_; clear hb ho3))
  go_loopg [3, 4] k (fun kq v3 v4 w' => ∃ (x3_1 : List Int) (x4_1 : Int), v4 = .int .i64 x4_1 ∧ Aside0 (spec_l1Piece.l0 kq a0 x3_1 x4_1 = some r) ∧ Aside0 (kq ≤ k) ∧ Aside0 (Kd.R (Kd.int .u8) 5 w' w.heap.size (fun _ => True) v3 x3_1) ∧ Aside0 (Below w.heap.size w w'))
  case atStart => exact ⟨(y199), (0), (by first | rfl | (simp; done) | (simp [*]; done) | (simp [nen, een]; done)), H', ⟨Nat.le_refl _⟩, ⟨by (with_reducible repeat (first | apply Kd.R_alloc | apply Kd.R_drewN | apply Kd.R_drew)); exact HO201.out⟩, ⟨by repeat (first | (with_reducible first | exact HB.out | apply below_alloc | apply pw_below_drewN | apply below_drew1) | exact HB.out)⟩⟩
  case round =>
    clear H'
    try clear p2
    obtain ⟨x3_1, x4_1, rfl, HA, HK1, HO_3, HB⟩ := hrel
    cases gk with
    | zero => exact absurd HA.out (by simp [spec_l1Piece.l0])
    | succ k1 =>
      have H := HA.out
      clear HA
      simp only [spec_l1Piece.l0] at H
      by_cases c4 : x4_1 < (a0.size : Int)
      · rw [if_pos c4] at H
        have c4b0 : decide (x4_1 < (a0.size : Int)) = true := decide_eq_true c4
        clear c4
        by_cases c5 : 0 ≤ x4_1
        · rw [if_pos c5] at H
          have c5b0 : decide (0 ≤ x4_1) = true := decide_eq_true c5
          clear c5
          by_cases c7 : (bt a0 x4_1) = 32
          · rw [if_pos c7] at H
            have c7b0 : ((bt a0 x4_1) == 32) = true := beq_iff_eq.mpr c7
            have c7b1 : ((bt a0 x4_1) != 32) = false := bne_eq_false_iff_eq.mpr c7
            clear c7
            by_cases c8 : x3_1.length < 140737488355328
            · rw [if_pos c8] at H
              have LMc8 := Aside0.mk c8
              clear c8
              obtain ⟨y202, hy202⟩ : ∃ y_ : List Int, y_ = (x3_1 ++ [43]) := ⟨_, rfl⟩
              replace H : (spec_l1Piece.l0 k1 a0 y202 (wrap64 (x4_1 + 1))) = some r := by first | (rw [hy202]; with_reducible exact H) | (have H2_ := (Option.bind_some _ _).symm.trans H; rw [hy202]; with_reducible exact H2_) | (have H2_ := (Option.bind_some _ _).symm.trans H; with_reducible exact H2_) | with_reducible exact H | (rw [hy202]; exact H) | exact H
              have Ny202 := Aside0.mk hy202
              clear hy202
              have H' := Aside0.mk H
              clear H
              have p6 : 0 ≤ (x4_1 : Int) := of_decide_eq_true (by first | (with_reducible assumption) | assumption)
              have q6 : x4_1 < (a0.size : Int) := of_decide_eq_true (by first | (with_reducible assumption) | assumption)
              have hx6 := bt_at a0 x4_1
              replace p6 := eq_true p6
              replace q6 := eq_true q6
              go_wp2_with (first | ((with_reducible refine gate_builtin (b := .append) (xs := #[.tmp 30, .tmp 31]) rfl ?_); at_builtin; refine Kd.R_append (Kd.int .u8) (w0 := w) w.heap.size rfl (.tmp 30) (.tmp 31) 22 5 (.int .u8 0) 1 rfl Tryd.underlying22 info5 rfl (by decide) (by omega) u3 x3_1 43 [.int .u8 43] (fun _ => True) (fun _ => False) rfl rfl ?aP (fun _ hk => hk.elim) ?aF ?aO ?aB ?aS ?aL ?_; (case aP => exact rfl); (case aB => exact (by repeat (first | (with_reducible first | exact HB.out | apply below_alloc | apply pw_below_drewN | apply below_drew1) | exact HB.out))); (case aF => exact (fun _ _ => trivial)); (case aO => exact (by (with_reducible repeat (first | apply Kd.R_alloc | apply Kd.R_drewN | apply Kd.R_drew)); exact HO_3.out)); (case aS => exact (below_size (by repeat (first | (with_reducible first | exact HB.out | apply below_alloc | apply pw_below_drewN | apply below_drew1) | exact HB.out)))); (case aL => have := LMc8.out; omega); intro v203 w9 ho hb hg hat; rw [← Ny202.out] at ho; have n0_ := Aside0.mk (hb); have n1_ := Aside0.mk (ho); clear HB; clear HO_3; have HB := n0_; have HO204 := n1_; clear n0_ n1_; clear ho hb hg hat))
              go_roundg k1
              case measure => have := HK1.out; omega
              case rel => exact ⟨(y202), (wrap64 (x4_1 + 1)), (by first | rfl | (simp; done) | (simp [*]; done) | (simp [nen, een]; done)), H', ⟨by have := HK1.out; omega⟩, ⟨by (with_reducible repeat (first | apply Kd.R_alloc | apply Kd.R_drewN | apply Kd.R_drew)); exact HO204.out⟩, ⟨by repeat (first | (with_reducible first | exact HB.out | apply below_alloc | apply pw_below_drewN | apply below_drew1) | exact HB.out)⟩⟩
            · rw [if_neg c8] at H
              exact absurd H (by simp)
          · rw [if_neg c7] at H
            have c7b0 : ((bt a0 x4_1) == 32) = false := beq_eq_false_iff_ne.mpr c7
            have c7b1 : ((bt a0 x4_1) != 32) = true := bne_iff_ne.mpr c7
            have HC10 := Aside0.mk H
            clear H
            have p6 : 0 ≤ (x4_1 : Int) := of_decide_eq_true (by first | (with_reducible assumption) | assumption)
            have q6 : x4_1 < (a0.size : Int) := of_decide_eq_true (by first | (with_reducible assumption) | assumption)
            have hx6 := bt_at a0 x4_1
            replace p6 := eq_true p6
            replace q6 := eq_true q6
            go_upto_region 9 with (fail)
            go_cut [33] (fun v33 wc => ∃ (kq : Nat) (x33_9 : Bool), v33 = .bool x33_9 ∧ Aside0 (spec_l1Piece.j1 kq a0 x3_1 x4_1 (bt a0 x4_1) x33_9 = some r) ∧ Aside0 (kq ≤ k1) ∧ Aside0 (Kd.R (Kd.int .u8) 5 wc w.heap.size (fun _ => True) u3 x3_1) ∧ Aside0 (Below w.heap.size w wc))
            case first =>
              have H := HC10.out
              clear HC10
              by_cases c11 : (bt a0 x4_1) ≥ 97
              · rw [if_pos c11] at H
                have c11b0 : decide (97 ≤ (bt a0 x4_1)) = true := decide_eq_true c11
                clear c11
                (first | rw [c11b0] | (simp only [i64_w, i32_w]; rw [c11b0]) | skip)
                by_cases c12 : (bt a0 x4_1) ≤ 122
                · rw [if_pos c12] at H
                  have c12b0 : decide ((bt a0 x4_1) ≤ 122) = true := decide_eq_true c12
                  clear c12
                  have H' := Aside0.mk H
                  clear H
                  go_wp2
                  go_meet
                  case rel => exact ⟨_, (true), (by first | rfl | (simp; done) | (simp [*]; done) | (simp [nen, een]; done)), H', ⟨by have := HK1.out; first | omega | exact Nat.le_refl _⟩, ⟨by (with_reducible repeat (first | apply Kd.R_alloc | apply Kd.R_drewN | apply Kd.R_drew)); exact HO_3.out⟩, ⟨by repeat (first | (with_reducible first | exact HB.out | apply below_alloc | apply pw_below_drewN | apply below_drew1) | exact HB.out)⟩⟩
                · rw [if_neg c12] at H
                  have c12b0 : decide ((bt a0 x4_1) ≤ 122) = false := decide_eq_false c12
                  clear c12
                  by_cases c13 : (bt a0 x4_1) ≥ 65
                  · rw [if_pos c13] at H
                    have c13b0 : decide (65 ≤ (bt a0 x4_1)) = true := decide_eq_true c13
                    clear c13
                    by_cases c14 : (bt a0 x4_1) ≤ 90
                    · rw [if_pos c14] at H
                      have c14b0 : decide ((bt a0 x4_1) ≤ 90) = true := decide_eq_true c14
                      clear c14
                      have H' := Aside0.mk H
                      clear H
                      go_wp2
                      go_meet
                      case rel => exact ⟨_, (true), (by first | rfl | (simp; done) | (simp [*]; done) | (simp [nen, een]; done)), H', ⟨by have := HK1.out; first | omega | exact Nat.le_refl _⟩, ⟨by (with_reducible repeat (first | apply Kd.R_alloc | apply Kd.R_drewN | apply Kd.R_drew)); exact HO_3.out⟩, ⟨by repeat (first | (with_reducible first | exact HB.out | apply below_alloc | apply pw_below_drewN | apply below_drew1) | exact HB.out)⟩⟩
                    · rw [if_neg c14] at H
                      have c14b0 : decide ((bt a0 x4_1) ≤ 90) = false := decide_eq_false c14
                      clear c14
                      by_cases c15 : (bt a0 x4_1) ≥ 48
                      · rw [if_pos c15] at H
                        have c15b0 : decide (48 ≤ (bt a0 x4_1)) = true := decide_eq_true c15
                        clear c15
                        by_cases c16 : (bt a0 x4_1) ≤ 57
                        · rw [if_pos c16] at H
                          have c16b0 : decide ((bt a0 x4_1) ≤ 57) = true := decide_eq_true c16
                          clear c16
                          have H' := Aside0.mk H
                          clear H
                          go_wp2
                          go_meet
                          case rel => exact ⟨_, (true), (by first | rfl | (simp; done) | (simp [*]; done) | (simp [nen, een]; done)), H', ⟨by have := HK1.out; first | omega | exact Nat.le_refl _⟩, ⟨by (with_reducible repeat (first | apply Kd.R_alloc | apply Kd.R_drewN | apply Kd.R_drew)); exact HO_3.out⟩, ⟨by repeat (first | (with_reducible first | exact HB.out | apply below_alloc | apply pw_below_drewN | apply below_drew1) | exact HB.out)⟩⟩
                        · rw [if_neg c16] at H
                          have c16b0 : decide ((bt a0 x4_1) ≤ 57) = false := decide_eq_false c16
                          clear c16
                          by_cases c17 : (bt a0 x4_1) = 42
                          · rw [if_pos c17] at H
                            have c17b0 : ((bt a0 x4_1) == 42) = true := beq_iff_eq.mpr c17
                            have c17b1 : ((bt a0 x4_1) != 42) = false := bne_eq_false_iff_eq.mpr c17
                            clear c17
                            have H' := Aside0.mk H
                            clear H
                            go_wp2
                            go_meet
                            case rel => exact ⟨_, (true), (by first | rfl | (simp; done) | (simp [*]; done) | (simp [nen, een]; done)), H', ⟨by have := HK1.out; first | omega | exact Nat.le_refl _⟩, ⟨by (with_reducible repeat (first | apply Kd.R_alloc | apply Kd.R_drewN | apply Kd.R_drew)); exact HO_3.out⟩, ⟨by repeat (first | (with_reducible first | exact HB.out | apply below_alloc | apply pw_below_drewN | apply below_drew1) | exact HB.out)⟩⟩
                          · rw [if_neg c17] at H
                            have c17b0 : ((bt a0 x4_1) == 42) = false := beq_eq_false_iff_ne.mpr c17
                            have c17b1 : ((bt a0 x4_1) != 42) = true := bne_iff_ne.mpr c17
                            by_cases c18 : (bt a0 x4_1) = 45
                            · rw [if_pos c18] at H
                              have c18b0 : ((bt a0 x4_1) == 45) = true := beq_iff_eq.mpr c18
                              have c18b1 : ((bt a0 x4_1) != 45) = false := bne_eq_false_iff_eq.mpr c18
                              clear c18
                              have H' := Aside0.mk H
                              clear H
                              go_wp2
                              go_meet
                              case rel => exact ⟨_, (true), (by first | rfl | (simp; done) | (simp [*]; done) | (simp [nen, een]; done)), H', ⟨by have := HK1.out; first | omega | exact Nat.le_refl _⟩, ⟨by (with_reducible repeat (first | apply Kd.R_alloc | apply Kd.R_drewN | apply Kd.R_drew)); exact HO_3.out⟩, ⟨by repeat (first | (with_reducible first | exact HB.out | apply below_alloc | apply pw_below_drewN | apply below_drew1) | exact HB.out)⟩⟩
                            · rw [if_neg c18] at H
                              have c18b0 : ((bt a0 x4_1) == 45) = false := beq_eq_false_iff_ne.mpr c18
                              have c18b1 : ((bt a0 x4_1) != 45) = true := bne_iff_ne.mpr c18
                              by_cases c19 : (bt a0 x4_1) = 46
                              · rw [if_pos c19] at H
                                have c19b0 : ((bt a0 x4_1) == 46) = true := beq_iff_eq.mpr c19
                                have c19b1 : ((bt a0 x4_1) != 46) = false := bne_eq_false_iff_eq.mpr c19
                                clear c19
                                have H' := Aside0.mk H
                                clear H
                                go_wp2
                                go_meet
                                case rel => exact ⟨_, (true), (by first | rfl | (simp; done) | (simp [*]; done) | (simp [nen, een]; done)), H', ⟨by have := HK1.out; first | omega | exact Nat.le_refl _⟩, ⟨by (with_reducible repeat (first | apply Kd.R_alloc | apply Kd.R_drewN | apply Kd.R_drew)); exact HO_3.out⟩, ⟨by repeat (first | (with_reducible first | exact HB.out | apply below_alloc | apply pw_below_drewN | apply below_drew1) | exact HB.out)⟩⟩
                              · rw [if_neg c19] at H
                                have c19b0 : ((bt a0 x4_1) == 46) = false := beq_eq_false_iff_ne.mpr c19
                                have c19b1 : ((bt a0 x4_1) != 46) = true := bne_iff_ne.mpr c19
                                have H' := Aside0.mk H
                                clear H
                                go_wp2
                                go_meet
                                case rel => exact ⟨_, (((bt a0 x4_1) == 95)), (by first | rfl | (simp; done) | (simp [*]; done) | (simp [nen, een]; done)), H', ⟨by have := HK1.out; first | omega | exact Nat.le_refl _⟩, ⟨by (with_reducible repeat (first | apply Kd.R_alloc | apply Kd.R_drewN | apply Kd.R_drew)); exact HO_3.out⟩, ⟨by repeat (first | (with_reducible first | exact HB.out | apply below_alloc | apply pw_below_drewN | apply below_drew1) | exact HB.out)⟩⟩
                      · rw [if_neg c15] at H
                        have c15b0 : decide (48 ≤ (bt a0 x4_1)) = false := decide_eq_false c15
                        clear c15
                        by_cases c20 : (bt a0 x4_1) = 42
                        · rw [if_pos c20] at H
                          have c20b0 : ((bt a0 x4_1) == 42) = true := beq_iff_eq.mpr c20
                          have c20b1 : ((bt a0 x4_1) != 42) = false := bne_eq_false_iff_eq.mpr c20
                          clear c20
                          have H' := Aside0.mk H
                          clear H
                          go_wp2
                          go_meet
                          case rel => exact ⟨_, (true), (by first | rfl | (simp; done) | (simp [*]; done) | (simp [nen, een]; done)), H', ⟨by have := HK1.out; first | omega | exact Nat.le_refl _⟩, ⟨by (with_reducible repeat (first | apply Kd.R_alloc | apply Kd.R_drewN | apply Kd.R_drew)); exact HO_3.out⟩, ⟨by repeat (first | (with_reducible first | exact HB.out | apply below_alloc | apply pw_below_drewN | apply below_drew1) | exact HB.out)⟩⟩
                        · rw [if_neg c20] at H
                          have c20b0 : ((bt a0 x4_1) == 42) = false := beq_eq_false_iff_ne.mpr c20
                          have c20b1 : ((bt a0 x4_1) != 42) = true := bne_iff_ne.mpr c20
                          by_cases c21 : (bt a0 x4_1) = 45
                          · rw [if_pos c21] at H
                            have c21b0 : ((bt a0 x4_1) == 45) = true := beq_iff_eq.mpr c21
                            have c21b1 : ((bt a0 x4_1) != 45) = false := bne_eq_false_iff_eq.mpr c21
                            clear c21
                            have H' := Aside0.mk H
                            clear H
                            go_wp2
                            go_meet
                            case rel => exact ⟨_, (true), (by first | rfl | (simp; done) | (simp [*]; done) | (simp [nen, een]; done)), H', ⟨by have := HK1.out; first | omega | exact Nat.le_refl _⟩, ⟨by (with_reducible repeat (first | apply Kd.R_alloc | apply Kd.R_drewN | apply Kd.R_drew)); exact HO_3.out⟩, ⟨by repeat (first | (with_reducible first | exact HB.out | apply below_alloc | apply pw_below_drewN | apply below_drew1) | exact HB.out)⟩⟩
                          · rw [if_neg c21] at H
                            have c21b0 : ((bt a0 x4_1) == 45) = false := beq_eq_false_iff_ne.mpr c21
                            have c21b1 : ((bt a0 x4_1) != 45) = true := bne_iff_ne.mpr c21
                            by_cases c22 : (bt a0 x4_1) = 46
                            · rw [if_pos c22] at H
                              have c22b0 : ((bt a0 x4_1) == 46) = true := beq_iff_eq.mpr c22
                              have c22b1 : ((bt a0 x4_1) != 46) = false := bne_eq_false_iff_eq.mpr c22
                              clear c22
                              have H' := Aside0.mk H
                              clear H
                              go_wp2
                              go_meet
                              case rel => exact ⟨_, (true), (by first | rfl | (simp; done) | (simp [*]; done) | (simp [nen, een]; done)), H', ⟨by have := HK1.out; first | omega | exact Nat.le_refl _⟩, ⟨by (with_reducible repeat (first | apply Kd.R_alloc | apply Kd.R_drewN | apply Kd.R_drew)); exact HO_3.out⟩, ⟨by repeat (first | (with_reducible first | exact HB.out | apply below_alloc | apply pw_below_drewN | apply below_drew1) | exact HB.out)⟩⟩
                            · rw [if_neg c22] at H
                              have c22b0 : ((bt a0 x4_1) == 46) = false := beq_eq_false_iff_ne.mpr c22
                              have c22b1 : ((bt a0 x4_1) != 46) = true := bne_iff_ne.mpr c22
                              have H' := Aside0.mk H
                              clear H
                              go_wp2
                              go_meet
                              case rel => exact ⟨_, (((bt a0 x4_1) == 95)), (by first | rfl | (simp; done) | (simp [*]; done) | (simp [nen, een]; done)), H', ⟨by have := HK1.out; first | omega | exact Nat.le_refl _⟩, ⟨by (with_reducible repeat (first | apply Kd.R_alloc | apply Kd.R_drewN | apply Kd.R_drew)); exact HO_3.out⟩, ⟨by repeat (first | (with_reducible first | exact HB.out | apply below_alloc | apply pw_below_drewN | apply below_drew1) | exact HB.out)⟩⟩
                  · rw [if_neg c13] at H
                    have c13b0 : decide (65 ≤ (bt a0 x4_1)) = false := decide_eq_false c13
                    clear c13
                    by_cases c23 : (bt a0 x4_1) ≥ 48
                    · rw [if_pos c23] at H
                      have c23b0 : decide (48 ≤ (bt a0 x4_1)) = true := decide_eq_true c23
                      clear c23
                      by_cases c24 : (bt a0 x4_1) ≤ 57
                      · rw [if_pos c24] at H
                        have c24b0 : decide ((bt a0 x4_1) ≤ 57) = true := decide_eq_true c24
                        clear c24
                        have H' := Aside0.mk H
                        clear H
                        go_wp2
                        go_meet
                        case rel => exact ⟨_, (true), (by first | rfl | (simp; done) | (simp [*]; done) | (simp [nen, een]; done)), H', ⟨by have := HK1.out; first | omega | exact Nat.le_refl _⟩, ⟨by (with_reducible repeat (first | apply Kd.R_alloc | apply Kd.R_drewN | apply Kd.R_drew)); exact HO_3.out⟩, ⟨by repeat (first | (with_reducible first | exact HB.out | apply below_alloc | apply pw_below_drewN | apply below_drew1) | exact HB.out)⟩⟩
                      · rw [if_neg c24] at H
                        have c24b0 : decide ((bt a0 x4_1) ≤ 57) = false := decide_eq_false c24
                        clear c24
                        by_cases c25 : (bt a0 x4_1) = 42
                        · rw [if_pos c25] at H
                          have c25b0 : ((bt a0 x4_1) == 42) = true := beq_iff_eq.mpr c25
                          have c25b1 : ((bt a0 x4_1) != 42) = false := bne_eq_false_iff_eq.mpr c25
                          clear c25
                          have H' := Aside0.mk H
                          clear H
                          go_wp2
                          go_meet
                          case rel => exact ⟨_, (true), (by first | rfl | (simp; done) | (simp [*]; done) | (simp [nen, een]; done)), H', ⟨by have := HK1.out; first | omega | exact Nat.le_refl _⟩, ⟨by (with_reducible repeat (first | apply Kd.R_alloc | apply Kd.R_drewN | apply Kd.R_drew)); exact HO_3.out⟩, ⟨by repeat (first | (with_reducible first | exact HB.out | apply below_alloc | apply pw_below_drewN | apply below_drew1) | exact HB.out)⟩⟩
                        · rw [if_neg c25] at H
                          have c25b0 : ((bt a0 x4_1) == 42) = false := beq_eq_false_iff_ne.mpr c25
                          have c25b1 : ((bt a0 x4_1) != 42) = true := bne_iff_ne.mpr c25
                          by_cases c26 : (bt a0 x4_1) = 45
                          · rw [if_pos c26] at H
                            have c26b0 : ((bt a0 x4_1) == 45) = true := beq_iff_eq.mpr c26
                            have c26b1 : ((bt a0 x4_1) != 45) = false := bne_eq_false_iff_eq.mpr c26
                            clear c26
                            have H' := Aside0.mk H
                            clear H
                            go_wp2
                            go_meet
                            case rel => exact ⟨_, (true), (by first | rfl | (simp; done) | (simp [*]; done) | (simp [nen, een]; done)), H', ⟨by have := HK1.out; first | omega | exact Nat.le_refl _⟩, ⟨by (with_reducible repeat (first | apply Kd.R_alloc | apply Kd.R_drewN | apply Kd.R_drew)); exact HO_3.out⟩, ⟨by repeat (first | (with_reducible first | exact HB.out | apply below_alloc | apply pw_below_drewN | apply below_drew1) | exact HB.out)⟩⟩
                          · rw [if_neg c26] at H
                            have c26b0 : ((bt a0 x4_1) == 45) = false := beq_eq_false_iff_ne.mpr c26
                            have c26b1 : ((bt a0 x4_1) != 45) = true := bne_iff_ne.mpr c26
                            by_cases c27 : (bt a0 x4_1) = 46
                            · rw [if_pos c27] at H
                              have c27b0 : ((bt a0 x4_1) == 46) = true := beq_iff_eq.mpr c27
                              have c27b1 : ((bt a0 x4_1) != 46) = false := bne_eq_false_iff_eq.mpr c27
                              clear c27
                              have H' := Aside0.mk H
                              clear H
                              go_wp2
                              go_meet
                              case rel => exact ⟨_, (true), (by first | rfl | (simp; done) | (simp [*]; done) | (simp [nen, een]; done)), H', ⟨by have := HK1.out; first | omega | exact Nat.le_refl _⟩, ⟨by (with_reducible repeat (first | apply Kd.R_alloc | apply Kd.R_drewN | apply Kd.R_drew)); exact HO_3.out⟩, ⟨by repeat (first | (with_reducible first | exact HB.out | apply below_alloc | apply pw_below_drewN | apply below_drew1) | exact HB.out)⟩⟩
                            · rw [if_neg c27] at H
                              have c27b0 : ((bt a0 x4_1) == 46) = false := beq_eq_false_iff_ne.mpr c27
                              have c27b1 : ((bt a0 x4_1) != 46) = true := bne_iff_ne.mpr c27
                              have H' := Aside0.mk H
                              clear H
                              go_wp2
                              go_meet
                              case rel => exact ⟨_, (((bt a0 x4_1) == 95)), (by first | rfl | (simp; done) | (simp [*]; done) | (simp [nen, een]; done)), H', ⟨by have := HK1.out; first | omega | exact Nat.le_refl _⟩, ⟨by (with_reducible repeat (first | apply Kd.R_alloc | apply Kd.R_drewN | apply Kd.R_drew)); exact HO_3.out⟩, ⟨by repeat (first | (with_reducible first | exact HB.out | apply below_alloc | apply pw_below_drewN | apply below_drew1) | exact HB.out)⟩⟩
                    · rw [if_neg c23] at H
                      have c23b0 : decide (48 ≤ (bt a0 x4_1)) = false := decide_eq_false c23
                      clear c23
                      by_cases c28 : (bt a0 x4_1) = 42
                      · rw [if_pos c28] at H
                        have c28b0 : ((bt a0 x4_1) == 42) = true := beq_iff_eq.mpr c28
                        have c28b1 : ((bt a0 x4_1) != 42) = false := bne_eq_false_iff_eq.mpr c28
                        clear c28
                        have H' := Aside0.mk H
                        clear H
                        go_wp2
                        go_meet
                        case rel => exact ⟨_, (true), (by first | rfl | (simp; done) | (simp [*]; done) | (simp [nen, een]; done)), H', ⟨by have := HK1.out; first | omega | exact Nat.le_refl _⟩, ⟨by (with_reducible repeat (first | apply Kd.R_alloc | apply Kd.R_drewN | apply Kd.R_drew)); exact HO_3.out⟩, ⟨by repeat (first | (with_reducible first | exact HB.out | apply below_alloc | apply pw_below_drewN | apply below_drew1) | exact HB.out)⟩⟩
                      · rw [if_neg c28] at H
                        have c28b0 : ((bt a0 x4_1) == 42) = false := beq_eq_false_iff_ne.mpr c28
                        have c28b1 : ((bt a0 x4_1) != 42) = true := bne_iff_ne.mpr c28
                        by_cases c29 : (bt a0 x4_1) = 45
                        · rw [if_pos c29] at H
                          have c29b0 : ((bt a0 x4_1) == 45) = true := beq_iff_eq.mpr c29
                          have c29b1 : ((bt a0 x4_1) != 45) = false := bne_eq_false_iff_eq.mpr c29
                          clear c29
                          have H' := Aside0.mk H
                          clear H
                          go_wp2
                          go_meet
                          case rel => exact ⟨_, (true), (by first | rfl | (simp; done) | (simp [*]; done) | (simp [nen, een]; done)), H', ⟨by have := HK1.out; first | omega | exact Nat.le_refl _⟩, ⟨by (with_reducible repeat (first | apply Kd.R_alloc | apply Kd.R_drewN | apply Kd.R_drew)); exact HO_3.out⟩, ⟨by repeat (first | (with_reducible first | exact HB.out | apply below_alloc | apply pw_below_drewN | apply below_drew1) | exact HB.out)⟩⟩
                        · rw [if_neg c29] at H
                          have c29b0 : ((bt a0 x4_1) == 45) = false := beq_eq_false_iff_ne.mpr c29
                          have c29b1 : ((bt a0 x4_1) != 45) = true := bne_iff_ne.mpr c29
                          by_cases c30 : (bt a0 x4_1) = 46
                          · rw [if_pos c30] at H
                            have c30b0 : ((bt a0 x4_1) == 46) = true := beq_iff_eq.mpr c30
                            have c30b1 : ((bt a0 x4_1) != 46) = false := bne_eq_false_iff_eq.mpr c30
                            clear c30
                            have H' := Aside0.mk H
                            clear H
                            go_wp2
                            go_meet
                            case rel => exact ⟨_, (true), (by first | rfl | (simp; done) | (simp [*]; done) | (simp [nen, een]; done)), H', ⟨by have := HK1.out; first | omega | exact Nat.le_refl _⟩, ⟨by (with_reducible repeat (first | apply Kd.R_alloc | apply Kd.R_drewN | apply Kd.R_drew)); exact HO_3.out⟩, ⟨by repeat (first | (with_reducible first | exact HB.out | apply below_alloc | apply pw_below_drewN | apply below_drew1) | exact HB.out)⟩⟩
                          · rw [if_neg c30] at H
                            have c30b0 : ((bt a0 x4_1) == 46) = false := beq_eq_false_iff_ne.mpr c30
                            have c30b1 : ((bt a0 x4_1) != 46) = true := bne_iff_ne.mpr c30
                            have H' := Aside0.mk H
                            clear H
                            go_wp2
                            go_meet
                            case rel => exact ⟨_, (((bt a0 x4_1) == 95)), (by first | rfl | (simp; done) | (simp [*]; done) | (simp [nen, een]; done)), H', ⟨by have := HK1.out; first | omega | exact Nat.le_refl _⟩, ⟨by (with_reducible repeat (first | apply Kd.R_alloc | apply Kd.R_drewN | apply Kd.R_drew)); exact HO_3.out⟩, ⟨by repeat (first | (with_reducible first | exact HB.out | apply below_alloc | apply pw_below_drewN | apply below_drew1) | exact HB.out)⟩⟩
              · rw [if_neg c11] at H
                have c11b0 : decide (97 ≤ (bt a0 x4_1)) = false := decide_eq_false c11
                clear c11
                (first | rw [c11b0] | (simp only [i64_w, i32_w]; rw [c11b0]) | skip)
                by_cases c31 : (bt a0 x4_1) ≥ 65
                · rw [if_pos c31] at H
                  have c31b0 : decide (65 ≤ (bt a0 x4_1)) = true := decide_eq_true c31
                  clear c31
                  by_cases c32 : (bt a0 x4_1) ≤ 90
                  · rw [if_pos c32] at H
                    have c32b0 : decide ((bt a0 x4_1) ≤ 90) = true := decide_eq_true c32
                    clear c32
                    have H' := Aside0.mk H
                    clear H
                    go_wp2
                    go_meet
                    case rel => exact ⟨_, (true), (by first | rfl | (simp; done) | (simp [*]; done) | (simp [nen, een]; done)), H', ⟨by have := HK1.out; first | omega | exact Nat.le_refl _⟩, ⟨by (with_reducible repeat (first | apply Kd.R_alloc | apply Kd.R_drewN | apply Kd.R_drew)); exact HO_3.out⟩, ⟨by repeat (first | (with_reducible first | exact HB.out | apply below_alloc | apply pw_below_drewN | apply below_drew1) | exact HB.out)⟩⟩
                  · rw [if_neg c32] at H
                    have c32b0 : decide ((bt a0 x4_1) ≤ 90) = false := decide_eq_false c32
                    clear c32
                    by_cases c33 : (bt a0 x4_1) ≥ 48
                    · rw [if_pos c33] at H
                      have c33b0 : decide (48 ≤ (bt a0 x4_1)) = true := decide_eq_true c33
                      clear c33
                      by_cases c34 : (bt a0 x4_1) ≤ 57
                      · rw [if_pos c34] at H
                        have c34b0 : decide ((bt a0 x4_1) ≤ 57) = true := decide_eq_true c34
                        clear c34
                        have H' := Aside0.mk H
                        clear H
                        go_wp2
                        go_meet
                        case rel => exact ⟨_, (true), (by first | rfl | (simp; done) | (simp [*]; done) | (simp [nen, een]; done)), H', ⟨by have := HK1.out; first | omega | exact Nat.le_refl _⟩, ⟨by (with_reducible repeat (first | apply Kd.R_alloc | apply Kd.R_drewN | apply Kd.R_drew)); exact HO_3.out⟩, ⟨by repeat (first | (with_reducible first | exact HB.out | apply below_alloc | apply pw_below_drewN | apply below_drew1) | exact HB.out)⟩⟩
                      · rw [if_neg c34] at H
                        have c34b0 : decide ((bt a0 x4_1) ≤ 57) = false := decide_eq_false c34
                        clear c34
                        by_cases c35 : (bt a0 x4_1) = 42
                        · rw [if_pos c35] at H
                          have c35b0 : ((bt a0 x4_1) == 42) = true := beq_iff_eq.mpr c35
                          have c35b1 : ((bt a0 x4_1) != 42) = false := bne_eq_false_iff_eq.mpr c35
                          clear c35
                          have H' := Aside0.mk H
                          clear H
                          go_wp2
                          go_meet
                          case rel => exact ⟨_, (true), (by first | rfl | (simp; done) | (simp [*]; done) | (simp [nen, een]; done)), H', ⟨by have := HK1.out; first | omega | exact Nat.le_refl _⟩, ⟨by (with_reducible repeat (first | apply Kd.R_alloc | apply Kd.R_drewN | apply Kd.R_drew)); exact HO_3.out⟩, ⟨by repeat (first | (with_reducible first | exact HB.out | apply below_alloc | apply pw_below_drewN | apply below_drew1) | exact HB.out)⟩⟩
                        · rw [if_neg c35] at H
                          have c35b0 : ((bt a0 x4_1) == 42) = false := beq_eq_false_iff_ne.mpr c35
                          have c35b1 : ((bt a0 x4_1) != 42) = true := bne_iff_ne.mpr c35
                          by_cases c36 : (bt a0 x4_1) = 45
                          · rw [if_pos c36] at H
                            have c36b0 : ((bt a0 x4_1) == 45) = true := beq_iff_eq.mpr c36
                            have c36b1 : ((bt a0 x4_1) != 45) = false := bne_eq_false_iff_eq.mpr c36
                            clear c36
                            have H' := Aside0.mk H
                            clear H
                            go_wp2
                            go_meet
                            case rel => exact ⟨_, (true), (by first | rfl | (simp; done) | (simp [*]; done) | (simp [nen, een]; done)), H', ⟨by have := HK1.out; first | omega | exact Nat.le_refl _⟩, ⟨by (with_reducible repeat (first | apply Kd.R_alloc | apply Kd.R_drewN | apply Kd.R_drew)); exact HO_3.out⟩, ⟨by repeat (first | (with_reducible first | exact HB.out | apply below_alloc | apply pw_below_drewN | apply below_drew1) | exact HB.out)⟩⟩
                          · rw [if_neg c36] at H
                            have c36b0 : ((bt a0 x4_1) == 45) = false := beq_eq_false_iff_ne.mpr c36
                            have c36b1 : ((bt a0 x4_1) != 45) = true := bne_iff_ne.mpr c36
                            by_cases c37 : (bt a0 x4_1) = 46
                            · rw [if_pos c37] at H
                              have c37b0 : ((bt a0 x4_1) == 46) = true := beq_iff_eq.mpr c37
                              have c37b1 : ((bt a0 x4_1) != 46) = false := bne_eq_false_iff_eq.mpr c37
                              clear c37
                              have H' := Aside0.mk H
                              clear H
                              go_wp2
                              go_meet
                              case rel => exact ⟨_, (true), (by first | rfl | (simp; done) | (simp [*]; done) | (simp [nen, een]; done)), H', ⟨by have := HK1.out; first | omega | exact Nat.le_refl _⟩, ⟨by (with_reducible repeat (first | apply Kd.R_alloc | apply Kd.R_drewN | apply Kd.R_drew)); exact HO_3.out⟩, ⟨by repeat (first | (with_reducible first | exact HB.out | apply below_alloc | apply pw_below_drewN | apply below_drew1) | exact HB.out)⟩⟩
                            · rw [if_neg c37] at H
                              have c37b0 : ((bt a0 x4_1) == 46) = false := beq_eq_false_iff_ne.mpr c37
                              have c37b1 : ((bt a0 x4_1) != 46) = true := bne_iff_ne.mpr c37
                              have H' := Aside0.mk H
                              clear H
                              go_wp2
                              go_meet
                              case rel => exact ⟨_, (((bt a0 x4_1) == 95)), (by first | rfl | (simp; done) | (simp [*]; done) | (simp [nen, een]; done)), H', ⟨by have := HK1.out; first | omega | exact Nat.le_refl _⟩, ⟨by (with_reducible repeat (first | apply Kd.R_alloc | apply Kd.R_drewN | apply Kd.R_drew)); exact HO_3.out⟩, ⟨by repeat (first | (with_reducible first | exact HB.out | apply below_alloc | apply pw_below_drewN | apply below_drew1) | exact HB.out)⟩⟩
                    · rw [if_neg c33] at H
                      have c33b0 : decide (48 ≤ (bt a0 x4_1)) = false := decide_eq_false c33
                      clear c33
                      by_cases c38 : (bt a0 x4_1) = 42
                      · rw [if_pos c38] at H
                        have c38b0 : ((bt a0 x4_1) == 42) = true := beq_iff_eq.mpr c38
                        have c38b1 : ((bt a0 x4_1) != 42) = false := bne_eq_false_iff_eq.mpr c38
                        clear c38
                        have H' := Aside0.mk H
                        clear H
                        go_wp2
                        go_meet
                        case rel => exact ⟨_, (true), (by first | rfl | (simp; done) | (simp [*]; done) | (simp [nen, een]; done)), H', ⟨by have := HK1.out; first | omega | exact Nat.le_refl _⟩, ⟨by (with_reducible repeat (first | apply Kd.R_alloc | apply Kd.R_drewN | apply Kd.R_drew)); exact HO_3.out⟩, ⟨by repeat (first | (with_reducible first | exact HB.out | apply below_alloc | apply pw_below_drewN | apply below_drew1) | exact HB.out)⟩⟩
                      · rw [if_neg c38] at H
                        have c38b0 : ((bt a0 x4_1) == 42) = false := beq_eq_false_iff_ne.mpr c38
                        have c38b1 : ((bt a0 x4_1) != 42) = true := bne_iff_ne.mpr c38
                        by_cases c39 : (bt a0 x4_1) = 45
                        · rw [if_pos c39] at H
                          have c39b0 : ((bt a0 x4_1) == 45) = true := beq_iff_eq.mpr c39
                          have c39b1 : ((bt a0 x4_1) != 45) = false := bne_eq_false_iff_eq.mpr c39
                          clear c39
                          have H' := Aside0.mk H
                          clear H
                          go_wp2
                          go_meet
                          case rel => exact ⟨_, (true), (by first | rfl | (simp; done) | (simp [*]; done) | (simp [nen, een]; done)), H', ⟨by have := HK1.out; first | omega | exact Nat.le_refl _⟩, ⟨by (with_reducible repeat (first | apply Kd.R_alloc | apply Kd.R_drewN | apply Kd.R_drew)); exact HO_3.out⟩, ⟨by repeat (first | (with_reducible first | exact HB.out | apply below_alloc | apply pw_below_drewN | apply below_drew1) | exact HB.out)⟩⟩
                        · rw [if_neg c39] at H
                          have c39b0 : ((bt a0 x4_1) == 45) = false := beq_eq_false_iff_ne.mpr c39
                          have c39b1 : ((bt a0 x4_1) != 45) = true := bne_iff_ne.mpr c39
                          by_cases c40 : (bt a0 x4_1) = 46
                          · rw [if_pos c40] at H
                            have c40b0 : ((bt a0 x4_1) == 46) = true := beq_iff_eq.mpr c40
                            have c40b1 : ((bt a0 x4_1) != 46) = false := bne_eq_false_iff_eq.mpr c40
                            clear c40
                            have H' := Aside0.mk H
                            clear H
                            go_wp2
                            go_meet
                            case rel => exact ⟨_, (true), (by first | rfl | (simp; done) | (simp [*]; done) | (simp [nen, een]; done)), H', ⟨by have := HK1.out; first | omega | exact Nat.le_refl _⟩, ⟨by (with_reducible repeat (first | apply Kd.R_alloc | apply Kd.R_drewN | apply Kd.R_drew)); exact HO_3.out⟩, ⟨by repeat (first | (with_reducible first | exact HB.out | apply below_alloc | apply pw_below_drewN | apply below_drew1) | exact HB.out)⟩⟩
                          · rw [if_neg c40] at H
                            have c40b0 : ((bt a0 x4_1) == 46) = false := beq_eq_false_iff_ne.mpr c40
                            have c40b1 : ((bt a0 x4_1) != 46) = true := bne_iff_ne.mpr c40
                            have H' := Aside0.mk H
                            clear H
                            go_wp2
                            go_meet
                            case rel => exact ⟨_, (((bt a0 x4_1) == 95)), (by first | rfl | (simp; done) | (simp [*]; done) | (simp [nen, een]; done)), H', ⟨by have := HK1.out; first | omega | exact Nat.le_refl _⟩, ⟨by (with_reducible repeat (first | apply Kd.R_alloc | apply Kd.R_drewN | apply Kd.R_drew)); exact HO_3.out⟩, ⟨by repeat (first | (with_reducible first | exact HB.out | apply below_alloc | apply pw_below_drewN | apply below_drew1) | exact HB.out)⟩⟩
                · rw [if_neg c31] at H
                  have c31b0 : decide (65 ≤ (bt a0 x4_1)) = false := decide_eq_false c31
                  clear c31
                  by_cases c41 : (bt a0 x4_1) ≥ 48
                  · rw [if_pos c41] at H
                    have c41b0 : decide (48 ≤ (bt a0 x4_1)) = true := decide_eq_true c41
                    clear c41
                    by_cases c42 : (bt a0 x4_1) ≤ 57
                    · rw [if_pos c42] at H
                      have c42b0 : decide ((bt a0 x4_1) ≤ 57) = true := decide_eq_true c42
                      clear c42
                      have H' := Aside0.mk H
                      clear H
                      go_wp2
                      go_meet
                      case rel => exact ⟨_, (true), (by first | rfl | (simp; done) | (simp [*]; done) | (simp [nen, een]; done)), H', ⟨by have := HK1.out; first | omega | exact Nat.le_refl _⟩, ⟨by (with_reducible repeat (first | apply Kd.R_alloc | apply Kd.R_drewN | apply Kd.R_drew)); exact HO_3.out⟩, ⟨by repeat (first | (with_reducible first | exact HB.out | apply below_alloc | apply pw_below_drewN | apply below_drew1) | exact HB.out)⟩⟩
                    · rw [if_neg c42] at H
                      have c42b0 : decide ((bt a0 x4_1) ≤ 57) = false := decide_eq_false c42
                      clear c42
                      by_cases c43 : (bt a0 x4_1) = 42
                      · rw [if_pos c43] at H
                        have c43b0 : ((bt a0 x4_1) == 42) = true := beq_iff_eq.mpr c43
                        have c43b1 : ((bt a0 x4_1) != 42) = false := bne_eq_false_iff_eq.mpr c43
                        clear c43
                        have H' := Aside0.mk H
                        clear H
                        go_wp2
                        go_meet
                        case rel => exact ⟨_, (true), (by first | rfl | (simp; done) | (simp [*]; done) | (simp [nen, een]; done)), H', ⟨by have := HK1.out; first | omega | exact Nat.le_refl _⟩, ⟨by (with_reducible repeat (first | apply Kd.R_alloc | apply Kd.R_drewN | apply Kd.R_drew)); exact HO_3.out⟩, ⟨by repeat (first | (with_reducible first | exact HB.out | apply below_alloc | apply pw_below_drewN | apply below_drew1) | exact HB.out)⟩⟩
                      · rw [if_neg c43] at H
                        have c43b0 : ((bt a0 x4_1) == 42) = false := beq_eq_false_iff_ne.mpr c43
                        have c43b1 : ((bt a0 x4_1) != 42) = true := bne_iff_ne.mpr c43
                        by_cases c44 : (bt a0 x4_1) = 45
                        · rw [if_pos c44] at H
                          have c44b0 : ((bt a0 x4_1) == 45) = true := beq_iff_eq.mpr c44
                          have c44b1 : ((bt a0 x4_1) != 45) = false := bne_eq_false_iff_eq.mpr c44
                          clear c44
                          have H' := Aside0.mk H
                          clear H
                          go_wp2
                          go_meet
                          case rel => exact ⟨_, (true), (by first | rfl | (simp; done) | (simp [*]; done) | (simp [nen, een]; done)), H', ⟨by have := HK1.out; first | omega | exact Nat.le_refl _⟩, ⟨by (with_reducible repeat (first | apply Kd.R_alloc | apply Kd.R_drewN | apply Kd.R_drew)); exact HO_3.out⟩, ⟨by repeat (first | (with_reducible first | exact HB.out | apply below_alloc | apply pw_below_drewN | apply below_drew1) | exact HB.out)⟩⟩
                        · rw [if_neg c44] at H
                          have c44b0 : ((bt a0 x4_1) == 45) = false := beq_eq_false_iff_ne.mpr c44
                          have c44b1 : ((bt a0 x4_1) != 45) = true := bne_iff_ne.mpr c44
                          by_cases c45 : (bt a0 x4_1) = 46
                          · rw [if_pos c45] at H
                            have c45b0 : ((bt a0 x4_1) == 46) = true := beq_iff_eq.mpr c45
                            have c45b1 : ((bt a0 x4_1) != 46) = false := bne_eq_false_iff_eq.mpr c45
                            clear c45
                            have H' := Aside0.mk H
                            clear H
                            go_wp2
                            go_meet
                            case rel => exact ⟨_, (true), (by first | rfl | (simp; done) | (simp [*]; done) | (simp [nen, een]; done)), H', ⟨by have := HK1.out; first | omega | exact Nat.le_refl _⟩, ⟨by (with_reducible repeat (first | apply Kd.R_alloc | apply Kd.R_drewN | apply Kd.R_drew)); exact HO_3.out⟩, ⟨by repeat (first | (with_reducible first | exact HB.out | apply below_alloc | apply pw_below_drewN | apply below_drew1) | exact HB.out)⟩⟩
                          · rw [if_neg c45] at H
                            have c45b0 : ((bt a0 x4_1) == 46) = false := beq_eq_false_iff_ne.mpr c45
                            have c45b1 : ((bt a0 x4_1) != 46) = true := bne_iff_ne.mpr c45
                            have H' := Aside0.mk H
                            clear H
                            go_wp2
                            go_meet
                            case rel => exact ⟨_, (((bt a0 x4_1) == 95)), (by first | rfl | (simp; done) | (simp [*]; done) | (simp [nen, een]; done)), H', ⟨by have := HK1.out; first | omega | exact Nat.le_refl _⟩, ⟨by (with_reducible repeat (first | apply Kd.R_alloc | apply Kd.R_drewN | apply Kd.R_drew)); exact HO_3.out⟩, ⟨by repeat (first | (with_reducible first | exact HB.out | apply below_alloc | apply pw_below_drewN | apply below_drew1) | exact HB.out)⟩⟩
                  · rw [if_neg c41] at H
                    have c41b0 : decide (48 ≤ (bt a0 x4_1)) = false := decide_eq_false c41
                    clear c41
                    by_cases c46 : (bt a0 x4_1) = 42
                    · rw [if_pos c46] at H
                      have c46b0 : ((bt a0 x4_1) == 42) = true := beq_iff_eq.mpr c46
                      have c46b1 : ((bt a0 x4_1) != 42) = false := bne_eq_false_iff_eq.mpr c46
                      clear c46
                      have H' := Aside0.mk H
                      clear H
                      go_wp2
                      go_meet
                      case rel => exact ⟨_, (true), (by first | rfl | (simp; done) | (simp [*]; done) | (simp [nen, een]; done)), H', ⟨by have := HK1.out; first | omega | exact Nat.le_refl _⟩, ⟨by (with_reducible repeat (first | apply Kd.R_alloc | apply Kd.R_drewN | apply Kd.R_drew)); exact HO_3.out⟩, ⟨by repeat (first | (with_reducible first | exact HB.out | apply below_alloc | apply pw_below_drewN | apply below_drew1) | exact HB.out)⟩⟩
                    · rw [if_neg c46] at H
                      have c46b0 : ((bt a0 x4_1) == 42) = false := beq_eq_false_iff_ne.mpr c46
                      have c46b1 : ((bt a0 x4_1) != 42) = true := bne_iff_ne.mpr c46
                      by_cases c47 : (bt a0 x4_1) = 45
                      · rw [if_pos c47] at H
                        have c47b0 : ((bt a0 x4_1) == 45) = true := beq_iff_eq.mpr c47
                        have c47b1 : ((bt a0 x4_1) != 45) = false := bne_eq_false_iff_eq.mpr c47
                        clear c47
                        have H' := Aside0.mk H
                        clear H
                        go_wp2
                        go_meet
                        case rel => exact ⟨_, (true), (by first | rfl | (simp; done) | (simp [*]; done) | (simp [nen, een]; done)), H', ⟨by have := HK1.out; first | omega | exact Nat.le_refl _⟩, ⟨by (with_reducible repeat (first | apply Kd.R_alloc | apply Kd.R_drewN | apply Kd.R_drew)); exact HO_3.out⟩, ⟨by repeat (first | (with_reducible first | exact HB.out | apply below_alloc | apply pw_below_drewN | apply below_drew1) | exact HB.out)⟩⟩
                      · rw [if_neg c47] at H
                        have c47b0 : ((bt a0 x4_1) == 45) = false := beq_eq_false_iff_ne.mpr c47
                        have c47b1 : ((bt a0 x4_1) != 45) = true := bne_iff_ne.mpr c47
                        by_cases c48 : (bt a0 x4_1) = 46
                        · rw [if_pos c48] at H
                          have c48b0 : ((bt a0 x4_1) == 46) = true := beq_iff_eq.mpr c48
                          have c48b1 : ((bt a0 x4_1) != 46) = false := bne_eq_false_iff_eq.mpr c48
                          clear c48
                          have H' := Aside0.mk H
                          clear H
                          go_wp2
                          go_meet
                          case rel => exact ⟨_, (true), (by first | rfl | (simp; done) | (simp [*]; done) | (simp [nen, een]; done)), H', ⟨by have := HK1.out; first | omega | exact Nat.le_refl _⟩, ⟨by (with_reducible repeat (first | apply Kd.R_alloc | apply Kd.R_drewN | apply Kd.R_drew)); exact HO_3.out⟩, ⟨by repeat (first | (with_reducible first | exact HB.out | apply below_alloc | apply pw_below_drewN | apply below_drew1) | exact HB.out)⟩⟩
                        · rw [if_neg c48] at H
                          have c48b0 : ((bt a0 x4_1) == 46) = false := beq_eq_false_iff_ne.mpr c48
                          have c48b1 : ((bt a0 x4_1) != 46) = true := bne_iff_ne.mpr c48
                          have H' := Aside0.mk H
                          clear H
                          go_wp2
                          go_meet
                          case rel => exact ⟨_, (((bt a0 x4_1) == 95)), (by first | rfl | (simp; done) | (simp [*]; done) | (simp [nen, een]; done)), H', ⟨by have := HK1.out; first | omega | exact Nat.le_refl _⟩, ⟨by (with_reducible repeat (first | apply Kd.R_alloc | apply Kd.R_drewN | apply Kd.R_drew)); exact HO_3.out⟩, ⟨by repeat (first | (with_reducible first | exact HB.out | apply below_alloc | apply pw_below_drewN | apply below_drew1) | exact HB.out)⟩⟩
            case rest =>
              clear HC10
              try clear c1
              try clear c2
              try clear p2
              try clear c3
              try clear c4
              try clear c4b0
              try clear c5
              try clear c5b0
              try clear c6
              try clear p6
              try clear q6
              try clear hx6
              try clear c7
              try clear c7b0
              try clear c7b1
              try clear c8
              try clear c11
              try clear c11b0
              try clear c12
              try clear c12b0
              try clear c13
              try clear c13b0
              try clear c14
              try clear c14b0
              try clear c15
              try clear c15b0
              try clear c16
              try clear c16b0
              try clear c17
              try clear c17b0
              try clear c17b1
              try clear c18
              try clear c18b0
              try clear c18b1
              try clear c19
              try clear c19b0
              try clear c19b1
              try clear c20
              try clear c20b0
              try clear c20b1
              try clear c21
              try clear c21b0
              try clear c21b1
              try clear c22
              try clear c22b0
              try clear c22b1
              try clear c23
              try clear c23b0
              try clear c24
              try clear c24b0
              try clear c25
              try clear c25b0
              try clear c25b1
              try clear c26
              try clear c26b0
              try clear c26b1
              try clear c27
              try clear c27b0
              try clear c27b1
              try clear c28
              try clear c28b0
              try clear c28b1
              try clear c29
              try clear c29b0
              try clear c29b1
              try clear c30
              try clear c30b0
              try clear c30b1
              try clear c31
              try clear c31b0
              try clear c32
              try clear c32b0
              try clear c33
              try clear c33b0
              try clear c34
              try clear c34b0
              try clear c35
              try clear c35b0
              try clear c35b1
              try clear c36
              try clear c36b0
              try clear c36b1
              try clear c37
              try clear c37b0
              try clear c37b1
              try clear c38
              try clear c38b0
              try clear c38b1
              try clear c39
              try clear c39b0
              try clear c39b1
              try clear c40
              try clear c40b0
              try clear c40b1
              try clear c41
              try clear c41b0
              try clear c42
              try clear c42b0
              try clear c43
              try clear c43b0
              try clear c43b1
              try clear c44
              try clear c44b0
              try clear c44b1
              try clear c45
              try clear c45b0
              try clear c45b1
              try clear c46
              try clear c46b0
              try clear c46b1
              try clear c47
              try clear c47b0
              try clear c47b1
              try clear c48
              try clear c48b0
              try clear c48b1
              try clear p2
              try clear p6
              try clear q6
              obtain ⟨kq, x33_9, rfl, HA, HJ9, HO_3, HB⟩ := hcut
              cases kq with
              | zero => exact absurd HA.out (by simp [spec_l1Piece.j1])
              | succ kj9 =>
                have H := HA.out
                clear HA
                simp only [spec_l1Piece.j1] at H
                by_cases c49 : x33_9 = true
                · subst c49
                  have H1 : (if x3_1.length < 140737488355328 then (spec_l1Piece.l0 kj9 a0 (x3_1 ++ [(bt a0 x4_1)]) (wrap64 (x4_1 + 1))) else (none)) = some r := by rw [if_pos rfl] at H; exact H
                  clear H
                  have H := H1
                  clear H1
                  by_cases c50 : x3_1.length < 140737488355328
                  · rw [if_pos c50] at H
                    have LMc50 := Aside0.mk c50
                    clear c50
                    obtain ⟨y205, hy205⟩ : ∃ y_ : List Int, y_ = (x3_1 ++ [(bt a0 x4_1)]) := ⟨_, rfl⟩
                    replace H : (spec_l1Piece.l0 kj9 a0 y205 (wrap64 (x4_1 + 1))) = some r := by first | (rw [hy205]; with_reducible exact H) | (have H2_ := (Option.bind_some _ _).symm.trans H; rw [hy205]; with_reducible exact H2_) | (have H2_ := (Option.bind_some _ _).symm.trans H; with_reducible exact H2_) | with_reducible exact H | (rw [hy205]; exact H) | exact H
                    have Ny205 := Aside0.mk hy205
                    clear hy205
                    have H' := Aside0.mk H
                    clear H
                    go_wp2_with (first | ((with_reducible refine gate_builtin (b := .append) (xs := #[.tmp 72, .tmp 74]) rfl ?_); at_builtin; refine Kd.R_append (Kd.int .u8) (w0 := w) w.heap.size rfl (.tmp 72) (.tmp 74) 22 5 (.int .u8 0) 1 rfl Tryd.underlying22 info5 rfl (by decide) (by omega) u3 x3_1 (bt a0 x4_1) [.int .u8 (bt a0 x4_1)] (fun _ => True) (fun _ => False) rfl rfl ?aP (fun _ hk => hk.elim) ?aF ?aO ?aB ?aS ?aL ?_; (case aP => exact rfl); (case aB => exact (by repeat (first | (with_reducible first | exact HB.out | apply below_alloc | apply pw_below_drewN | apply below_drew1) | exact HB.out))); (case aF => exact (fun _ _ => trivial)); (case aO => exact (by (with_reducible repeat (first | apply Kd.R_alloc | apply Kd.R_drewN | apply Kd.R_drew)); exact HO_3.out)); (case aS => exact (below_size (by repeat (first | (with_reducible first | exact HB.out | apply below_alloc | apply pw_below_drewN | apply below_drew1) | exact HB.out)))); (case aL => have := LMc50.out; omega); intro v206 w51 ho hb hg hat; rw [← Ny205.out] at ho; have n0_ := Aside0.mk (hb); have n1_ := Aside0.mk (ho); clear HB; clear HO_3; have HB := n0_; have HO207 := n1_; clear n0_ n1_; clear ho hb hg hat))
                    go_roundg kj9
                    case measure => have := HK1.out; have := HJ9.out; omega
                    case rel => exact ⟨(y205), (wrap64 (x4_1 + 1)), (by first | rfl | (simp; done) | (simp [*]; done) | (simp [nen, een]; done)), H', ⟨by have := HK1.out; have := HJ9.out; omega⟩, ⟨by (with_reducible repeat (first | apply Kd.R_alloc | apply Kd.R_drewN | apply Kd.R_drew)); exact HO207.out⟩, ⟨by repeat (first | (with_reducible first | exact HB.out | apply below_alloc | apply pw_below_drewN | apply below_drew1) | exact HB.out)⟩⟩
                  · rw [if_neg c50] at H
                    exact absurd H (by simp)
                · replace c49 := Bool.eq_false_iff.mpr c49
                  subst c49
                  have H1 : ((spec_l1Figure.f (wrap64 (Int.tdiv (wrap64 ((bt a0 x4_1))) 16))).bind fun t208 => ((spec_l1Figure.f (Int.tmod (wrap64 ((bt a0 x4_1))) 16)).bind fun t209 => ((some (([37, t208, t209] : List Int) : List Int)).bind fun y210 => (if x3_1.length + y210.length < 140737488355328 then (spec_l1Piece.l0 kj9 a0 (x3_1 ++ y210) (wrap64 (x4_1 + 1))) else (none))))) = some r := by rw [if_neg (show ¬ (false = true) by decide)] at H; exact H
                  clear H
                  have H := H1
                  clear H1
                  replace H := Option.bind_eq_some_iff.mp H
                  obtain ⟨t208, A520, H⟩ := H
                  replace H : ((spec_l1Figure.f (Int.tmod (wrap64 ((bt a0 x4_1))) 16)).bind fun t209 => ((some (([37, t208, t209] : List Int) : List Int)).bind fun y210 => (if x3_1.length + y210.length < 140737488355328 then (spec_l1Piece.l0 kj9 a0 (x3_1 ++ y210) (wrap64 (x4_1 + 1))) else (none)))) = some r := H
                  have A52 := Aside0.mk A520
                  clear A520
                  replace H := Option.bind_eq_some_iff.mp H
                  obtain ⟨t209, A530, H⟩ := H
                  replace H : ((some (([37, t208, t209] : List Int) : List Int)).bind fun y210 => (if x3_1.length + y210.length < 140737488355328 then (spec_l1Piece.l0 kj9 a0 (x3_1 ++ y210) (wrap64 (x4_1 + 1))) else (none))) = some r := H
                  have A53 := Aside0.mk A530
                  clear A530
                  obtain ⟨y210, hy210⟩ : ∃ y_ : List Int, y_ = (([37, t208, t209] : List Int)) := ⟨_, rfl⟩
                  replace H : (if x3_1.length + y210.length < 140737488355328 then (spec_l1Piece.l0 kj9 a0 (x3_1 ++ y210) (wrap64 (x4_1 + 1))) else (none)) = some r := by first | (rw [hy210]; with_reducible exact H) | (have H2_ := (Option.bind_some _ _).symm.trans H; rw [hy210]; with_reducible exact H2_) | (have H2_ := (Option.bind_some _ _).symm.trans H; with_reducible exact H2_) | with_reducible exact H | (rw [hy210]; exact H) | exact H
                  have Ny210 := Aside0.mk hy210
                  clear hy210
                  by_cases c54 : x3_1.length + y210.length < 140737488355328
                  · rw [if_pos c54] at H
                    have LMc54 := Aside0.mk c54
                    clear c54
                    obtain ⟨y213, hy213⟩ : ∃ y_ : List Int, y_ = (x3_1 ++ y210) := ⟨_, rfl⟩
                    replace H : (spec_l1Piece.l0 kj9 a0 y213 (wrap64 (x4_1 + 1))) = some r := by first | (rw [hy213]; with_reducible exact H) | (have H2_ := (Option.bind_some _ _).symm.trans H; rw [hy213]; with_reducible exact H2_) | (have H2_ := (Option.bind_some _ _).symm.trans H; with_reducible exact H2_) | with_reducible exact H | (rw [hy213]; exact H) | exact H
                    have Ny213 := Aside0.mk hy213
                    clear hy213
                    have H' := Aside0.mk H
                    clear H
                    go_wp2_with (first | ((with_reducible refine gate_callee (f := 53) rfl ?_); refine goesL_ (some 20) rfl rfl Tryd.func53 (by kernel_rfl) rfl #[.int .i64 (wrap64 (Int.tdiv (wrap64 ((bt a0 x4_1))) 16))] rfl (by (try simp only [List.map_toArray, List.map_cons, List.map_nil]); first | done | rfl | (simp only [List.length_drop, List.length_take]; rfl)) ?_; (with_reducible refine (spec_l1Figure.calls (wrap64 (Int.tdiv (wrap64 ((bt a0 x4_1))) 16)) t208 _ A52.out).mono ?_); rintro e w' ⟨rfl, ⟨nd, rfl⟩⟩; refine ⟨_, rfl, ?_⟩) | ((with_reducible refine gate_callee (f := 53) rfl ?_); refine goesL_ (some 24) rfl rfl Tryd.func53 (by kernel_rfl) rfl #[.int .i64 (Int.tmod (wrap64 ((bt a0 x4_1))) 16)] rfl (by (try simp only [List.map_toArray, List.map_cons, List.map_nil]); first | done | rfl | (simp only [List.length_drop, List.length_take]; rfl)) ?_; (with_reducible refine (spec_l1Figure.calls (Int.tmod (wrap64 ((bt a0 x4_1))) 16) t209 _ A53.out).mono ?_); rintro e w' ⟨rfl, ⟨nd, rfl⟩⟩; refine ⟨_, rfl, ?_⟩) | ((with_reducible refine gate_dst (N := 25) rfl ?_); refine Kd.R_lit (Kd.int .u8) _ 5 ?hg (N := 25) ?hd (xs := ([37, t208, t209] : List Int)) (inner := [.int .u8 37, .int .u8 t208, .int .u8 t209]) (ok := fun _ => True) (okp := fun _ => True) ?hr ?hp (fun _ hk => hk) trivial (Below.refl _ _) (Nat.le_refl _) (by simp) ?_; (case hd => rfl); (case hg => rfl); (case hr => first | (go_simp; done) | (go_simp; rfl)); (case hp => exact (Reps.one (show Kd.M (Kd.int .u8) _ _ _ 37 [.int .u8 37] from rfl) (Reps.one (show Kd.M (Kd.int .u8) _ _ _ t208 [.int .u8 t208] from rfl) (Reps.one (show Kd.M (Kd.int .u8) _ _ _ t209 [.int .u8 t209] from rfl) (Reps.none _ _))))); intro v211 w55 ho56 hb hg_ hnew_; clear hg_ hnew_; (first | rw [← Ny210.out] at ho56 | (simp only [Int.reduceToNat] at ho56; rw [← Ny210.out] at ho56)); have n0_ := Aside0.mk (Kd.R_elder' (by (with_reducible repeat (first | apply Kd.R_alloc | apply Kd.R_drewN | apply Kd.R_drew)); exact HO_3.out) (Kd.R_base ho56) hb); have n1_ := Aside0.mk (Kd.R_lower (Kd.R_new' ho56 (Kd.R_lt (by (with_reducible repeat (first | apply Kd.R_alloc | apply Kd.R_drewN | apply Kd.R_drew)); exact HO_3.out))) (below_size (by repeat (first | (with_reducible first | exact HB.out | apply below_alloc | apply pw_below_drewN | apply below_drew1) | exact HB.out)))); have n2_ := Aside0.mk (below_step (by repeat (first | (with_reducible first | exact HB.out | apply below_alloc | apply pw_below_drewN | apply below_drew1) | exact HB.out)) hb); clear HO_3; clear HB; have HO_3 := n0_; have HO212 := n1_; have HB := n2_; clear n0_ n1_ n2_; clear hb ho56; obtain ⟨Ao58, co58, eo58⟩ := Kd.R_slice HO212.out; subst eo58) | ((with_reducible refine gate_builtin (b := .append) (xs := #[.tmp 16, .tmp 25]) rfl ?_); at_builtin; refine Kd.R_append_rows (Kd.int .u8) (w0 := w) w.heap.size rfl (.tmp 16) (.tmp 25) 22 5 (.int .u8 0) 1 rfl Tryd.underlying22 info5 rfl (by decide) (by omega) u3 x3_1 y210 _ _ _ (fun k_ => some k_ ≠ (.slice Ao58 y210.length co58 : Value).ownBlock) (fun _ => False) rfl rfl ?aO ?aR (fun _ _ h => h) (fun _ h => h.elim) ?aF ?aB ?aS ?aL ?_; (case aR => repeat (first | exact (Kd.R_reads' HO212.out).2.2 | (with_reducible refine Kd.C_alloc ?_ _) | (with_reducible refine Kd.C_drewN ?_ _) | (with_reducible refine Kd.C_drew ?_))); (case aB => exact (by repeat (first | (with_reducible first | exact HB.out | apply below_alloc | apply pw_below_drewN | apply below_drew1) | exact HB.out))); (case aF => exact (fun k_ hk => Kd.fresh' (Kd.R_lt (by (with_reducible repeat (first | apply Kd.R_alloc | apply Kd.R_drewN | apply Kd.R_drew)); exact HO212.out)) k_ hk)); (case aO => exact (by (with_reducible repeat (first | apply Kd.R_alloc | apply Kd.R_drewN | apply Kd.R_drew)); exact Kd.R_mono HO_3.out (fun _ hk => hk.2))); (case aS => exact (below_size (by repeat (first | (with_reducible first | exact HB.out | apply below_alloc | apply pw_below_drewN | apply below_drew1) | exact HB.out)))); (case aL => have := LMc54.out; omega); intro v214 w57 ho hb hg hat; rw [← Ny213.out] at ho; have n0_ := Aside0.mk (Kd.R_after (ok := (fun _ => True)) (by (with_reducible repeat (first | apply Kd.R_alloc | apply Kd.R_drewN | apply Kd.R_drew)); exact HO212.out) hg hat); have n1_ := Aside0.mk (hb); have n2_ := Aside0.mk (ho); clear HO212; clear HB; clear HO_3; have HO212 := n0_; have HB := n1_; have HO215 := n2_; clear n0_ n1_ n2_; clear ho hb hg hat))
                    go_roundg kj9
                    case measure => have := HK1.out; have := HJ9.out; omega
                    case rel => exact ⟨(y213), (wrap64 (x4_1 + 1)), (by first | rfl | (simp; done) | (simp [*]; done) | (simp [nen, een]; done)), H', ⟨by have := HK1.out; have := HJ9.out; omega⟩, ⟨by (with_reducible repeat (first | apply Kd.R_alloc | apply Kd.R_drewN | apply Kd.R_drew)); exact Kd.R_mono HO215.out (fun _ hk => trivial)⟩, ⟨by repeat (first | (with_reducible first | exact HB.out | apply below_alloc | apply pw_below_drewN | apply below_drew1) | exact HB.out)⟩⟩
                  · rw [if_neg c54] at H
                    exact absurd H (by simp)
        · rw [if_neg c5] at H
          exact absurd H (by simp)
      · rw [if_neg c4] at H
        have c4b0 : decide (x4_1 < (a0.size : Int)) = false := decide_eq_false c4
        clear c4
        obtain rfl := Option.some.inj H
        have hcv59 := own_string (P := Tryd.prog) Tryd.underlying22 Tryd.underlying5 Tryd.underlying9 (Kd.own_of_R HO_3.out)
        go_wp2
        go_ret
        exact ⟨by first | rfl | (simp [errW_none, errW_some] <;> rfl) | (simp [*, errW_none, errW_some] <;> rfl) | (simp [nen, een]; done), by repeat (first | (with_reducible first | exact HB.out | apply below_alloc | apply pw_below_drewN | apply below_drew1) | exact HB.out)⟩

end Go.Proofs.YtekeimhhffnjpaaDoor.PFnForm
