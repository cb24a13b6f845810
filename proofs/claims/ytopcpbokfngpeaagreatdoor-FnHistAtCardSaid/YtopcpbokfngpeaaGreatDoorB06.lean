/- Texts of this claim, joined: Lhx2, Lhx3, Lhx4, Lhx5, Lhx6. Conditions: each theorem's own. -/
import Derived.Test.YtopcpbokfngpeaaGreatDoorB05
import Derived.Test.YtopcpbokfngpeaaGreatDoorB04
import Derived.Test.YtopcpbokfngpeaaGreatDoorB02
set_option maxHeartbeats 8000000
set_option maxRecDepth 100000
namespace Go.Proofs.YtopcpbokfngpeaaGreatDoor.Lh
open Go.RowKit Go.Proofs.YtopcpbokfngpeaaGreatDoor.H Go.Proofs.YtopcpbokfngpeaaGreatDoorW.PrintWords Go.Proofs.YtopcpbokfngpeaaGreatDoorW.PrintLast Go.Proofs.YtopcpbokfngpeaaGreatDoorW.PrintMore Go.Proofs.YtopcpbokfngpeaaGreatDoor.Lp
attribute [local go_sem] max2_int min2_int max_two min_two max_three min_three max_four min_four   -- for this text's walks alone
set_option linter.unusedVariables false
set_option linter.unusedSimpArgs false
def spec_Lower.l0 : Nat → ByteArray → List Int → Int → Option (ByteArray)
 | 0, _, _, _ => none
 | k + 1, x0, x3, x4 => if x4 < (x0.size : Int) then (if 0 ≤ x4 then (if (bt x0 x4) ≥ 65 then (if (bt x0 x4) ≤ 90 then (if x3.length < 140737488355328 then (spec_Lower.l0 k x0 (x3 ++ [((bt x0 x4) + 32) % 256]) (wrap64 (x4 + 1))) else (none)) else (if x3.length < 140737488355328 then (spec_Lower.l0 k x0 (x3 ++ [bt x0 x4]) (wrap64 (x4 + 1))) else (none))) else (if x3.length < 140737488355328 then (spec_Lower.l0 k x0 (x3 ++ [bt x0 x4]) (wrap64 (x4 + 1))) else (none))) else (none)) else (some (strOfNums x3))
def spec_Lower.f (k : Nat) (a0 : ByteArray) : Option (ByteArray) := spec_Lower.l0 k a0 (([] : List Int)) 0
theorem spec_Lower.mono_l : ∀ k, (∀ y0 y1 y2, LeO (spec_Lower.l0 k y0 y1 y2) (spec_Lower.l0 (k + 1) y0 y1 y2))
 | 0 => fun _ _ _ => LeO.none _
 | k + 1 => by
  have ih0 := spec_Lower.mono_l k
  exact (fun _ _ _ => by unfold spec_Lower.l0; exact lq)
theorem spec_Lower.mono : ∀ a0 k, LeO (spec_Lower.f k a0) (spec_Lower.f (k + 1) a0) := by
 intro a0 k; have ih0 := spec_Lower.mono_l k; unfold spec_Lower.f; exact lq
theorem spec_Lower.calls (k : Nat) (a0 : ByteArray) (r : ByteArray) (w : World) (h : spec_Lower.f k a0 = some r) :
  Calls Tryz.prog 104 #[.string a0] w fun e w' => e = .returned (.string r) ∧ Below w.heap.size w w' := by
 have HB := Aside0.mk (Below.refl w.heap.size w); unfold spec_Lower.f at h; revert h; intro H; obtain ⟨y101, hy101⟩ : ∃ y_ : List Int, y_ = (([] : List Int)) := ⟨_, rfl⟩; replace H : (spec_Lower.l0 k a0 y101 0) = some r := by first | (rw [hy101]; with_reducible exact H) | (have H2_ := (Option.bind_some _ _).symm.trans H; rw [hy101]; with_reducible exact H2_) | (have H2_ := (Option.bind_some _ _).symm.trans H; with_reducible exact H2_) | with_reducible exact H | (rw [hy101]; exact H) | exact H
 have Ny101 := Aside0.mk hy101; clear hy101; have H' := Aside0.mk H; clear H; go_enter Tryz.func104, Tryz.ntmps104; go_wp2_with (first | ((with_reducible refine gate_dst (N := 6) rfl ?_); refine Kd.R_lit (Kd.int .u8) _ 5 ?hg (N := 6) ?hd (xs := ([] : List Int)) (inner := []) (ok := fun _ => True) (okp := fun _ => True) ?hr ?hp (fun _ hk => hk) trivial (Below.refl _ _) (Nat.le_refl _) (by simp) ?_; (case hd => rfl); (case hg => rfl); (case hr => first | (go_simp; done) | (go_simp; rfl)); (case hp => exact (Reps.none _ _)); intro v102 w2 ho3 hb hg_ hnew_; clear hg_ hnew_; (first | rw [← Ny101.out] at ho3 | (simp only [Int.reduceToNat] at ho3; rw [← Ny101.out] at ho3)); have HO103 := rlq (w := w) ho3; replace HB := Aside0.mk (below_step bq hb); clear hb ho3)); go_loopg [3, 4] k (fun kq v3 v4 w' => ∃ (x3_1 : List Int) (x4_1 : Int), v4 = .int .i64 x4_1 ∧ Aside0 (spec_Lower.l0 kq a0 x3_1 x4_1 = some r) ∧ Aside0 (kq ≤ k) ∧ Aside0 (Kd.R (Kd.int .u8) 5 w' w.heap.size (fun _ => True) v3 x3_1) ∧ Aside0 (Below w.heap.size w w')); case atStart => exact ⟨(y101), (0), vq, H', ⟨oq⟩, ⟨rq⟩, ⟨bq⟩⟩
 clear H'; obtain ⟨x3_1, x4_1, rfl, HA, HK1, HO_3, HB⟩ := hrel; cases gk with | zero => exact zq HA | succ k1 => ?_
 have H := HA.out; clear HA; simp only [spec_Lower.l0] at H; revert H; refine iDq (fun c4b0 => ?_) fun c4b0 => ?_
 ·refine iDnq fun c5b0 => ?_; refine iDq (fun c7b0 => ?_) fun c7b0 => ?_
  ·refine iDq (fun c8b0 => ?_) fun c8b0 => ?_
   ·intro H; by_cases c9 : x3_1.length < 140737488355328
    ·rw [if_pos c9] at H; have LMc9 := Aside0.mk c9; clear c9; obtain ⟨y104, hy104⟩ : ∃ y_ : List Int, y_ = (x3_1 ++ [((bt a0 x4_1) + 32) % 256]) := ⟨_, rfl⟩; replace H : (spec_Lower.l0 k1 a0 y104 (wrap64 (x4_1 + 1))) = some r := by first | (rw [hy104]; with_reducible exact H) | (have H2_ := (Option.bind_some _ _).symm.trans H; rw [hy104]; with_reducible exact H2_) | (have H2_ := (Option.bind_some _ _).symm.trans H; with_reducible exact H2_) | with_reducible exact H | (rw [hy104]; exact H) | exact H
     have Ny104 := Aside0.mk hy104; clear hy104; have H' := Aside0.mk H; clear H; obtain ⟨hx6, p6, q6⟩ := btq a0 x4_1; go_wp2_with (first | ((with_reducible refine gate_builtin (b := .append) (xs := #[.tmp 24, .tmp 26]) rfl ?_); at_builtin; refine Kd.R_append (Kd.int .u8) (w0 := w) w.heap.size rfl (.tmp 24) (.tmp 26) 22 5 (.int .u8 0) 1 rfl Tryz.underlying22 info5 rfl (by decide) (by omega) u3 x3_1 (((bt a0 x4_1) + 32) % 256) [.int .u8 (((bt a0 x4_1) + 32) % 256)] (fun _ => True) (fun _ => False) rfl rfl ?aP (fun _ hk => hk.elim) ?aF ?aO ?aB ?aS ?aL ?_; (case aP => exact rfl); (case aB => exact (bq)); (case aF => exact (fun _ _ => trivial)); (case aO => exact rq); (case aS => exact (below_size (bq))); (case aL => have := LMc9.out; omega); intro v105 w10 ho hb hg hat; rw [← Ny104.out] at ho; have HO106 := Aside0.mk (ho); replace HB := Aside0.mk (hb); clear HO_3; clear ho hb)); go_roundg k1; case measure => exact oq
     case rel => exact ⟨(y104), (wrap64 (x4_1 + 1)), vq, H', ⟨oq⟩, ⟨rq⟩, ⟨bq⟩⟩
    ·rw [if_neg c9] at H; exact absurd H (by simp)
   intro H; by_cases c11 : x3_1.length < 140737488355328
   ·rw [if_pos c11] at H; have LMc11 := Aside0.mk c11; clear c11; obtain ⟨y107, hy107⟩ : ∃ y_ : List Int, y_ = (x3_1 ++ [bt a0 x4_1]) := ⟨_, rfl⟩; replace H : (spec_Lower.l0 k1 a0 y107 (wrap64 (x4_1 + 1))) = some r := by first | (rw [hy107]; with_reducible exact H) | (have H2_ := (Option.bind_some _ _).symm.trans H; rw [hy107]; with_reducible exact H2_) | (have H2_ := (Option.bind_some _ _).symm.trans H; with_reducible exact H2_) | with_reducible exact H | (rw [hy107]; exact H) | exact H
    have Ny107 := Aside0.mk hy107; clear hy107; have H' := Aside0.mk H; clear H; obtain ⟨hx6, p6, q6⟩ := btq a0 x4_1; go_wp2_with (first | ((with_reducible refine gate_builtin (b := .append) (xs := #[.tmp 24, .tmp 26]) rfl ?_); at_builtin; refine Kd.R_append (Kd.int .u8) (w0 := w) w.heap.size rfl (.tmp 24) (.tmp 26) 22 5 (.int .u8 0) 1 rfl Tryz.underlying22 info5 rfl (by decide) (by omega) u3 x3_1 (bt a0 x4_1) [.int .u8 (bt a0 x4_1)] (fun _ => True) (fun _ => False) rfl rfl ?aP (fun _ hk => hk.elim) ?aF ?aO ?aB ?aS ?aL ?_; (case aP => exact rfl); (case aB => exact (bq)); (case aF => exact (fun _ _ => trivial)); (case aO => exact rq); (case aS => exact (below_size (bq))); (case aL => have := LMc11.out; omega); intro v108 w12 ho hb hg hat; rw [← Ny107.out] at ho; have HO109 := Aside0.mk (ho); replace HB := Aside0.mk (hb); clear HO_3; clear ho hb)); go_roundg k1; case measure => exact oq
    case rel => exact ⟨(y107), (wrap64 (x4_1 + 1)), vq, H', ⟨oq⟩, ⟨rq⟩, ⟨bq⟩⟩
   ·rw [if_neg c11] at H; exact absurd H (by simp)
  intro H; by_cases c13 : x3_1.length < 140737488355328
  ·rw [if_pos c13] at H; have LMc13 := Aside0.mk c13; clear c13; obtain ⟨y110, hy110⟩ : ∃ y_ : List Int, y_ = (x3_1 ++ [bt a0 x4_1]) := ⟨_, rfl⟩; replace H : (spec_Lower.l0 k1 a0 y110 (wrap64 (x4_1 + 1))) = some r := by first | (rw [hy110]; with_reducible exact H) | (have H2_ := (Option.bind_some _ _).symm.trans H; rw [hy110]; with_reducible exact H2_) | (have H2_ := (Option.bind_some _ _).symm.trans H; with_reducible exact H2_) | with_reducible exact H | (rw [hy110]; exact H) | exact H
   have Ny110 := Aside0.mk hy110; clear hy110; have H' := Aside0.mk H; clear H; obtain ⟨hx6, p6, q6⟩ := btq a0 x4_1; go_wp2_with (first | ((with_reducible refine gate_builtin (b := .append) (xs := #[.tmp 24, .tmp 26]) rfl ?_); at_builtin; refine Kd.R_append (Kd.int .u8) (w0 := w) w.heap.size rfl (.tmp 24) (.tmp 26) 22 5 (.int .u8 0) 1 rfl Tryz.underlying22 info5 rfl (by decide) (by omega) u3 x3_1 (bt a0 x4_1) [.int .u8 (bt a0 x4_1)] (fun _ => True) (fun _ => False) rfl rfl ?aP (fun _ hk => hk.elim) ?aF ?aO ?aB ?aS ?aL ?_; (case aP => exact rfl); (case aB => exact (bq)); (case aF => exact (fun _ _ => trivial)); (case aO => exact rq); (case aS => exact (below_size (bq))); (case aL => have := LMc13.out; omega); intro v111 w14 ho hb hg hat; rw [← Ny110.out] at ho; have HO112 := Aside0.mk (ho); replace HB := Aside0.mk (hb); clear HO_3; clear ho hb)); go_roundg k1; case measure => exact oq
   case rel => exact ⟨(y110), (wrap64 (x4_1 + 1)), vq, H', ⟨oq⟩, ⟨rq⟩, ⟨bq⟩⟩
  ·rw [if_neg c13] at H; exact absurd H (by simp)
 refine siq ?_; rintro rfl; have hcv15 := own_string (P := Tryz.prog) Tryz.underlying22 Tryz.underlying5 Tryz.underlying9 (Kd.own_of_R HO_3.out); go_wp2; go_ret; exact ⟨vq, bq⟩
def spec_l1Set.f (a0 : Int) : Option (ByteArray) := if a0 = 1 then (some (⟨#[32, 34, 35, 60, 62, 63, 96, 123, 125]⟩ : ByteArray)) else (if a0 = 2 then (some (⟨#[32, 34, 35, 60, 62, 39]⟩ : ByteArray)) else (if a0 = 3 then (some (⟨#[32, 34, 60, 62, 96]⟩ : ByteArray)) else (if a0 = 5 then (some (⟨#[32]⟩ : ByteArray)) else (if a0 = 4 then (some (⟨#[32, 34, 35, 60, 62, 63, 96, 123, 125, 47, 58, 59, 61, 64, 91, 92, 93, 94, 124]⟩ : ByteArray)) else (some (⟨#[]⟩ : ByteArray))))))
theorem spec_l1Set.calls (a0 : Int) (r : ByteArray) (w : World) (h : spec_l1Set.f a0 = some r) :
  Calls Tryz.prog 136 #[.int .i64 a0] w fun e w' => e = .returned (.string r) ∧ Drawn0 w w' := by
 unfold spec_l1Set.f at h; revert h; refine iEq (fun c2b0 c2b1 => ?_) fun c2 c2b0 c2b1 => ?_
 ·refine siq ?_; rintro rfl; go_enter Tryz.func136, Tryz.ntmps136; go_wp2; go_ret; exact ⟨vq, dq⟩
 refine iEq (fun c3b0 c3b1 => ?_) fun c3 c3b0 c3b1 => ?_
 ·refine siq ?_; rintro rfl; go_enter Tryz.func136, Tryz.ntmps136; go_wp2; go_ret; exact ⟨vq, dq⟩
 refine iEq (fun c4b0 c4b1 => ?_) fun c4 c4b0 c4b1 => ?_
 ·refine siq ?_; rintro rfl; go_enter Tryz.func136, Tryz.ntmps136; go_wp2; go_ret; exact ⟨vq, dq⟩
 refine iEq (fun c5b0 c5b1 => ?_) fun c5 c5b0 c5b1 => ?_
 ·refine siq ?_; rintro rfl; go_enter Tryz.func136, Tryz.ntmps136; go_wp2; go_ret; exact ⟨vq, dq⟩
 refine iEq (fun c6b0 c6b1 => ?_) fun c6 c6b0 c6b1 => ?_
 ·refine siq ?_; rintro rfl; go_enter Tryz.func136, Tryz.ntmps136; go_wp2; go_ret; exact ⟨vq, dq⟩
 refine siq ?_; rintro rfl; go_enter Tryz.func136, Tryz.ntmps136; go_wp2; go_ret; exact ⟨vq, dq⟩
def spec_l1Has.l0 : Nat → ByteArray → Int → Int → Option (Bool)
 | 0, _, _, _ => none
 | k + 1, x0, x1, x5 => if x5 < (x0.size : Int) then (if 0 ≤ x5 then (if (bt x0 x5) = x1 then (some true) else (spec_l1Has.l0 k x0 x1 (wrap64 (x5 + 1)))) else (none)) else (some false)
def spec_l1Has.f (k : Nat) (a0 : ByteArray) (a1 : Int) : Option (Bool) := spec_l1Has.l0 k a0 a1 0
theorem spec_l1Has.mono_l : ∀ k, (∀ y0 y1 y2, LeO (spec_l1Has.l0 k y0 y1 y2) (spec_l1Has.l0 (k + 1) y0 y1 y2))
 | 0 => fun _ _ _ => LeO.none _
 | k + 1 => by
  have ih0 := spec_l1Has.mono_l k
  exact (fun _ _ _ => by unfold spec_l1Has.l0; exact lq)
theorem spec_l1Has.mono : ∀ a0 a1 k, LeO (spec_l1Has.f k a0 a1) (spec_l1Has.f (k + 1) a0 a1) := by
 intro a0 a1 k; have ih0 := spec_l1Has.mono_l k; unfold spec_l1Has.f; exact lq
theorem spec_l1Has.calls (k : Nat) (a0 : ByteArray) (a1 : Int) (r : Bool) (w : World) (h : spec_l1Has.f k a0 a1 = some r) :
  Calls Tryz.prog 137 #[.string a0, .int .u8 a1] w fun e w' => e = .returned (.bool r) ∧ Drawn0 w w' := by
 unfold spec_l1Has.f at h; revert h; refine ahq fun H' => ?_; go_enter Tryz.func137, Tryz.ntmps137; go_wp2; go_loopg [5] k (fun kq v5 w' => ∃ (x5_1 : Int), v5 = .int .i64 x5_1 ∧ Aside0 (spec_l1Has.l0 kq a0 a1 x5_1 = some r) ∧ Aside0 (kq ≤ k) ∧ Drawn0 w w'); case atStart => exact ⟨(0), vq, H', ⟨oq⟩, dq⟩
 clear H'; obtain ⟨x5_1, rfl, HA, HK1, ⟨m1, rfl⟩⟩ := hrel; cases gk with | zero => exact zq HA | succ k1 => ?_
 have H := HA.out; clear HA; simp only [spec_l1Has.l0] at H; revert H; refine iDq (fun c3b0 => ?_) fun c3b0 => ?_
 ·refine iDnq fun c4b0 => ?_; refine iEq (fun c6b0 c6b1 => ?_) fun c6 c6b0 c6b1 => ?_
  ·refine siq ?_; rintro rfl; obtain ⟨hx5, p5, q5⟩ := btq a0 x5_1; go_wp2; go_ret; exact ⟨vq, dq⟩
  refine ahq fun H' => ?_; obtain ⟨hx5, p5, q5⟩ := btq a0 x5_1; go_wp2; go_roundg k1; case measure => exact oq
  case rel => exact ⟨(wrap64 (x5_1 + 1)), vq, H', ⟨oq⟩, dq⟩
 refine siq ?_; rintro rfl; go_wp2; go_ret; exact ⟨vq, dq⟩
def spec_l1Figure.f (a0 : Int) : Option (Int) := if 0 ≤ a0 then (if a0 < 16 then (some (bt (⟨#[48, 49, 50, 51, 52, 53, 54, 55, 56, 57, 65, 66, 67, 68, 69, 70]⟩ : ByteArray) a0)) else (none)) else (none)
theorem spec_l1Figure.calls (a0 : Int) (r : Int) (w : World) (h : spec_l1Figure.f a0 = some r) :
  Calls Tryz.prog 138 #[.int .i64 a0] w fun e w' => e = .returned (.int .u8 r) ∧ Drawn0 w w' := by
 unfold spec_l1Figure.f at h; revert h; refine iDnq fun c2b0 => ?_; refine iDnq fun c3b0 => ?_; refine siq ?_; rintro rfl; have p4 : 0 ≤ (a0 : Int) := of_decide_eq_true (by assumption); have q4 : a0 < (16 : Int) := of_decide_eq_true (by assumption); have hx4 := bt_at (⟨#[48, 49, 50, 51, 52, 53, 54, 55, 56, 57, 65, 66, 67, 68, 69, 70]⟩ : ByteArray) a0; replace p4 := eq_true p4; replace q4 := eq_true q4; go_enter Tryz.func138, Tryz.ntmps138; go_wp2; go_ret; exact ⟨vq, dq⟩
mutual
def spec_Encode.l0 : Nat → ByteArray → List Int → ByteArray → Int → Option (ByteArray)
 | 0, _, _, _, _ => none
 | k + 1, x1, x5, x6, x7 => if x7 < (x1.size : Int) then (spec_Encode.j1 k x1 x5 x6 x7 (decide ((x1.size : Int) ≤ 200))) else (spec_Encode.j1 k x1 x5 x6 x7 false)
def spec_Encode.j1 : Nat → ByteArray → List Int → ByteArray → Int → Bool → Option (ByteArray)
 | 0, _, _, _, _, _ => none
 | k + 1, x1, x5, x6, x7, x20 => if x20 = true then (if 0 ≤ x7 then (if x7 < (x1.size : Int) then (if (bt x1 x7) < 32 then (spec_Encode.j2 k x1 x5 x6 x7 (bt x1 x7) true) else (if (bt x1 x7) > 126 then (spec_Encode.j2 k x1 x5 x6 x7 (bt x1 x7) true) else ((spec_l1Has.f k x6 (bt x1 x7)).bind fun t117 => (spec_Encode.j2 k x1 x5 x6 x7 (bt x1 x7) t117)))) else (none)) else (none)) else (some (strOfNums x5))
def spec_Encode.j2 : Nat → ByteArray → List Int → ByteArray → Int → Int → Bool → Option (ByteArray)
 | 0, _, _, _, _, _, _ => none
 | k + 1, x1, x5, x6, x7, x8, x36 => if x36 = true then ((spec_l1Figure.f (wrap64 (Int.tdiv (wrap64 (x8)) 16))).bind fun t118 => ((spec_l1Figure.f (Int.tmod (wrap64 (x8)) 16)).bind fun t119 => ((some (([37, t118, t119] : List Int) : List Int)).bind fun y120 => (if x5.length + y120.length < 140737488355328 then (spec_Encode.l0 k x1 (x5 ++ y120) x6 (wrap64 (x7 + 1))) else (none))))) else (if x5.length < 140737488355328 then (spec_Encode.l0 k x1 (x5 ++ [x8]) x6 (wrap64 (x7 + 1))) else (none))
end
def spec_Encode.f (k : Nat) (a0 : Int) (a1 : ByteArray) : Option (ByteArray) := (spec_l1Set.f a0).bind fun t116 => (spec_Encode.l0 k a1 (([] : List Int)) t116 0)
theorem spec_Encode.mono_l : ∀ k, (∀ y0 y1 y2 y3, LeO (spec_Encode.l0 k y0 y1 y2 y3) (spec_Encode.l0 (k + 1) y0 y1 y2 y3)) ∧ (∀ y0 y1 y2 y3 y4, LeO (spec_Encode.j1 k y0 y1 y2 y3 y4) (spec_Encode.j1 (k + 1) y0 y1 y2 y3 y4)) ∧ (∀ y0 y1 y2 y3 y4 y5, LeO (spec_Encode.j2 k y0 y1 y2 y3 y4 y5) (spec_Encode.j2 (k + 1) y0 y1 y2 y3 y4 y5))
 | 0 => ⟨fun _ _ _ _ => LeO.none _, fun _ _ _ _ _ => LeO.none _, fun _ _ _ _ _ _ => LeO.none _⟩
 | k + 1 => by
  obtain ⟨ih0, ih1, ih2⟩ := spec_Encode.mono_l k
  have m0 := @spec_l1Has.mono
  exact ⟨fun _ _ _ _ => by unfold spec_Encode.l0; exact lq, fun _ _ _ _ _ => by unfold spec_Encode.j1; exact lq, fun _ _ _ _ _ _ => by unfold spec_Encode.j2; exact lq⟩
theorem spec_Encode.mono : ∀ a0 a1 k, LeO (spec_Encode.f k a0 a1) (spec_Encode.f (k + 1) a0 a1) := by
 intro a0 a1 k; obtain ⟨ih0, ih1, ih2⟩ := spec_Encode.mono_l k; have m0 := @spec_l1Has.mono; unfold spec_Encode.f; exact lq
theorem spec_Encode.calls (k : Nat) (a0 : Int) (a1 : ByteArray) (r : ByteArray) (w : World) (h : spec_Encode.f k a0 a1 = some r) :
  Calls Tryz.prog 106 #[.int .i64 a0, .string a1] w fun e w' => e = .returned (.string r) ∧ Below w.heap.size w w' := by
 have HB := Aside0.mk (Below.refl w.heap.size w); unfold spec_Encode.f at h; revert h; intro H; obtain ⟨y113, hy113⟩ : ∃ y_ : List Int, y_ = (([] : List Int)) := ⟨_, rfl⟩; replace H : ((spec_l1Set.f a0).bind fun t116 => (spec_Encode.l0 k a1 y113 t116 0)) = some r := by first | (rw [hy113]; with_reducible exact H) | (have H2_ := (Option.bind_some _ _).symm.trans H; rw [hy113]; with_reducible exact H2_) | (have H2_ := (Option.bind_some _ _).symm.trans H; with_reducible exact H2_) | with_reducible exact H | (rw [hy113]; exact H) | exact H
 have Ny113 := Aside0.mk hy113; clear hy113; revert H; refine bnq fun t116 A3 => ?_; refine ahq fun H' => ?_; go_enter Tryz.func106, Tryz.ntmps106; go_wp2_with (first | ((with_reducible refine gate_dst (N := 9) rfl ?_); (try (refine gate_guard (by rfl) ?_; dsimp only)); refine Kd.R_lit (Kd.int .u8) _ 5 ?hg (N := 9) ?hd (xs := ([] : List Int)) (inner := []) (ok := fun _ => True) (okp := fun _ => True) ?hr ?hp (fun _ hk => hk) trivial (Below.refl _ _) (Nat.le_refl _) (by simp) ?_; (case hd => rfl); (case hg => rfl); (case hr => first | (go_simp; done) | (go_simp; rfl)); (case hp => exact (Reps.none _ _)); intro v114 w4 ho5 hb hg_ hnew_; clear hg_ hnew_; (first | rw [← Ny113.out] at ho5 | (simp only [Int.reduceToNat] at ho5; rw [← Ny113.out] at ho5)); have HO115 := rlq (w := w) ho5; replace HB := Aside0.mk (below_step bq hb); clear hb ho5) | (refine gcq (some 11) rfl Tryz.func136 (spec_l1Set.calls a0 t116 _ A3.out) ?_; rintro _ w' ⟨rfl, ⟨nd, rfl⟩⟩; refine ⟨_, rfl, ?_⟩)); go_loopg [5, 7] k (fun kq v5 v7 w' => ∃ (x5_1 : List Int) (x7_1 : Int), v7 = .int .i64 x7_1 ∧ Aside0 (spec_Encode.l0 kq a1 x5_1 t116 x7_1 = some r) ∧ Aside0 (kq ≤ k) ∧ Aside0 (Kd.R (Kd.int .u8) 5 w' w.heap.size (fun _ => True) v5 x5_1) ∧ Aside0 (Below w.heap.size w w')); case atStart => exact ⟨(y113), (0), vq, H', ⟨oq⟩, ⟨rq⟩, ⟨bq⟩⟩
 clear H'; obtain ⟨x5_1, x7_1, rfl, HA, HK1, HO_5, HB⟩ := hrel; cases gk with | zero => exact zq HA | succ k1 => ?_
 have H := HA.out; clear HA; simp only [spec_Encode.l0] at H; have HC6 := Aside0.mk H; clear H; go_upto_region 4 with (fail); go_cut [20] (fun v20 wc => ∃ (kq : Nat) (x20_5 : Bool), v20 = .bool x20_5 ∧ Aside0 (spec_Encode.j1 kq a1 x5_1 t116 x7_1 x20_5 = some r) ∧ Aside0 (kq ≤ k1) ∧ Aside0 (Kd.R (Kd.int .u8) 5 wc w.heap.size (fun _ => True) u5 x5_1) ∧ Aside0 (Below w.heap.size w wc)); case first =>
  have H := HC6.out; clear HC6; revert H; refine iDq (fun c7b0 => ?_) fun c7b0 => ?_
  ·intro H; (first | rw [c7b0] | (simp only [i64_w, i32_w]; rw [c7b0]) | skip); have H' := Aside0.mk H; clear H; go_wp2; go_meet; case rel => exact ⟨_, (decide ((a1.size : Int) ≤ 200)), vq, H', ⟨oq⟩, ⟨rq⟩, ⟨bq⟩⟩
  intro H; (first | rw [c7b0] | (simp only [i64_w, i32_w]; rw [c7b0]) | skip); have H' := Aside0.mk H; clear H; go_wp2; go_meet; case rel => exact ⟨_, (false), vq, H', ⟨oq⟩, ⟨rq⟩, ⟨bq⟩⟩
 clear HC6; obtain ⟨kq, x20_5, rfl, HA, HJ5, HO_5, HB⟩ := hcut; cases kq with | zero => exact zq HA | succ kj5 => ?_
 have H := HA.out; clear HA; simp only [spec_Encode.j1] at H; revert H; cases x20_5
 ·refine bFq ?_; refine siq ?_; rintro rfl; have hcv26 := own_string (P := Tryz.prog) Tryz.underlying22 Tryz.underlying5 Tryz.underlying9 (Kd.own_of_R HO_5.out); go_wp2; go_ret; exact ⟨vq, bq⟩
 refine bTq ?_; refine iDnq fun c9b0 => ?_; refine iDnq fun c10b0 => ?_; refine ahq fun HC12 => ?_; obtain ⟨hx11, p11, q11⟩ := btq a1 x7_1; go_upto_region 7 with (fail); go_cut [36] (fun v36 wc => ∃ (kq : Nat) (x36_11 : Bool), v36 = .bool x36_11 ∧ Aside0 (spec_Encode.j2 kq a1 x5_1 t116 x7_1 (bt a1 x7_1) x36_11 = some r) ∧ Aside0 (kq ≤ kj5) ∧ Aside0 (Kd.R (Kd.int .u8) 5 wc w.heap.size (fun _ => True) u5 x5_1) ∧ Aside0 (Below w.heap.size w wc)); case first =>
  have H := HC12.out; clear HC12; revert H; refine iDq (fun c13b0 => ?_) fun c13b0 => ?_
  ·intro H; (first | rw [c13b0] | (simp only [i64_w, i32_w]; rw [c13b0]) | skip); have H' := Aside0.mk H; clear H; go_wp2; go_meet; case rel => exact ⟨_, (true), vq, H', ⟨oq⟩, ⟨rq⟩, ⟨bq⟩⟩
  intro H; (first | rw [c13b0] | (simp only [i64_w, i32_w]; rw [c13b0]) | skip); revert H; refine iDq (fun c14b0 => ?_) fun c14b0 => ?_
  ·refine ahq fun H' => ?_; go_wp2; go_meet; case rel => exact ⟨_, (true), vq, H', ⟨oq⟩, ⟨rq⟩, ⟨bq⟩⟩
  refine bnq fun t117 A15 => ?_; refine ahq fun H' => ?_; go_wp2_with (first | (go_at_call 137; (with_reducible refine (spec_l1Has.calls kj5 t116 (bt a1 x7_1) t117 _ A15.out).mono ?_); rintro e w' ⟨rfl, ⟨nd, rfl⟩⟩)); go_meet; case rel => exact ⟨_, (t117), vq, H', ⟨oq⟩, ⟨rq⟩, ⟨bq⟩⟩
 clear HC12; obtain ⟨kq, x36_11, rfl, HA, HJ11, HO_5, HB⟩ := hcut; cases kq with | zero => exact zq HA | succ kj11 => ?_
 have H := HA.out; clear HA; simp only [spec_Encode.j2] at H; revert H; cases x36_11
 ·refine bFq ?_; intro H; by_cases c24 : x5_1.length < 140737488355328
  ·rw [if_pos c24] at H; have LMc24 := Aside0.mk c24; clear c24; obtain ⟨y126, hy126⟩ : ∃ y_ : List Int, y_ = (x5_1 ++ [(bt a1 x7_1)]) := ⟨_, rfl⟩; replace H : (spec_Encode.l0 kj11 a1 y126 t116 (wrap64 (x7_1 + 1))) = some r := by first | (rw [hy126]; with_reducible exact H) | (have H2_ := (Option.bind_some _ _).symm.trans H; rw [hy126]; with_reducible exact H2_) | (have H2_ := (Option.bind_some _ _).symm.trans H; with_reducible exact H2_) | with_reducible exact H | (rw [hy126]; exact H) | exact H
   have Ny126 := Aside0.mk hy126; clear hy126; have H' := Aside0.mk H; clear H; go_wp2_with (first | ((with_reducible refine gate_builtin (b := .append) (xs := #[.tmp 48, .tmp 50]) rfl ?_); (try (refine gate_guard (by rfl) ?_; dsimp only)); at_builtin; refine Kd.R_append (Kd.int .u8) (w0 := w) w.heap.size rfl (.tmp 48) (.tmp 50) 22 5 (.int .u8 0) 1 rfl Tryz.underlying22 info5 rfl (by decide) (by omega) u5 x5_1 (bt a1 x7_1) [.int .u8 (bt a1 x7_1)] (fun _ => True) (fun _ => False) rfl rfl ?aP (fun _ hk => hk.elim) ?aF ?aO ?aB ?aS ?aL ?_; (case aP => exact rfl); (case aB => exact (bq)); (case aF => exact (fun _ _ => trivial)); (case aO => exact rq); (case aS => exact (below_size (bq))); (case aL => have := LMc24.out; omega); intro v127 w25 ho hb hg hat; rw [← Ny126.out] at ho; have HO128 := Aside0.mk (ho); replace HB := Aside0.mk (hb); clear HO_5; clear ho hb)); go_roundg kj11; case measure => exact oq
   case rel => exact ⟨(y126), (wrap64 (x7_1 + 1)), vq, H', ⟨oq⟩, ⟨rq⟩, ⟨bq⟩⟩
  ·rw [if_neg c24] at H; exact absurd H (by simp)
 refine bTq ?_; refine bnq fun t118 A17 => ?_; refine bnq fun t119 A18 => ?_; intro H; obtain ⟨y120, hy120⟩ : ∃ y_ : List Int, y_ = (([37, t118, t119] : List Int)) := ⟨_, rfl⟩; replace H : (if x5_1.length + y120.length < 140737488355328 then (spec_Encode.l0 kj11 a1 (x5_1 ++ y120) t116 (wrap64 (x7_1 + 1))) else (none)) = some r := by first | (rw [hy120]; with_reducible exact H) | (have H2_ := (Option.bind_some _ _).symm.trans H; rw [hy120]; with_reducible exact H2_) | (have H2_ := (Option.bind_some _ _).symm.trans H; with_reducible exact H2_) | with_reducible exact H | (rw [hy120]; exact H) | exact H
 have Ny120 := Aside0.mk hy120; clear hy120; by_cases c19 : x5_1.length + y120.length < 140737488355328
 ·rw [if_pos c19] at H; have LMc19 := Aside0.mk c19; clear c19; obtain ⟨y123, hy123⟩ : ∃ y_ : List Int, y_ = (x5_1 ++ y120) := ⟨_, rfl⟩; replace H : (spec_Encode.l0 kj11 a1 y123 t116 (wrap64 (x7_1 + 1))) = some r := by first | (rw [hy123]; with_reducible exact H) | (have H2_ := (Option.bind_some _ _).symm.trans H; rw [hy123]; with_reducible exact H2_) | (have H2_ := (Option.bind_some _ _).symm.trans H; with_reducible exact H2_) | with_reducible exact H | (rw [hy123]; exact H) | exact H
  have Ny123 := Aside0.mk hy123; clear hy123; have H' := Aside0.mk H; clear H; go_wp2_with (first | (refine gcq (some 41) rfl Tryz.func138 (spec_l1Figure.calls (wrap64 (Int.tdiv (wrap64 ((bt a1 x7_1))) 16)) t118 _ A17.out) ?_; rintro _ w' ⟨rfl, ⟨nd, rfl⟩⟩; refine ⟨_, rfl, ?_⟩) | (refine gcq (some 45) rfl Tryz.func138 (spec_l1Figure.calls (Int.tmod (wrap64 ((bt a1 x7_1))) 16) t119 _ A18.out) ?_; rintro _ w' ⟨rfl, ⟨nd, rfl⟩⟩; refine ⟨_, rfl, ?_⟩) | ((with_reducible refine gate_dst (N := 46) rfl ?_); (try (refine gate_guard (by rfl) ?_; dsimp only)); refine Kd.R_lit (Kd.int .u8) _ 5 ?hg (N := 46) ?hd (xs := ([37, t118, t119] : List Int)) (inner := [.int .u8 37, .int .u8 t118, .int .u8 t119]) (ok := fun _ => True) (okp := fun _ => True) ?hr ?hp (fun _ hk => hk) trivial (Below.refl _ _) (Nat.le_refl _) (by simp) ?_; (case hd => rfl); (case hg => rfl); (case hr => first | (go_simp; done) | (go_simp; rfl)); (case hp => exact (Reps.one (show Kd.M (Kd.int .u8) _ _ _ 37 [.int .u8 37] from rfl) (Reps.one (show Kd.M (Kd.int .u8) _ _ _ t118 [.int .u8 t118] from rfl) (Reps.one (show Kd.M (Kd.int .u8) _ _ _ t119 [.int .u8 t119] from rfl) (Reps.none _ _))))); intro v121 w20 ho21 hb hg_ hnew_; clear hg_ hnew_; (first | rw [← Ny120.out] at ho21 | (simp only [Int.reduceToNat] at ho21; rw [← Ny120.out] at ho21)); have n0_ := Aside0.mk (Kd.R_elder' rq (Kd.R_base ho21) hb); have n1_ := Aside0.mk (Kd.R_lower (Kd.R_new' ho21 (Kd.R_lt rq)) (below_size (bq))); have n2_ := Aside0.mk (below_step (bq) hb); clear HO_5; clear HB; have HO_5 := n0_; have HO122 := n1_; have HB := n2_; clear n0_ n1_ n2_; clear hb ho21; obtain ⟨Ao23, co23, rfl⟩ := Kd.R_slice HO122.out) | ((with_reducible refine gate_builtin (b := .append) (xs := #[.tmp 37, .tmp 46]) rfl ?_); (try (refine gate_guard (by rfl) ?_; dsimp only)); at_builtin; refine Kd.R_append_rows (Kd.int .u8) (w0 := w) w.heap.size rfl (.tmp 37) (.tmp 46) 22 5 (.int .u8 0) 1 rfl Tryz.underlying22 info5 rfl (by decide) (by omega) u5 x5_1 y120 _ _ _ (fun k_ => some k_ ≠ (.slice Ao23 y120.length co23 : Value).ownBlock) (fun _ => False) rfl rfl ?aO ?aR (fun _ _ h => h) (fun _ h => h.elim) ?aF ?aB ?aS ?aL ?_; (case aR => repeat (first | exact (Kd.R_reads' HO122.out).2.2 | (with_reducible refine Kd.C_alloc ?_ _) | (with_reducible refine Kd.C_drewN ?_ _) | (with_reducible refine Kd.C_drew ?_))); (case aB => exact (bq)); (case aF => exact (fun k_ hk => Kd.fresh' (Kd.R_lt rq) k_ hk)); (case aO => exact (by (with_reducible repeat (first | apply Kd.R_alloc | apply Kd.R_drewN | apply Kd.R_drew)); exact Kd.R_mono HO_5.out (fun _ hk => hk.2))); (case aS => exact (below_size (bq))); (case aL => have := LMc19.out; omega); intro v124 w22 ho hb hg hat; rw [← Ny123.out] at ho; replace HO122 := Aside0.mk (Kd.R_after (ok := (fun _ => True)) rq hg hat); have HO125 := Aside0.mk (ho); replace HB := Aside0.mk (hb); clear HO_5; clear ho hb hg hat)); go_roundg kj11; case measure => exact oq
  case rel => exact ⟨(y123), (wrap64 (x7_1 + 1)), vq, H', ⟨oq⟩, ⟨by (with_reducible repeat (first | apply Kd.R_alloc | apply Kd.R_drewN | apply Kd.R_drew)); exact Kd.R_mono HO125.out (fun _ hk => trivial)⟩, ⟨bq⟩⟩
 ·rw [if_neg c19] at H; exact absurd H (by simp)
def spec_l1In.f (a0 : Int) (a1 : Int) (a2 : Int) : Option (Bool) := if a0 ≥ a1 then (some (decide (a0 ≤ a2))) else (some false)
theorem spec_l1In.calls (a0 : Int) (a1 : Int) (a2 : Int) (r : Bool) (w : World) (h : spec_l1In.f a0 a1 a2 = some r) :
  Calls Tryz.prog 56 #[.int .i64 a0, .int .i64 a1, .int .i64 a2] w fun e w' => e = .returned (.bool r) ∧ Drawn0 w w' := by
 unfold spec_l1In.f at h; revert h; refine iDq (fun c4b0 => ?_) fun c4b0 => ?_
 ·refine siq ?_; rintro rfl; go_enter Tryz.func56, Tryz.ntmps56; go_wp2; go_ret; exact ⟨vq, dq⟩
 refine siq ?_; rintro rfl; go_enter Tryz.func56, Tryz.ntmps56; go_wp2; go_ret; exact ⟨vq, dq⟩
end Go.Proofs.YtopcpbokfngpeaaGreatDoor.Lh
set_option maxHeartbeats 8000000
set_option maxRecDepth 100000
namespace Go.Proofs.YtopcpbokfngpeaaGreatDoor.Lh
open Go.RowKit Go.Proofs.YtopcpbokfngpeaaGreatDoor.H Go.Proofs.YtopcpbokfngpeaaGreatDoorW.PrintWords Go.Proofs.YtopcpbokfngpeaaGreatDoorW.PrintLast Go.Proofs.YtopcpbokfngpeaaGreatDoorW.PrintMore Go.Proofs.YtopcpbokfngpeaaGreatDoor.Lp
attribute [local go_sem] max2_int min2_int max_two min_two max_three min_three max_four min_four   -- for this text's walks alone
set_option linter.unusedVariables false
set_option linter.unusedSimpArgs false
mutual
def spec_l2Name.l0 : Nat → ByteArray → List ByteArray → Int → Option (Bool)
 | 0, _, _, _ => none
 | k + 1, x0, x3, x4 => if x4 < (x3.length : Int) then (if 0 ≤ x4 then (if (rdOf ByteArray.empty x3 x4).toList = ([] : List UInt8) then (if x4 < (wrap64 ((x3.length : Int) - 1)) then (spec_l2Name.j1 k x0 x3 x4 true) else (spec_l2Name.j1 k x0 x3 x4 (x4 == 0))) else (spec_l2Name.j1 k x0 x3 x4 false)) else (none)) else ((spec_l1In.f (x0.size : Int) 1 60).bind fun t141 => (some t141))
def spec_l2Name.j1 : Nat → ByteArray → List ByteArray → Int → Bool → Option (Bool)
 | 0, _, _, _, _ => none
 | k + 1, x0, x3, x4, x30 => if x30 = true then (some false) else (spec_l2Name.l1 k x0 x3 x4 0)
def spec_l2Name.l1 : Nat → ByteArray → List ByteArray → Int → Int → Option (Bool)
 | 0, _, _, _, _ => none
 | k + 1, x0, x3, x4, x5 => if 0 ≤ x4 then (if x4 < (x3.length : Int) then (if x5 < ((rdOf ByteArray.empty x3 x4).size : Int) then (if 0 ≤ x5 then (if (bt (rdOf ByteArray.empty x3 x4) x5) < 97 then (if (bt (rdOf ByteArray.empty x3 x4) x5) < 48 then (if (bt (rdOf ByteArray.empty x3 x4) x5) = 45 then (spec_l2Name.l1 k x0 x3 x4 (wrap64 (x5 + 1))) else (if (bt (rdOf ByteArray.empty x3 x4) x5) = 95 then (spec_l2Name.l1 k x0 x3 x4 (wrap64 (x5 + 1))) else (some false))) else (if (bt (rdOf ByteArray.empty x3 x4) x5) > 57 then (if (bt (rdOf ByteArray.empty x3 x4) x5) = 45 then (spec_l2Name.l1 k x0 x3 x4 (wrap64 (x5 + 1))) else (if (bt (rdOf ByteArray.empty x3 x4) x5) = 95 then (spec_l2Name.l1 k x0 x3 x4 (wrap64 (x5 + 1))) else (some false))) else (spec_l2Name.l1 k x0 x3 x4 (wrap64 (x5 + 1))))) else (if (bt (rdOf ByteArray.empty x3 x4) x5) > 122 then (if (bt (rdOf ByteArray.empty x3 x4) x5) < 48 then (if (bt (rdOf ByteArray.empty x3 x4) x5) = 45 then (spec_l2Name.l1 k x0 x3 x4 (wrap64 (x5 + 1))) else (if (bt (rdOf ByteArray.empty x3 x4) x5) = 95 then (spec_l2Name.l1 k x0 x3 x4 (wrap64 (x5 + 1))) else (some false))) else (if (bt (rdOf ByteArray.empty x3 x4) x5) > 57 then (if (bt (rdOf ByteArray.empty x3 x4) x5) = 45 then (spec_l2Name.l1 k x0 x3 x4 (wrap64 (x5 + 1))) else (if (bt (rdOf ByteArray.empty x3 x4) x5) = 95 then (spec_l2Name.l1 k x0 x3 x4 (wrap64 (x5 + 1))) else (some false))) else (spec_l2Name.l1 k x0 x3 x4 (wrap64 (x5 + 1))))) else (spec_l2Name.l1 k x0 x3 x4 (wrap64 (x5 + 1))))) else (none)) else (spec_l2Name.l0 k x0 x3 (wrap64 (x4 + 1)))) else (none)) else (none)
end
def spec_l2Name.f (k : Nat) (a0 : ByteArray) : Option (Bool) := (spec_l1Cut.f k a0 46).bind fun t138 => (spec_l2Name.l0 k a0 t138 0)
theorem spec_l2Name.mono_l : ∀ k, (∀ y0 y1 y2, LeO (spec_l2Name.l0 k y0 y1 y2) (spec_l2Name.l0 (k + 1) y0 y1 y2)) ∧ (∀ y0 y1 y2 y3, LeO (spec_l2Name.j1 k y0 y1 y2 y3) (spec_l2Name.j1 (k + 1) y0 y1 y2 y3)) ∧ (∀ y0 y1 y2 y3, LeO (spec_l2Name.l1 k y0 y1 y2 y3) (spec_l2Name.l1 (k + 1) y0 y1 y2 y3))
 | 0 => ⟨fun _ _ _ => LeO.none _, fun _ _ _ _ => LeO.none _, fun _ _ _ _ => LeO.none _⟩
 | k + 1 => by
  obtain ⟨ih0, ih1, ih2⟩ := spec_l2Name.mono_l k
  have m0 := @spec_l1Cut.mono
  exact ⟨fun _ _ _ => by unfold spec_l2Name.l0; exact lq, fun _ _ _ _ => by unfold spec_l2Name.j1; exact lq, fun _ _ _ _ => by unfold spec_l2Name.l1; exact lq⟩
theorem spec_l2Name.mono : ∀ a0 k, LeO (spec_l2Name.f k a0) (spec_l2Name.f (k + 1) a0) := by
 intro a0 k; obtain ⟨ih0, ih1, ih2⟩ := spec_l2Name.mono_l k; have m0 := @spec_l1Cut.mono; unfold spec_l2Name.f; exact lq
theorem spec_l2Name.calls (k : Nat) (a0 : ByteArray) (r : Bool) (w : World) (h : spec_l2Name.f k a0 = some r) :
  Calls Tryz.prog 86 #[.string a0] w fun e w' => e = .returned (.bool r) ∧ Below w.heap.size w w' := by
 have HB := Aside0.mk (Below.refl w.heap.size w); unfold spec_l2Name.f at h; revert h; refine bnq fun t138 A2 => ?_; refine ahq fun H' => ?_; go_enter Tryz.func86, Tryz.ntmps86; go_wp2_with (first | (refine gcq (some 8) rfl Tryz.func113 (spec_l1Cut.calls k a0 46 t138 _ A2.out) ?_; rintro _ w3 ⟨v139, rfl, ho0, hb⟩; refine ⟨_, rfl, ?_⟩; have HO140 := rlq (w := w) ho0; replace HB := Aside0.mk (below_step bq hb); clear hb ho0)); go_loopg [4] k (fun kq v4 w' => ∃ (x4_1 : Int), v4 = .int .i64 x4_1 ∧ Aside0 (spec_l2Name.l0 kq a0 t138 x4_1 = some r) ∧ Aside0 (kq ≤ k) ∧ Aside0 (Kd.R Kd.string 9 w' w.heap.size (fun _ => True) v139 t138) ∧ Aside0 (Below w.heap.size w w')); case atStart => exact ⟨(0), vq, H', ⟨oq⟩, ⟨rq⟩, ⟨bq⟩⟩
 clear H'; obtain ⟨x4_1, rfl, HA, HK1, HO_3, HB⟩ := hrel; cases gk with | zero => exact zq HA | succ k1 => ?_
 have H := HA.out; clear HA; simp only [spec_l2Name.l0] at H; revert H; refine iDq (fun c4b0 => ?_) fun c4b0 => ?_
 ·refine ahq fun HC5 => ?_; obtain ⟨Ao6, co6, rfl⟩ := Kd.R_slice HO_3.out; go_upto_region 5 with (fail); go_cut [30] (fun v30 wc => ∃ (kq : Nat) (x30_4 : Bool), v30 = .bool x30_4 ∧ Aside0 (spec_l2Name.j1 kq a0 t138 x4_1 x30_4 = some r) ∧ Aside0 (kq ≤ k1) ∧ Aside0 (Kd.R Kd.string 9 wc w.heap.size (fun _ => True) (.slice Ao6 t138.length co6) t138) ∧ Aside0 (Below w.heap.size w wc)); case first =>
   have H := HC5.out; clear HC5; revert H; refine iDnq fun c7b0 => ?_; intro H; (first | rw [c7b0] | (simp only [i64_w, i32_w]; rw [c7b0]) | skip); revert H; refine iEq (fun c8b0 c8b1 => ?_) fun c8 c8b0 c8b1 => ?_
   ·refine iDq (fun c9b0 => ?_) fun c9b0 => ?_
    ·refine ahq fun H' => ?_; obtain ⟨ad142, ⟨⟩, hx142_0, p142, q142⟩ := atq HO_3 x4_1; go_wp2; go_meet; case rel => exact ⟨_, (true), vq, H', ⟨oq⟩, ⟨rq⟩, ⟨bq⟩⟩
    refine ahq fun H' => ?_; obtain ⟨ad142, ⟨⟩, hx142_0, p142, q142⟩ := atq HO_3 x4_1; go_wp2; go_meet; case rel => exact ⟨_, ((x4_1 == 0)), vq, H', ⟨oq⟩, ⟨rq⟩, ⟨bq⟩⟩
   refine ahq fun H' => ?_; obtain ⟨ad142, ⟨⟩, hx142_0, p142, q142⟩ := atq HO_3 x4_1; go_wp2; go_meet; case rel => exact ⟨_, (false), vq, H', ⟨oq⟩, ⟨rq⟩, ⟨bq⟩⟩
  clear HC5; obtain ⟨kq, x30_4, rfl, HA, HJ4, HO_3, HB⟩ := hcut; cases kq with | zero => exact zq HA | succ kj4 => ?_
  have H := HA.out; clear HA; simp only [spec_l2Name.j1] at H; revert H; cases x30_4
  ·refine bFq ?_; refine ahq fun H' => ?_; go_wp2; go_loopg [5] kj4 (fun kq v5 w' => ∃ (x5_3 : Int), v5 = .int .i64 x5_3 ∧ Aside0 (spec_l2Name.l1 kq a0 t138 x4_1 x5_3 = some r) ∧ Aside0 (kq ≤ kj4) ∧ Aside0 (Kd.R Kd.string 9 w' w.heap.size (fun _ => True) (.slice Ao6 t138.length co6) t138) ∧ Aside0 (Below w.heap.size w w')); case atStart => exact ⟨(0), vq, H', ⟨oq⟩, ⟨rq⟩, ⟨bq⟩⟩
   clear H'; obtain ⟨x5_3, rfl, HA, HK3, HO_3, HB⟩ := hrel; cases gk with | zero => exact zq HA | succ k3 => ?_
   have H := HA.out; clear HA; simp only [spec_l2Name.l1] at H; revert H; refine iDnq fun c11b0 => ?_; refine iDnq fun c12b0 => ?_; refine iDq (fun c13b0 => ?_) fun c13b0 => ?_
   ·refine iDnq fun c14b0 => ?_; refine iDq (fun c16b0 => ?_) fun c16b0 => ?_
    ·refine iDq (fun c17b0 => ?_) fun c17b0 => ?_
     ·refine iEq (fun c18b0 c18b1 => ?_) fun c18 c18b0 c18b1 => ?_
      ·refine ahq fun H' => ?_; obtain ⟨ad143, ⟨⟩, hx143_0, p143, q143⟩ := atq HO_3 x4_1; obtain ⟨ad144, e144, hx144_0, p144, q144⟩ := atq HO_3 x4_1; obtain rfl : ad143 = ad144 := (by injection e144); obtain ⟨hx15, p15, q15⟩ := btq (rdOf ByteArray.empty t138 x4_1) x5_3; go_wp2; go_roundg k3; case measure => exact oq
       case rel => exact ⟨(wrap64 (x5_3 + 1)), vq, H', ⟨oq⟩, ⟨rq⟩, ⟨bq⟩⟩
      refine iEq (fun c19b0 c19b1 => ?_) fun c19 c19b0 c19b1 => ?_
      ·refine ahq fun H' => ?_; obtain ⟨ad143, ⟨⟩, hx143_0, p143, q143⟩ := atq HO_3 x4_1; obtain ⟨ad144, e144, hx144_0, p144, q144⟩ := atq HO_3 x4_1; obtain rfl : ad143 = ad144 := (by injection e144); obtain ⟨hx15, p15, q15⟩ := btq (rdOf ByteArray.empty t138 x4_1) x5_3; go_wp2; go_roundg k3; case measure => exact oq
       case rel => exact ⟨(wrap64 (x5_3 + 1)), vq, H', ⟨oq⟩, ⟨rq⟩, ⟨bq⟩⟩
      refine siq ?_; rintro rfl; obtain ⟨ad143, ⟨⟩, hx143_0, p143, q143⟩ := atq HO_3 x4_1; obtain ⟨ad144, e144, hx144_0, p144, q144⟩ := atq HO_3 x4_1; obtain rfl : ad143 = ad144 := (by injection e144); obtain ⟨hx15, p15, q15⟩ := btq (rdOf ByteArray.empty t138 x4_1) x5_3; go_wp2; go_ret; exact ⟨vq, bq⟩
     refine iDq (fun c20b0 => ?_) fun c20b0 => ?_
     ·refine iEq (fun c21b0 c21b1 => ?_) fun c21 c21b0 c21b1 => ?_
      ·refine ahq fun H' => ?_; obtain ⟨ad143, ⟨⟩, hx143_0, p143, q143⟩ := atq HO_3 x4_1; obtain ⟨ad144, e144, hx144_0, p144, q144⟩ := atq HO_3 x4_1; obtain rfl : ad143 = ad144 := (by injection e144); obtain ⟨hx15, p15, q15⟩ := btq (rdOf ByteArray.empty t138 x4_1) x5_3; go_wp2; go_roundg k3; case measure => exact oq
       case rel => exact ⟨(wrap64 (x5_3 + 1)), vq, H', ⟨oq⟩, ⟨rq⟩, ⟨bq⟩⟩
      refine iEq (fun c22b0 c22b1 => ?_) fun c22 c22b0 c22b1 => ?_
      ·refine ahq fun H' => ?_; obtain ⟨ad143, ⟨⟩, hx143_0, p143, q143⟩ := atq HO_3 x4_1; obtain ⟨ad144, e144, hx144_0, p144, q144⟩ := atq HO_3 x4_1; obtain rfl : ad143 = ad144 := (by injection e144); obtain ⟨hx15, p15, q15⟩ := btq (rdOf ByteArray.empty t138 x4_1) x5_3; go_wp2; go_roundg k3; case measure => exact oq
       case rel => exact ⟨(wrap64 (x5_3 + 1)), vq, H', ⟨oq⟩, ⟨rq⟩, ⟨bq⟩⟩
      refine siq ?_; rintro rfl; obtain ⟨ad143, ⟨⟩, hx143_0, p143, q143⟩ := atq HO_3 x4_1; obtain ⟨ad144, e144, hx144_0, p144, q144⟩ := atq HO_3 x4_1; obtain rfl : ad143 = ad144 := (by injection e144); obtain ⟨hx15, p15, q15⟩ := btq (rdOf ByteArray.empty t138 x4_1) x5_3; go_wp2; go_ret; exact ⟨vq, bq⟩
     refine ahq fun H' => ?_; obtain ⟨ad143, ⟨⟩, hx143_0, p143, q143⟩ := atq HO_3 x4_1; obtain ⟨ad144, e144, hx144_0, p144, q144⟩ := atq HO_3 x4_1; obtain rfl : ad143 = ad144 := (by injection e144); obtain ⟨hx15, p15, q15⟩ := btq (rdOf ByteArray.empty t138 x4_1) x5_3; go_wp2; go_roundg k3; case measure => exact oq
     case rel => exact ⟨(wrap64 (x5_3 + 1)), vq, H', ⟨oq⟩, ⟨rq⟩, ⟨bq⟩⟩
    refine iDq (fun c23b0 => ?_) fun c23b0 => ?_
    ·refine iDq (fun c24b0 => ?_) fun c24b0 => ?_
     ·refine iEq (fun c25b0 c25b1 => ?_) fun c25 c25b0 c25b1 => ?_
      ·refine ahq fun H' => ?_; obtain ⟨ad143, ⟨⟩, hx143_0, p143, q143⟩ := atq HO_3 x4_1; obtain ⟨ad144, e144, hx144_0, p144, q144⟩ := atq HO_3 x4_1; obtain rfl : ad143 = ad144 := (by injection e144); obtain ⟨hx15, p15, q15⟩ := btq (rdOf ByteArray.empty t138 x4_1) x5_3; go_wp2; go_roundg k3; case measure => exact oq
       case rel => exact ⟨(wrap64 (x5_3 + 1)), vq, H', ⟨oq⟩, ⟨rq⟩, ⟨bq⟩⟩
      refine iEq (fun c26b0 c26b1 => ?_) fun c26 c26b0 c26b1 => ?_
      ·refine ahq fun H' => ?_; obtain ⟨ad143, ⟨⟩, hx143_0, p143, q143⟩ := atq HO_3 x4_1; obtain ⟨ad144, e144, hx144_0, p144, q144⟩ := atq HO_3 x4_1; obtain rfl : ad143 = ad144 := (by injection e144); obtain ⟨hx15, p15, q15⟩ := btq (rdOf ByteArray.empty t138 x4_1) x5_3; go_wp2; go_roundg k3; case measure => exact oq
       case rel => exact ⟨(wrap64 (x5_3 + 1)), vq, H', ⟨oq⟩, ⟨rq⟩, ⟨bq⟩⟩
      refine siq ?_; rintro rfl; obtain ⟨ad143, ⟨⟩, hx143_0, p143, q143⟩ := atq HO_3 x4_1; obtain ⟨ad144, e144, hx144_0, p144, q144⟩ := atq HO_3 x4_1; obtain rfl : ad143 = ad144 := (by injection e144); obtain ⟨hx15, p15, q15⟩ := btq (rdOf ByteArray.empty t138 x4_1) x5_3; go_wp2; go_ret; exact ⟨vq, bq⟩
     refine iDq (fun c27b0 => ?_) fun c27b0 => ?_
     ·refine iEq (fun c28b0 c28b1 => ?_) fun c28 c28b0 c28b1 => ?_
      ·refine ahq fun H' => ?_; obtain ⟨ad143, ⟨⟩, hx143_0, p143, q143⟩ := atq HO_3 x4_1; obtain ⟨ad144, e144, hx144_0, p144, q144⟩ := atq HO_3 x4_1; obtain rfl : ad143 = ad144 := (by injection e144); obtain ⟨hx15, p15, q15⟩ := btq (rdOf ByteArray.empty t138 x4_1) x5_3; go_wp2; go_roundg k3; case measure => exact oq
       case rel => exact ⟨(wrap64 (x5_3 + 1)), vq, H', ⟨oq⟩, ⟨rq⟩, ⟨bq⟩⟩
      refine iEq (fun c29b0 c29b1 => ?_) fun c29 c29b0 c29b1 => ?_
      ·refine ahq fun H' => ?_; obtain ⟨ad143, ⟨⟩, hx143_0, p143, q143⟩ := atq HO_3 x4_1; obtain ⟨ad144, e144, hx144_0, p144, q144⟩ := atq HO_3 x4_1; obtain rfl : ad143 = ad144 := (by injection e144); obtain ⟨hx15, p15, q15⟩ := btq (rdOf ByteArray.empty t138 x4_1) x5_3; go_wp2; go_roundg k3; case measure => exact oq
       case rel => exact ⟨(wrap64 (x5_3 + 1)), vq, H', ⟨oq⟩, ⟨rq⟩, ⟨bq⟩⟩
      refine siq ?_; rintro rfl; obtain ⟨ad143, ⟨⟩, hx143_0, p143, q143⟩ := atq HO_3 x4_1; obtain ⟨ad144, e144, hx144_0, p144, q144⟩ := atq HO_3 x4_1; obtain rfl : ad143 = ad144 := (by injection e144); obtain ⟨hx15, p15, q15⟩ := btq (rdOf ByteArray.empty t138 x4_1) x5_3; go_wp2; go_ret; exact ⟨vq, bq⟩
     refine ahq fun H' => ?_; obtain ⟨ad143, ⟨⟩, hx143_0, p143, q143⟩ := atq HO_3 x4_1; obtain ⟨ad144, e144, hx144_0, p144, q144⟩ := atq HO_3 x4_1; obtain rfl : ad143 = ad144 := (by injection e144); obtain ⟨hx15, p15, q15⟩ := btq (rdOf ByteArray.empty t138 x4_1) x5_3; go_wp2; go_roundg k3; case measure => exact oq
     case rel => exact ⟨(wrap64 (x5_3 + 1)), vq, H', ⟨oq⟩, ⟨rq⟩, ⟨bq⟩⟩
    refine ahq fun H' => ?_; obtain ⟨ad143, ⟨⟩, hx143_0, p143, q143⟩ := atq HO_3 x4_1; obtain ⟨ad144, e144, hx144_0, p144, q144⟩ := atq HO_3 x4_1; obtain rfl : ad143 = ad144 := (by injection e144); obtain ⟨hx15, p15, q15⟩ := btq (rdOf ByteArray.empty t138 x4_1) x5_3; go_wp2; go_roundg k3; case measure => exact oq
    case rel => exact ⟨(wrap64 (x5_3 + 1)), vq, H', ⟨oq⟩, ⟨rq⟩, ⟨bq⟩⟩
   refine ahq fun H' => ?_; obtain ⟨ad143, ⟨⟩, hx143_0, p143, q143⟩ := atq HO_3 x4_1; go_wp2; go_roundg k3; case measure => exact oq
   case rel => exact ⟨(wrap64 (x4_1 + 1)), vq, H', ⟨oq⟩, ⟨rq⟩, ⟨bq⟩⟩
  refine bTq ?_; refine siq ?_; rintro rfl; go_wp2; go_ret; exact ⟨vq, bq⟩
 refine bnq fun t141 A30 => ?_; refine siq ?_; rintro rfl; obtain ⟨Ao31, co31, rfl⟩ := Kd.R_slice HO_3.out; go_wp2_with (first | (refine gcq (some 70) rfl Tryz.func56 (spec_l1In.calls (a0.size : Int) 1 60 t141 _ A30.out) ?_; rintro _ w' ⟨rfl, ⟨nd, rfl⟩⟩; refine ⟨_, rfl, ?_⟩)); go_ret; exact ⟨vq, bq⟩
def spec_l2Parts.f (k : Nat) (a0 : ByteArray) : Option (List ByteArray) := (spec_l1Cut.f k a0 46).bind fun t145 => (if (t145.length : Int) > 1 then (if 0 ≤ (wrap64 ((t145.length : Int) - 1)) then (if (wrap64 ((t145.length : Int) - 1)) < (t145.length : Int) then (if (rdOf ByteArray.empty t145 (wrap64 ((t145.length : Int) - 1))).toList = ([] : List UInt8) then (if (wrap64 ((t145.length : Int) - 1)) ≤ (t145.length : Int) then (some (t145.take ((wrap64 ((t145.length : Int) - 1)) : Int).toNat)) else (none)) else (some t145)) else (none)) else (none)) else (some t145))
theorem spec_l2Parts.mono : ∀ a0 k, LeO (spec_l2Parts.f k a0) (spec_l2Parts.f (k + 1) a0) := by
 intro a0 k; have m0 := @spec_l1Cut.mono; unfold spec_l2Parts.f; exact lq
theorem spec_l2Parts.calls (k : Nat) (a0 : ByteArray) (r : List ByteArray) (w : World) (h : spec_l2Parts.f k a0 = some r) :
  Calls Tryz.prog 76 #[.string a0] w fun e w' => ∃ v0_ : Value, e = .returned (v0_) ∧ Kd.R Kd.string 9 w' w.heap.size (fun _ => True) v0_ r ∧ Below w.heap.size w w' := by
 have HB := Aside0.mk (Below.refl w.heap.size w); unfold spec_l2Parts.f at h; revert h; refine bnq fun t145 A2 => ?_; refine iFq (1 < t145.length) (fun c3b0 c3b1 => ?_) fun c3b0 c3b1 => ?_
 ·intro H; obtain ⟨ji4, hji4⟩ : ∃ j_ : Int, (wrap64 ((t145.length : Int) - 1)) = j_ := ⟨_, rfl⟩; (first | rw [hji4] at H | simp only [hji4] at H); (try rw [hji4] at A2); have hji4w : (IntKind.i64.wrap ((t145.length : Int) - 1)) = ji4 := (i64_w _).trans hji4; revert H; refine iDnq fun c5b0 => ?_; refine iDnq fun c6b0 => ?_; refine iEq (fun c7b0 c7b1 => ?_) fun c7 c7b0 c7b1 => ?_
  ·refine iTnq fun c8b0 c8b1 => ?_; intro H; obtain ⟨y149, hy149⟩ : ∃ y_ : List ByteArray, y_ = (t145.take ((ji4) : Int).toNat) := ⟨_, rfl⟩; replace H : (some y149) = some r := by first | (rw [hy149]; with_reducible exact H) | (have H2_ := (Option.bind_some _ _).symm.trans H; rw [hy149]; with_reducible exact H2_) | (have H2_ := (Option.bind_some _ _).symm.trans H; with_reducible exact H2_) | with_reducible exact H | (rw [hy149]; exact H) | exact H
   have Ny149 := Aside0.mk hy149; clear hy149; obtain rfl := Option.some.inj H; go_enter Tryz.func76, Tryz.ntmps76; go_wp2_with (first | (refine gcq (some 5) rfl Tryz.func113 (spec_l1Cut.calls k a0 46 t145 _ A2.out) ?_; rintro _ w9 ⟨v146, rfl, ho0, hb⟩; refine ⟨_, rfl, ?_⟩; have HO147 := rlq (w := w) ho0; replace HB := Aside0.mk (below_step bq hb); clear hb ho0; obtain ⟨Ao10, co10, rfl⟩ := Kd.R_slice HO147.out; obtain ⟨ad148, ⟨⟩, hx148_0, p148, q148⟩ := atq HO147 (ji4); have q11 : ((ji4) : Int) ≤ ((t145.length : Int) : Int) := of_decide_eq_true (by assumption); obtain ⟨i011, hi011, _, hsz11, _⟩ := info_parts info9; have hcut11 := cut_to (P := Tryz.prog) 25 9 .i64 Tryz.underlying25 hi011 (some ad148) t145.length co10 (ji4) (of_decide_eq_true (by assumption)) q11 (Kd.R_reads' HO147.out).2.1; have hr11 := Kd.R_take (m := ((ji4) : Int).toNat) HO147.out (by omega); have hy11 : y149.length = ((ji4) : Int).toNat := (by rw [Ny149.out, List.length_take]; omega); rw [← Ny149.out] at hr11; rw [← hy11] at hr11 hcut11; clear hy11 hi011 hsz11 HO147; have HO151 := Aside0.mk hr11; clear hr11; replace q11 := eq_true q11)); go_ret; exact ⟨_, by first | rfl | (simp [errW_none, errW_some] <;> rfl) | (simp only [← hji4]; first | rfl | (simp [errW_none, errW_some] <;> rfl)) | (simp [*, errW_none, errW_some] <;> rfl) | (simp [nen, een]; done), rq, bq⟩
  refine siq ?_; rintro rfl; go_enter Tryz.func76, Tryz.ntmps76; go_wp2_with (first | (refine gcq (some 5) rfl Tryz.func113 (spec_l1Cut.calls k a0 46 t145 _ A2.out) ?_; rintro _ w12 ⟨v146, rfl, ho0, hb⟩; refine ⟨_, rfl, ?_⟩; have HO147 := rlq (w := w) ho0; replace HB := Aside0.mk (below_step bq hb); clear hb ho0; obtain ⟨Ao13, co13, rfl⟩ := Kd.R_slice HO147.out; obtain ⟨ad148, ⟨⟩, hx148_0, p148, q148⟩ := atq HO147 (ji4))); go_ret; exact ⟨_, by first | rfl | (simp [errW_none, errW_some] <;> rfl) | (simp only [← hji4]; first | rfl | (simp [errW_none, errW_some] <;> rfl)) | (simp [*, errW_none, errW_some] <;> rfl) | (simp [nen, een]; done), rq, bq⟩
 refine siq ?_; rintro rfl; go_enter Tryz.func76, Tryz.ntmps76; go_wp2_with (first | (refine gcq (some 5) rfl Tryz.func113 (spec_l1Cut.calls k a0 46 t145 _ A2.out) ?_; rintro _ w14 ⟨v146, rfl, ho0, hb⟩; refine ⟨_, rfl, ?_⟩; have HO147 := rlq (w := w) ho0; replace HB := Aside0.mk (below_step bq hb); clear hb ho0; obtain ⟨Ao15, co15, rfl⟩ := Kd.R_slice HO147.out)); go_ret; exact ⟨_, by first | rfl | (simp [errW_none, errW_some] <;> rfl) | (simp [*, errW_none, errW_some] <;> rfl) | (simp [nen, een]; done), rq, bq⟩
end Go.Proofs.YtopcpbokfngpeaaGreatDoor.Lh
set_option maxHeartbeats 8000000
set_option maxRecDepth 100000
namespace Go.Proofs.YtopcpbokfngpeaaGreatDoor.Lh
open Go.RowKit Go.Proofs.YtopcpbokfngpeaaGreatDoor.H Go.Proofs.YtopcpbokfngpeaaGreatDoorW.PrintWords Go.Proofs.YtopcpbokfngpeaaGreatDoorW.PrintLast Go.Proofs.YtopcpbokfngpeaaGreatDoorW.PrintMore Go.Proofs.YtopcpbokfngpeaaGreatDoor.Lp
attribute [local go_sem] max2_int min2_int max_two min_two max_three min_three max_four min_four   -- for this text's walks alone
set_option linter.unusedVariables false
set_option linter.unusedSimpArgs false
def spec_l2Digits.l0 : Nat → ByteArray → Int → Int → Int → Option (Int)
 | 0, _, _, _, _ => none
 | k + 1, x0, x1, x5, x6 => if x6 < (x0.size : Int) then (if 0 ≤ x6 then ((spec_l1Hex.f k (bt x0 x6)).bind fun t152 => (if t152 < 0 then (some (-1)) else (if t152 ≥ x1 then (some (-1)) else (if x5 > 4294967295 then (some (-1)) else (spec_l2Digits.l0 k x0 x1 (wrap64 ((wrap64 (x5 * x1)) + t152)) (wrap64 (x6 + 1))))))) else (none)) else (some x5)
def spec_l2Digits.f (k : Nat) (a0 : ByteArray) (a1 : Int) : Option (Int) := spec_l2Digits.l0 k a0 a1 0 0
theorem spec_l2Digits.mono_l : ∀ k, (∀ y0 y1 y2 y3, LeO (spec_l2Digits.l0 k y0 y1 y2 y3) (spec_l2Digits.l0 (k + 1) y0 y1 y2 y3))
 | 0 => fun _ _ _ _ => LeO.none _
 | k + 1 => by
  have ih0 := spec_l2Digits.mono_l k
  have m0 := @spec_l1Hex.mono
  exact (fun _ _ _ _ => by unfold spec_l2Digits.l0; exact lq)
theorem spec_l2Digits.mono : ∀ a0 a1 k, LeO (spec_l2Digits.f k a0 a1) (spec_l2Digits.f (k + 1) a0 a1) := by
 intro a0 a1 k; have ih0 := spec_l2Digits.mono_l k; have m0 := @spec_l1Hex.mono; unfold spec_l2Digits.f; exact lq
theorem spec_l2Digits.calls (k : Nat) (a0 : ByteArray) (a1 : Int) (r : Int) (w : World) (h : spec_l2Digits.f k a0 a1 = some r) :
  Calls Tryz.prog 152 #[.string a0, .int .i64 a1] w fun e w' => e = .returned (.int .i64 r) ∧ Drawn0 w w' := by
 unfold spec_l2Digits.f at h; revert h; refine ahq fun H' => ?_; go_enter Tryz.func152, Tryz.ntmps152; go_wp2; go_loopg [5, 6] k (fun kq v5 v6 w' => ∃ (x5_1 : Int) (x6_1 : Int), v5 = .int .i64 x5_1 ∧ v6 = .int .i64 x6_1 ∧ Aside0 (spec_l2Digits.l0 kq a0 a1 x5_1 x6_1 = some r) ∧ Aside0 (kq ≤ k) ∧ Drawn0 w w'); case atStart => exact ⟨(0), (0), vq, vq, H', ⟨oq⟩, dq⟩
 clear H'; obtain ⟨x5_1, x6_1, rfl, rfl, HA, HK1, ⟨m1, rfl⟩⟩ := hrel; cases gk with | zero => exact zq HA | succ k1 => ?_
 have H := HA.out; clear HA; simp only [spec_l2Digits.l0] at H; revert H; refine iDq (fun c3b0 => ?_) fun c3b0 => ?_
 ·refine iDnq fun c4b0 => ?_; refine bnq fun t152 A6 => ?_; refine iDq (fun c7b0 => ?_) fun c7b0 => ?_
  ·refine siq ?_; rintro rfl; obtain ⟨hx5, p5, q5⟩ := btq a0 x6_1; go_wp2_with (first | (refine gcq (some 17) rfl Tryz.func144 (spec_l1Hex.calls k1 (bt a0 x6_1) t152 _ A6.out) ?_; rintro _ w' ⟨rfl, ⟨nd, rfl⟩⟩; refine ⟨_, rfl, ?_⟩)); go_ret; exact ⟨vq, dq⟩
  refine iDq (fun c8b0 => ?_) fun c8b0 => ?_
  ·refine siq ?_; rintro rfl; obtain ⟨hx5, p5, q5⟩ := btq a0 x6_1; go_wp2_with (first | (refine gcq (some 17) rfl Tryz.func144 (spec_l1Hex.calls k1 (bt a0 x6_1) t152 _ A6.out) ?_; rintro _ w' ⟨rfl, ⟨nd, rfl⟩⟩; refine ⟨_, rfl, ?_⟩)); go_ret; exact ⟨vq, dq⟩
  refine iDq (fun c9b0 => ?_) fun c9b0 => ?_
  ·refine siq ?_; rintro rfl; obtain ⟨hx5, p5, q5⟩ := btq a0 x6_1; go_wp2_with (first | (refine gcq (some 17) rfl Tryz.func144 (spec_l1Hex.calls k1 (bt a0 x6_1) t152 _ A6.out) ?_; rintro _ w' ⟨rfl, ⟨nd, rfl⟩⟩; refine ⟨_, rfl, ?_⟩)); go_ret; exact ⟨vq, dq⟩
  refine ahq fun H' => ?_; obtain ⟨hx5, p5, q5⟩ := btq a0 x6_1; go_wp2_with (first | (refine gcq (some 17) rfl Tryz.func144 (spec_l1Hex.calls k1 (bt a0 x6_1) t152 _ A6.out) ?_; rintro _ w' ⟨rfl, ⟨nd, rfl⟩⟩; refine ⟨_, rfl, ?_⟩)); go_roundg k1; case measure => exact oq
  case rel => exact ⟨(wrap64 ((wrap64 (x5_1 * a1)) + t152)), (wrap64 (x6_1 + 1)), vq, vq, H', ⟨oq⟩, dq⟩
 refine siq ?_; rintro rfl; go_wp2; go_ret; exact ⟨vq, dq⟩
mutual
def spec_l2Part.j0 : Nat → ByteArray → Bool → Option (Int)
 | 0, _, _ => none
 | k + 1, x0, x6 => if x6 = true then (if 2 ≤ (x0.size : Int) then ((spec_l2Digits.f k (x0.extract 2 x0.size) 16).bind fun t153 => (some t153)) else (none)) else (if (x0.size : Int) ≥ 2 then (if 0 < (x0.size : Int) then (spec_l2Part.j1 k x0 ((bt x0 0) == 48)) else (none)) else (spec_l2Part.j1 k x0 false))
def spec_l2Part.j1 : Nat → ByteArray → Bool → Option (Int)
 | 0, _, _ => none
 | k + 1, x0, x28 => if x28 = true then (if 1 ≤ (x0.size : Int) then ((spec_l2Digits.f k (x0.extract 1 x0.size) 8).bind fun t154 => (some t154)) else (none)) else ((spec_l2Digits.f k x0 10).bind fun t155 => (some t155))
end
def spec_l2Part.f (k : Nat) (a0 : ByteArray) : Option (Int) := if a0.toList = ([] : List UInt8) then (some (-1)) else (if (a0.size : Int) ≥ 2 then (if 0 < (a0.size : Int) then (if (bt a0 0) = 48 then (if 1 < (a0.size : Int) then (if (bt a0 1) = 120 then (spec_l2Part.j0 k a0 true) else (spec_l2Part.j0 k a0 ((bt a0 1) == 88))) else (none)) else (spec_l2Part.j0 k a0 false)) else (none)) else (spec_l2Part.j0 k a0 false))
theorem spec_l2Part.mono_l : ∀ k, (∀ y0 y1, LeO (spec_l2Part.j0 k y0 y1) (spec_l2Part.j0 (k + 1) y0 y1)) ∧ (∀ y0 y1, LeO (spec_l2Part.j1 k y0 y1) (spec_l2Part.j1 (k + 1) y0 y1))
 | 0 => ⟨fun _ _ => LeO.none _, fun _ _ => LeO.none _⟩
 | k + 1 => by
  obtain ⟨ih0, ih1⟩ := spec_l2Part.mono_l k
  have m0 := @spec_l2Digits.mono
  exact ⟨fun _ _ => by unfold spec_l2Part.j0; exact lq, fun _ _ => by unfold spec_l2Part.j1; exact lq⟩
theorem spec_l2Part.mono : ∀ a0 k, LeO (spec_l2Part.f k a0) (spec_l2Part.f (k + 1) a0) := by
 intro a0 k; obtain ⟨ih0, ih1⟩ := spec_l2Part.mono_l k; have m0 := @spec_l2Digits.mono; unfold spec_l2Part.f; exact lq
theorem spec_l2Part.calls (k : Nat) (a0 : ByteArray) (r : Int) (w : World) (h : spec_l2Part.f k a0 = some r) :
  Calls Tryz.prog 124 #[.string a0] w fun e w' => e = .returned (.int .i64 r) ∧ Drawn0 w w' := by
 unfold spec_l2Part.f at h; revert h; refine iEq (fun c2b0 c2b1 => ?_) fun c2 c2b0 c2b1 => ?_
 ·refine siq ?_; rintro rfl; go_enter Tryz.func124, Tryz.ntmps124; go_wp2; go_ret; exact ⟨vq, dq⟩
 refine ahq fun HC3 => ?_; go_enter Tryz.func124, Tryz.ntmps124; go_upto_region 3 with (fail); go_cut [6] (fun v6 wc => ∃ (kq : Nat) (x6_2 : Bool), v6 = .bool x6_2 ∧ Aside0 (spec_l2Part.j0 kq a0 x6_2 = some r) ∧ Aside0 (kq ≤ k) ∧ Drawn0 w wc); case first =>
  have H := HC3.out; clear HC3; revert H; refine iFq (2 ≤ a0.size) (fun c4b0 c4b1 => ?_) fun c4b0 c4b1 => ?_
  ·intro H; (first | rw [c4b0] | (simp only [i64_w, i32_w]; rw [c4b0]) | skip); revert H; refine iFnq (0 < a0.size) fun c5b0 c5b1 => ?_; refine iEq (fun c7b0 c7b1 => ?_) fun c7 c7b0 c7b1 => ?_
   ·refine iFnq (1 < a0.size) fun c8b0 c8b1 => ?_; refine iEq (fun c10b0 c10b1 => ?_) fun c10 c10b0 c10b1 => ?_
    ·refine ahq fun H' => ?_; obtain ⟨hx6, qi6, q6⟩ := bt0q a0; obtain ⟨hx9, qi9, q9⟩ := bt1q a0; go_wp2; go_meet; case rel => exact ⟨_, (true), vq, H', ⟨oq⟩, dq⟩
    refine ahq fun H' => ?_; obtain ⟨hx6, qi6, q6⟩ := bt0q a0; obtain ⟨hx9, qi9, q9⟩ := bt1q a0; obtain ⟨hx11, qi11, q11⟩ := bt1q a0; go_wp2; go_meet; case rel => exact ⟨_, (((bt a0 1) == 88)), vq, H', ⟨oq⟩, dq⟩
   refine ahq fun H' => ?_; obtain ⟨hx6, qi6, q6⟩ := bt0q a0; go_wp2; go_meet; case rel => exact ⟨_, (false), vq, H', ⟨oq⟩, dq⟩
  intro H; (first | rw [c4b0] | (simp only [i64_w, i32_w]; rw [c4b0]) | skip); have H' := Aside0.mk H; clear H; go_wp2; go_meet; case rel => exact ⟨_, (false), vq, H', ⟨oq⟩, dq⟩
 clear HC3; obtain ⟨kq, x6_2, rfl, HA, HJ2, ⟨mc2, rfl⟩⟩ := hcut; cases kq with | zero => exact zq HA | succ kj2 => ?_
 have H := HA.out; clear HA; simp only [spec_l2Part.j0] at H; revert H; cases x6_2
 ·refine bFq ?_; refine ahq fun HC15 => ?_; go_upto_region 5 with (fail); go_cut [28] (fun v28 wc => ∃ (kq : Nat) (x28_14 : Bool), v28 = .bool x28_14 ∧ Aside0 (spec_l2Part.j1 kq a0 x28_14 = some r) ∧ Aside0 (kq ≤ kj2) ∧ Drawn0 w wc); case first =>
   have H := HC15.out; clear HC15; revert H; refine iFq (2 ≤ a0.size) (fun c16b0 c16b1 => ?_) fun c16b0 c16b1 => ?_
   ·intro H; (first | rw [c16b0] | (simp only [i64_w, i32_w]; rw [c16b0]) | skip); revert H; refine iFnq (0 < a0.size) fun c17b0 c17b1 => ?_; refine ahq fun H' => ?_; obtain ⟨hx18, qi18, q18⟩ := bt0q a0; go_wp2; go_meet; case rel => exact ⟨_, (((bt a0 0) == 48)), vq, H', ⟨oq⟩, dq⟩
   intro H; (first | rw [c16b0] | (simp only [i64_w, i32_w]; rw [c16b0]) | skip); have H' := Aside0.mk H; clear H; go_wp2; go_meet; case rel => exact ⟨_, (false), vq, H', ⟨oq⟩, dq⟩
  clear HC15; obtain ⟨kq, x28_14, rfl, HA, HJ14, ⟨mc14, rfl⟩⟩ := hcut; cases kq with | zero => exact zq HA | succ kj14 => ?_
  have H := HA.out; clear HA; simp only [spec_l2Part.j1] at H; revert H; cases x28_14
  ·refine bFq ?_; refine bnq fun t155 A22 => ?_; refine siq ?_; rintro rfl; go_wp2_with (first | (refine gcq (some 41) rfl Tryz.func152 (spec_l2Digits.calls kj14 a0 10 t155 _ A22.out) ?_; rintro _ w' ⟨rfl, ⟨nd, rfl⟩⟩; refine ⟨_, rfl, ?_⟩)); go_ret; exact ⟨vq, dq⟩
  refine bTq ?_; refine iTnq fun c20b0 c20b1 => ?_; refine bnq fun t154 A21 => ?_; refine siq ?_; rintro rfl; go_wp2_with (first | (refine gcq (some 39) rfl Tryz.func152 (spec_l2Digits.calls kj14 (a0.extract 1 a0.size) 8 t154 _ A21.out) ?_; rintro _ w' ⟨rfl, ⟨nd, rfl⟩⟩; refine ⟨_, rfl, ?_⟩)); go_ret; exact ⟨vq, dq⟩
 refine bTq ?_; refine iTnq fun c13b0 c13b1 => ?_; refine bnq fun t153 A14 => ?_; refine siq ?_; rintro rfl; go_wp2_with (first | (refine gcq (some 27) rfl Tryz.func152 (spec_l2Digits.calls kj2 (a0.extract 2 a0.size) 16 t153 _ A14.out) ?_; rintro _ w' ⟨rfl, ⟨nd, rfl⟩⟩; refine ⟨_, rfl, ?_⟩)); go_ret; exact ⟨vq, dq⟩
end Go.Proofs.YtopcpbokfngpeaaGreatDoor.Lh
set_option maxHeartbeats 8000000
set_option maxRecDepth 100000
namespace Go.Proofs.YtopcpbokfngpeaaGreatDoor.Lh
open Go.RowKit Go.Proofs.YtopcpbokfngpeaaGreatDoor.H Go.Proofs.YtopcpbokfngpeaaGreatDoorW.PrintWords Go.Proofs.YtopcpbokfngpeaaGreatDoorW.PrintLast Go.Proofs.YtopcpbokfngpeaaGreatDoorW.PrintMore Go.Proofs.YtopcpbokfngpeaaGreatDoor.Lp
attribute [local go_sem] max2_int min2_int max_two min_two max_three min_three max_four min_four   -- for this text's walks alone
set_option linter.unusedVariables false
set_option linter.unusedSimpArgs false
def spec_l2Ends.l0 : Nat → ByteArray → Bool → Int → Option (Bool)
 | 0, _, _, _ => none
 | k + 1, x4, x5, x6 => if x6 < (x4.size : Int) then (if x5 = true then (if 0 ≤ x6 then (if (bt x4 x6) ≥ 48 then (spec_l2Ends.l0 k x4 (decide ((bt x4 x6) ≤ 57)) (wrap64 (x6 + 1))) else (spec_l2Ends.l0 k x4 false (wrap64 (x6 + 1)))) else (none)) else (spec_l2Ends.l0 k x4 false (wrap64 (x6 + 1)))) else (if x5 = true then (some true) else (if (x4.size : Int) ≥ 2 then (if 0 < (x4.size : Int) then (if (bt x4 0) = 48 then (if 1 < (x4.size : Int) then (if (bt x4 1) = 120 then ((spec_l2Part.f k x4).bind fun t160 => (some (decide (t160 ≥ 0)))) else (if (bt x4 1) = 88 then ((spec_l2Part.f k x4).bind fun t161 => (some (decide (t161 ≥ 0)))) else (some false))) else (none)) else (some false)) else (none)) else (some false)))
def spec_l2Ends.f (k : Nat) (a0 : ByteArray) : Option (Bool) := (spec_l2Parts.f k a0).bind fun t156 => (if 0 ≤ (wrap64 ((t156.length : Int) - 1)) then (if (wrap64 ((t156.length : Int) - 1)) < (t156.length : Int) then (if (rdOf ByteArray.empty t156 (wrap64 ((t156.length : Int) - 1))).toList = ([] : List UInt8) then (some false) else (spec_l2Ends.l0 k (rdOf ByteArray.empty t156 (wrap64 ((t156.length : Int) - 1))) true 0)) else (none)) else (none))
theorem spec_l2Ends.mono_l : ∀ k, (∀ y0 y1 y2, LeO (spec_l2Ends.l0 k y0 y1 y2) (spec_l2Ends.l0 (k + 1) y0 y1 y2))
 | 0 => fun _ _ _ => LeO.none _
 | k + 1 => by
  have ih0 := spec_l2Ends.mono_l k
  have m0 := @spec_l2Part.mono; have m1 := @spec_l2Parts.mono
  exact (fun _ _ _ => by unfold spec_l2Ends.l0; exact lq)
theorem spec_l2Ends.mono : ∀ a0 k, LeO (spec_l2Ends.f k a0) (spec_l2Ends.f (k + 1) a0) := by
 intro a0 k; have ih0 := spec_l2Ends.mono_l k; have m0 := @spec_l2Part.mono; have m1 := @spec_l2Parts.mono; unfold spec_l2Ends.f; exact lq
theorem spec_l2Ends.calls (k : Nat) (a0 : ByteArray) (r : Bool) (w : World) (h : spec_l2Ends.f k a0 = some r) :
  Calls Tryz.prog 87 #[.string a0] w fun e w' => e = .returned (.bool r) ∧ Below w.heap.size w w' := by
 have HB := Aside0.mk (Below.refl w.heap.size w); unfold spec_l2Ends.f at h; revert h; refine bnq fun t156 A2 => ?_; intro H; obtain ⟨ji3, hji3⟩ : ∃ j_ : Int, (wrap64 ((t156.length : Int) - 1)) = j_ := ⟨_, rfl⟩; (first | rw [hji3] at H | simp only [hji3] at H); (try rw [hji3] at A2); have hji3w : (IntKind.i64.wrap ((t156.length : Int) - 1)) = ji3 := (i64_w _).trans hji3; revert H; refine iDnq fun c4b0 => ?_; refine iDnq fun c5b0 => ?_; refine iEq (fun c6b0 c6b1 => ?_) fun c6 c6b0 c6b1 => ?_
 ·refine siq ?_; rintro rfl; go_enter Tryz.func87, Tryz.ntmps87; go_wp2_with (first | (refine gcq (some 8) rfl Tryz.func76 (spec_l2Parts.calls k a0 t156 _ A2.out) ?_; rintro _ w7 ⟨v157, rfl, ho0, hb⟩; refine ⟨_, rfl, ?_⟩; have HO158 := rlq (w := w) ho0; replace HB := Aside0.mk (below_step bq hb); clear hb ho0; obtain ⟨Ao8, co8, rfl⟩ := Kd.R_slice HO158.out; obtain ⟨ad159, ⟨⟩, hx159_0, p159, q159⟩ := atq HO158 (ji3))); go_ret; exact ⟨by first | rfl | (simp [errW_none, errW_some] <;> rfl) | (simp only [← hji3]; first | rfl | (simp [errW_none, errW_some] <;> rfl)) | (simp [*, errW_none, errW_some] <;> rfl) | (simp [nen, een]; done), bq⟩
 refine ahq fun H' => ?_; go_enter Tryz.func87, Tryz.ntmps87; go_wp2_with (first | (refine gcq (some 8) rfl Tryz.func76 (spec_l2Parts.calls k a0 t156 _ A2.out) ?_; rintro _ w9 ⟨v157, rfl, ho0, hb⟩; refine ⟨_, rfl, ?_⟩; have HO158 := rlq (w := w) ho0; replace HB := Aside0.mk (below_step bq hb); clear hb ho0; obtain ⟨Ao10, co10, rfl⟩ := Kd.R_slice HO158.out; obtain ⟨ad159, ⟨⟩, hx159_0, p159, q159⟩ := atq HO158 (ji3))); go_loopg [5, 6] k (fun kq v5 v6 w' => ∃ (x5_1 : Bool) (x6_1 : Int), v5 = .bool x5_1 ∧ v6 = .int .i64 x6_1 ∧ Aside0 (spec_l2Ends.l0 kq (rdOf ByteArray.empty t156 (ji3)) x5_1 x6_1 = some r) ∧ Aside0 (kq ≤ k) ∧ Aside0 (Below w.heap.size w w')); case atStart => exact ⟨(true), (0), vq, vq, H', ⟨oq⟩, ⟨bq⟩⟩
 clear H'; obtain ⟨x5_1, x6_1, rfl, rfl, HA, HK1, HB⟩ := hrel; cases gk with | zero => exact zq HA | succ k1 => ?_
 have H := HA.out; clear HA; simp only [spec_l2Ends.l0] at H; revert H; refine iDq (fun c11b0 => ?_) fun c11b0 => ?_
 ·cases x5_1
  ·refine bFq ?_; refine ahq fun H' => ?_; go_wp2; go_roundg k1; case measure => exact oq
   case rel => exact ⟨(false), (wrap64 (x6_1 + 1)), vq, vq, H', ⟨oq⟩, ⟨bq⟩⟩
  refine bTq ?_; refine iDnq fun c13b0 => ?_; refine iDq (fun c15b0 => ?_) fun c15b0 => ?_
  ·refine ahq fun H' => ?_; obtain ⟨hx14, p14, q14⟩ := btq (rdOf ByteArray.empty t156 (ji3)) x6_1; obtain ⟨hx16, p16, q16⟩ := btq (rdOf ByteArray.empty t156 (ji3)) x6_1; go_wp2; go_roundg k1; case measure => exact oq
   case rel => exact ⟨(decide ((bt (rdOf ByteArray.empty t156 (ji3)) x6_1) ≤ 57)), (wrap64 (x6_1 + 1)), (by first | rfl | (simp; done) | (simp only [← hji3] <;> (first | rfl | simp)) | (simp [*]; done) | (simp [nen, een]; done)), vq, H', ⟨oq⟩, ⟨bq⟩⟩
  refine ahq fun H' => ?_; obtain ⟨hx14, p14, q14⟩ := btq (rdOf ByteArray.empty t156 (ji3)) x6_1; go_wp2; go_roundg k1; case measure => exact oq
  case rel => exact ⟨(false), (wrap64 (x6_1 + 1)), vq, vq, H', ⟨oq⟩, ⟨bq⟩⟩
 cases x5_1
 ·refine bFq ?_; refine iFq (2 ≤ (rdOf ByteArray.empty t156 (ji3)).size) (fun c18b0 c18b1 => ?_) fun c18b0 c18b1 => ?_
  ·refine iFnq (0 < (rdOf ByteArray.empty t156 (ji3)).size) fun c19b0 c19b1 => ?_; refine iEq (fun c21b0 c21b1 => ?_) fun c21 c21b0 c21b1 => ?_
   ·refine iFnq (1 < (rdOf ByteArray.empty t156 (ji3)).size) fun c22b0 c22b1 => ?_; refine iEq (fun c24b0 c24b1 => ?_) fun c24 c24b0 c24b1 => ?_
    ·refine bnq fun t160 A25 => ?_; refine siq ?_; rintro rfl; obtain ⟨hx20, qi20, q20⟩ := bt0q (rdOf ByteArray.empty t156 (ji3)); obtain ⟨hx23, qi23, q23⟩ := bt1q (rdOf ByteArray.empty t156 (ji3)); go_wp2_with (first | (go_at_call 124; (with_reducible refine (spec_l2Part.calls k1 (rdOf ByteArray.empty t156 (ji3)) t160 _ A25.out).mono ?_); rintro e w' ⟨rfl, ⟨nd, rfl⟩⟩)); go_ret; exact ⟨by first | rfl | (simp [errW_none, errW_some] <;> rfl) | (simp only [← hji3]; first | rfl | (simp [errW_none, errW_some] <;> rfl)) | (simp [*, errW_none, errW_some] <;> rfl) | (simp [nen, een]; done), bq⟩
    refine iEq (fun c27b0 c27b1 => ?_) fun c27 c27b0 c27b1 => ?_
    ·refine bnq fun t161 A28 => ?_; refine siq ?_; rintro rfl; obtain ⟨hx20, qi20, q20⟩ := bt0q (rdOf ByteArray.empty t156 (ji3)); obtain ⟨hx23, qi23, q23⟩ := bt1q (rdOf ByteArray.empty t156 (ji3)); obtain ⟨hx26, qi26, q26⟩ := bt1q (rdOf ByteArray.empty t156 (ji3)); go_wp2_with (first | (go_at_call 124; (with_reducible refine (spec_l2Part.calls k1 (rdOf ByteArray.empty t156 (ji3)) t161 _ A28.out).mono ?_); rintro e w' ⟨rfl, ⟨nd, rfl⟩⟩)); go_ret; exact ⟨by first | rfl | (simp [errW_none, errW_some] <;> rfl) | (simp only [← hji3]; first | rfl | (simp [errW_none, errW_some] <;> rfl)) | (simp [*, errW_none, errW_some] <;> rfl) | (simp [nen, een]; done), bq⟩
    refine siq ?_; rintro rfl; obtain ⟨hx20, qi20, q20⟩ := bt0q (rdOf ByteArray.empty t156 (ji3)); obtain ⟨hx23, qi23, q23⟩ := bt1q (rdOf ByteArray.empty t156 (ji3)); obtain ⟨hx26, qi26, q26⟩ := bt1q (rdOf ByteArray.empty t156 (ji3)); go_wp2; go_ret; exact ⟨by first | rfl | (simp [errW_none, errW_some] <;> rfl) | (simp only [← hji3]; first | rfl | (simp [errW_none, errW_some] <;> rfl)) | (simp [*, errW_none, errW_some] <;> rfl) | (simp [nen, een]; done), bq⟩
   refine siq ?_; rintro rfl; obtain ⟨hx20, qi20, q20⟩ := bt0q (rdOf ByteArray.empty t156 (ji3)); go_wp2; go_ret; exact ⟨by first | rfl | (simp [errW_none, errW_some] <;> rfl) | (simp only [← hji3]; first | rfl | (simp [errW_none, errW_some] <;> rfl)) | (simp [*, errW_none, errW_some] <;> rfl) | (simp [nen, een]; done), bq⟩
  refine siq ?_; rintro rfl; go_wp2; go_ret; exact ⟨by first | rfl | (simp [errW_none, errW_some] <;> rfl) | (simp only [← hji3]; first | rfl | (simp [errW_none, errW_some] <;> rfl)) | (simp [*, errW_none, errW_some] <;> rfl) | (simp [nen, een]; done), bq⟩
 refine bTq ?_; refine siq ?_; rintro rfl; go_wp2; go_ret; exact ⟨by first | rfl | (simp [errW_none, errW_some] <;> rfl) | (simp only [← hji3]; first | rfl | (simp [errW_none, errW_some] <;> rfl)) | (simp [*, errW_none, errW_some] <;> rfl) | (simp [nen, een]; done), bq⟩
end Go.Proofs.YtopcpbokfngpeaaGreatDoor.Lh
set_option maxHeartbeats 8000000
set_option maxRecDepth 100000
namespace Go.Proofs.YtopcpbokfngpeaaGreatDoor.Lh
open Go.RowKit Go.Proofs.YtopcpbokfngpeaaGreatDoor.H Go.Proofs.YtopcpbokfngpeaaGreatDoorW.PrintWords Go.Proofs.YtopcpbokfngpeaaGreatDoorW.PrintLast Go.Proofs.YtopcpbokfngpeaaGreatDoorW.PrintMore Go.Proofs.YtopcpbokfngpeaaGreatDoor.Lp
attribute [local go_sem] max2_int min2_int max_two min_two max_three min_three max_four min_four   -- for this text's walks alone
set_option linter.unusedVariables false
set_option linter.unusedSimpArgs false
end Go.Proofs.YtopcpbokfngpeaaGreatDoor.Lh
