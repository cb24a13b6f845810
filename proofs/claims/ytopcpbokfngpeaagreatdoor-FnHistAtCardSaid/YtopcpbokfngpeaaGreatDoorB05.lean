/- Texts of this claim, joined: Lpx1, Lpx2, HWay, HSp, Lhx0, Lhx1. Conditions: each theorem's own. -/
import Derived.Test.YtopcpbokfngpeaaGreatDoorB02
import Derived.Test.YtopcpbokfngpeaaGreatDoorB04
import Derived.Test.YtopcpbokfngpeaaGreatDoorB03
import Derived.Tactics
import Derived.KernelRfl
import Derived.RowKit3
import Derived.Deep.LoopGhost
import Derived.Laws.Slices
import Derived.Laws.Rows
import Derived.RowKit
import Derived.Outline
import Derived.Lib.Hide
import Derived.WalkSmall
import Derived.Laws.BitsLemmas
import Derived.Test.YtopcpbokfngpeaaGreatDoorProg
import Derived.Below
import Derived.Deep.Draws
import Derived.Deep.AppendLies
import Derived.Maps.AppendAt
import Derived.OwnWalk
import Derived.Laws.BytesArg
import Derived.Laws.MakeOwn
import Derived.Laws.OwnMore
import Derived.Deep.OwnRows
import Derived.Lib.ConvBytes
import Derived.WalkKit
import Derived.Deep.QuietTactic
import Derived.BigQuiet
import Derived.WideLaws
import Derived.Deep.DeepCutAuto
import Derived.Deep.CutBlock
import Derived.Deep.RegionHeld3
import Derived.Lib.AppendStr
import Derived.ArgAppend
import Derived.Laws.IdiomCopy
import Derived.OrdersHeld
import Derived.Test.YtopcpbokfngpeaaGreatDoorB01
set_option maxHeartbeats 8000000
set_option maxRecDepth 100000
namespace Go.Proofs.YtopcpbokfngpeaaGreatDoor.Lp
open Go.RowKit Go.Proofs.YtopcpbokfngpeaaGreatDoor.H Go.Proofs.YtopcpbokfngpeaaGreatDoorW.PrintWords Go.Proofs.YtopcpbokfngpeaaGreatDoorW.PrintLast Go.Proofs.YtopcpbokfngpeaaGreatDoorW.PrintMore
attribute [local go_sem] max2_int min2_int max_two min_two max_three min_three max_four min_four   -- for this text's walks alone
set_option linter.unusedVariables false
set_option linter.unusedSimpArgs false
def spec_l1Cut.l0 : Nat → ByteArray → Int → List ByteArray → Int → Int → Option (List ByteArray)
 | 0, _, _, _, _, _ => none
 | k + 1, x0, x1, x5, x6, x7 => if x7 < (x0.size : Int) then (if 0 ≤ x7 then (if (bt x0 x7) = x1 then (if 0 ≤ x6 then (if x6 ≤ x7 then (if x7 ≤ (x0.size : Int) then (if x5.length < 8796093022208 then (spec_l1Cut.l0 k x0 x1 (x5 ++ [x0.extract (x6 : Int).toNat (x7 : Int).toNat]) (wrap64 (x7 + 1)) (wrap64 (x7 + 1))) else (none)) else (none)) else (none)) else (none)) else (spec_l1Cut.l0 k x0 x1 x5 x6 (wrap64 (x7 + 1)))) else (none)) else (if 0 ≤ x6 then (if x6 ≤ (x0.size : Int) then (if x5.length < 8796093022208 then (some (x5 ++ [x0.extract (x6 : Int).toNat x0.size])) else (none)) else (none)) else (none))
def spec_l1Cut.f (k : Nat) (a0 : ByteArray) (a1 : Int) : Option (List ByteArray) := spec_l1Cut.l0 k a0 a1 (([] : List ByteArray)) 0 0
theorem spec_l1Cut.mono_l : ∀ k, (∀ y0 y1 y2 y3 y4, LeO (spec_l1Cut.l0 k y0 y1 y2 y3 y4) (spec_l1Cut.l0 (k + 1) y0 y1 y2 y3 y4))
 | 0 => fun _ _ _ _ _ => LeO.none _
 | k + 1 => by
  have ih0 := spec_l1Cut.mono_l k
  exact (fun _ _ _ _ _ => by unfold spec_l1Cut.l0; exact lq)
theorem spec_l1Cut.mono : ∀ a0 a1 k, LeO (spec_l1Cut.f k a0 a1) (spec_l1Cut.f (k + 1) a0 a1) := by
 intro a0 a1 k; have ih0 := spec_l1Cut.mono_l k; unfold spec_l1Cut.f; exact lq
theorem spec_l1Cut.calls (k : Nat) (a0 : ByteArray) (a1 : Int) (r : List ByteArray) (w : World) (h : spec_l1Cut.f k a0 a1 = some r) :
  Calls Tryz.prog 113 #[.string a0, .int .u8 a1] w fun e w' => ∃ v0_ : Value, e = .returned (v0_) ∧ Kd.R Kd.string 9 w' w.heap.size (fun _ => True) v0_ r ∧ Below w.heap.size w w' := by
 have HB := Aside0.mk (Below.refl w.heap.size w); unfold spec_l1Cut.f at h; revert h; intro H; obtain ⟨y101, hy101⟩ : ∃ y_ : List ByteArray, y_ = (([] : List ByteArray)) := ⟨_, rfl⟩; replace H : (spec_l1Cut.l0 k a0 a1 y101 0 0) = some r := by first | (rw [hy101]; with_reducible exact H) | (have H2_ := (Option.bind_some _ _).symm.trans H; rw [hy101]; with_reducible exact H2_) | (have H2_ := (Option.bind_some _ _).symm.trans H; with_reducible exact H2_) | with_reducible exact H | (rw [hy101]; exact H) | exact H
 have Ny101 := Aside0.mk hy101; clear hy101; have H' := Aside0.mk H; clear H; go_enter Tryz.func113, Tryz.ntmps113; go_wp2_with (first | ((with_reducible refine gate_dst (N := 8) rfl ?_); refine Kd.R_lit Kd.string _ 9 ?hg (N := 8) ?hd (xs := ([] : List ByteArray)) (inner := []) (ok := fun _ => True) (okp := fun _ => True) ?hr ?hp (fun _ hk => hk) trivial (Below.refl _ _) (Nat.le_refl _) (by simp) ?_; (case hd => rfl); (case hg => rfl); (case hr => first | (go_simp; done) | (go_simp; rfl)); (case hp => exact (Reps.none _ _)); intro v102 w3 ho4 hb hg_ hnew_; clear hg_ hnew_; (first | rw [← Ny101.out] at ho4 | (simp only [Int.reduceToNat] at ho4; rw [← Ny101.out] at ho4)); have HO103 := rlq (w := w) ho4; replace HB := Aside0.mk (below_step bq hb); clear hb ho4)); go_loopg [5, 6, 7] k (fun kq v5 v6 v7 w' => ∃ (x5_1 : List ByteArray) (x6_1 : Int) (x7_1 : Int), v6 = .int .i64 x6_1 ∧ v7 = .int .i64 x7_1 ∧ Aside0 (spec_l1Cut.l0 kq a0 a1 x5_1 x6_1 x7_1 = some r) ∧ Aside0 (kq ≤ k) ∧ Aside0 (Kd.R Kd.string 9 w' w.heap.size (fun _ => True) v5 x5_1) ∧ Aside0 (Below w.heap.size w w')); case atStart => exact ⟨(y101), (0), (0), vq, vq, H', ⟨oq⟩, ⟨rq⟩, ⟨bq⟩⟩
 clear H'; obtain ⟨x5_1, x6_1, x7_1, rfl, rfl, HA, HK1, HO_5, HB⟩ := hrel; cases gk with | zero => exact zq HA | succ k1 => ?_
 have H := HA.out; clear HA; simp only [spec_l1Cut.l0] at H; revert H; refine iDq (fun c5b0 => ?_) fun c5b0 => ?_
 ·refine iDnq fun c6b0 => ?_; refine iEq (fun c8b0 c8b1 => ?_) fun c8 c8b0 c8b1 => ?_
  ·refine iTnq fun c9b0 c9b1 => ?_; refine iTnq fun c10b0 c10b1 => ?_; refine iTnq fun c11b0 c11b1 => ?_; intro H; by_cases c12 : x5_1.length < 8796093022208
   ·rw [if_pos c12] at H; have LMc12 := Aside0.mk c12; clear c12; obtain ⟨y104, hy104⟩ : ∃ y_ : List ByteArray, y_ = (x5_1 ++ [a0.extract (x6_1 : Int).toNat (x7_1 : Int).toNat]) := ⟨_, rfl⟩; replace H : (spec_l1Cut.l0 k1 a0 a1 y104 (wrap64 (x7_1 + 1)) (wrap64 (x7_1 + 1))) = some r := by first | (rw [hy104]; with_reducible exact H) | (have H2_ := (Option.bind_some _ _).symm.trans H; rw [hy104]; with_reducible exact H2_) | (have H2_ := (Option.bind_some _ _).symm.trans H; with_reducible exact H2_) | with_reducible exact H | (rw [hy104]; exact H) | exact H
    have Ny104 := Aside0.mk hy104; clear hy104; have H' := Aside0.mk H; clear H; obtain ⟨hx7, p7, q7⟩ := btq a0 x7_1; go_wp2_with (first | ((with_reducible refine gate_builtin (b := .append) (xs := #[.tmp 20, .tmp 25]) rfl ?_); at_builtin; refine Kd.R_append Kd.string (w0 := w) w.heap.size rfl (.tmp 20) (.tmp 25) 25 9 (.string ⟨#[]⟩) 16 rfl Tryz.underlying25 info9 rfl (by decide) (by omega) u5 x5_1 (a0.extract (x6_1 : Int).toNat (x7_1 : Int).toNat) [.string (a0.extract (x6_1 : Int).toNat (x7_1 : Int).toNat)] (fun _ => True) (fun _ => False) rfl rfl ?aP (fun _ hk => hk.elim) ?aF ?aO ?aB ?aS ?aL ?_; (case aP => exact rfl); (case aB => exact (bq)); (case aF => exact (fun _ _ => trivial)); (case aO => exact rq); (case aS => exact (below_size (bq))); (case aL => have := LMc12.out; omega); intro v105 w13 ho hb hg hat; rw [← Ny104.out] at ho; have HO106 := Aside0.mk (ho); replace HB := Aside0.mk (hb); clear HO_5; clear ho hb)); go_roundg k1; case measure => exact oq
    case rel => exact ⟨(y104), (wrap64 (x7_1 + 1)), (wrap64 (x7_1 + 1)), vq, vq, H', ⟨oq⟩, ⟨rq⟩, ⟨bq⟩⟩
   ·rw [if_neg c12] at H; exact absurd H (by simp)
  refine ahq fun H' => ?_; obtain ⟨hx7, p7, q7⟩ := btq a0 x7_1; go_wp2; go_roundg k1; case measure => exact oq
  case rel => exact ⟨(x5_1), (x6_1), (wrap64 (x7_1 + 1)), vq, vq, H', ⟨oq⟩, ⟨rq⟩, ⟨bq⟩⟩
 refine iTnq fun c14b0 c14b1 => ?_; refine iTnq fun c15b0 c15b1 => ?_; intro H; by_cases c16 : x5_1.length < 8796093022208
 ·rw [if_pos c16] at H; have LMc16 := Aside0.mk c16; clear c16; obtain ⟨y107, hy107⟩ : ∃ y_ : List ByteArray, y_ = (x5_1 ++ [a0.extract (x6_1 : Int).toNat a0.size]) := ⟨_, rfl⟩; replace H : (some y107) = some r := by first | (rw [hy107]; with_reducible exact H) | (have H2_ := (Option.bind_some _ _).symm.trans H; rw [hy107]; with_reducible exact H2_) | (have H2_ := (Option.bind_some _ _).symm.trans H; with_reducible exact H2_) | with_reducible exact H | (rw [hy107]; exact H) | exact H
  have Ny107 := Aside0.mk hy107; clear hy107; obtain rfl := Option.some.inj H; go_wp2_with (first | ((with_reducible refine gate_builtin (b := .append) (xs := #[.tmp 29, .tmp 33]) rfl ?_); at_builtin; refine Kd.R_append Kd.string (w0 := w) w.heap.size rfl (.tmp 29) (.tmp 33) 25 9 (.string ⟨#[]⟩) 16 rfl Tryz.underlying25 info9 rfl (by decide) (by omega) u5 x5_1 (a0.extract (x6_1 : Int).toNat a0.size) [.string (a0.extract (x6_1 : Int).toNat a0.size)] (fun _ => True) (fun _ => False) rfl rfl ?aP (fun _ hk => hk.elim) ?aF ?aO ?aB ?aS ?aL ?_; (case aP => exact rfl); (case aB => exact (bq)); (case aF => exact (fun _ _ => trivial)); (case aO => exact rq); (case aS => exact (below_size (bq))); (case aL => have := LMc16.out; omega); intro v108 w17 ho hb hg hat; rw [← Ny107.out] at ho; have HO109 := Aside0.mk (ho); replace HB := Aside0.mk (hb); clear HO_5; clear ho hb)); go_ret; exact ⟨_, by first | rfl | (simp [errW_none, errW_some] <;> rfl) | (simp [*, errW_none, errW_some] <;> rfl) | (simp [nen, een]; done), rq, bq⟩
 ·rw [if_neg c16] at H; exact absurd H (by simp)
mutual
def spec_l1Hex.j0 : Nat → Int → Bool → Option (Int)
 | 0, _, _ => none
 | k + 1, x0, x3 => if x3 = true then (some ((x0 - 48) % 256)) else (if x0 ≥ 65 then (spec_l1Hex.j1 k x0 (decide (x0 ≤ 70))) else (spec_l1Hex.j1 k x0 false))
def spec_l1Hex.j1 : Nat → Int → Bool → Option (Int)
 | 0, _, _ => none
 | k + 1, x0, x13 => if x13 = true then (some (((x0 - 65) % 256) + 10)) else (if x0 ≥ 97 then (if x0 ≤ 102 then (some (((x0 - 97) % 256) + 10)) else (some (-1))) else (some (-1)))
end
def spec_l1Hex.f (k : Nat) (a0 : Int) : Option (Int) := if a0 ≥ 48 then (spec_l1Hex.j0 k a0 (decide (a0 ≤ 57))) else (spec_l1Hex.j0 k a0 false)
theorem spec_l1Hex.mono_l : ∀ k, (∀ y0 y1, LeO (spec_l1Hex.j0 k y0 y1) (spec_l1Hex.j0 (k + 1) y0 y1)) ∧ (∀ y0 y1, LeO (spec_l1Hex.j1 k y0 y1) (spec_l1Hex.j1 (k + 1) y0 y1))
 | 0 => ⟨fun _ _ => LeO.none _, fun _ _ => LeO.none _⟩
 | k + 1 => by
  obtain ⟨ih0, ih1⟩ := spec_l1Hex.mono_l k
  exact ⟨fun _ _ => by unfold spec_l1Hex.j0; exact lq, fun _ _ => by unfold spec_l1Hex.j1; exact lq⟩
theorem spec_l1Hex.mono : ∀ a0 k, LeO (spec_l1Hex.f k a0) (spec_l1Hex.f (k + 1) a0) := by
 intro a0 k; obtain ⟨ih0, ih1⟩ := spec_l1Hex.mono_l k; unfold spec_l1Hex.f; exact lq
theorem spec_l1Hex.calls (k : Nat) (a0 : Int) (r : Int) (w : World) (h : spec_l1Hex.f k a0 = some r) :
  Calls Tryz.prog 144 #[.int .u8 a0] w fun e w' => e = .returned (.int .i64 r) ∧ Drawn0 w w' := by
 unfold spec_l1Hex.f at h; revert h; refine ahq fun HC2 => ?_; go_enter Tryz.func144, Tryz.ntmps144; go_upto_region 1 with (fail); go_cut [3] (fun v3 wc => ∃ (kq : Nat) (x3_1 : Bool), v3 = .bool x3_1 ∧ Aside0 (spec_l1Hex.j0 kq a0 x3_1 = some r) ∧ Aside0 (kq ≤ k) ∧ Drawn0 w wc); case first =>
  have H := HC2.out; clear HC2; revert H; refine iDq (fun c3b0 => ?_) fun c3b0 => ?_
  ·intro H; (first | rw [c3b0] | (simp only [i64_w, i32_w]; rw [c3b0]) | skip); have H' := Aside0.mk H; clear H; go_wp2; go_meet; case rel => exact ⟨_, (decide (a0 ≤ 57)), vq, H', ⟨oq⟩, dq⟩
  intro H; (first | rw [c3b0] | (simp only [i64_w, i32_w]; rw [c3b0]) | skip); have H' := Aside0.mk H; clear H; go_wp2; go_meet; case rel => exact ⟨_, (false), vq, H', ⟨oq⟩, dq⟩
 clear HC2; obtain ⟨kq, x3_1, rfl, HA, HJ1, ⟨mc1, rfl⟩⟩ := hcut; cases kq with | zero => exact zq HA | succ kj1 => ?_
 have H := HA.out; clear HA; simp only [spec_l1Hex.j0] at H; revert H; cases x3_1
 ·refine bFq ?_; refine ahq fun HC5 => ?_; go_upto_region 3 with (fail); go_cut [13] (fun v13 wc => ∃ (kq : Nat) (x13_4 : Bool), v13 = .bool x13_4 ∧ Aside0 (spec_l1Hex.j1 kq a0 x13_4 = some r) ∧ Aside0 (kq ≤ kj1) ∧ Drawn0 w wc); case first =>
   have H := HC5.out; clear HC5; revert H; refine iDq (fun c6b0 => ?_) fun c6b0 => ?_
   ·intro H; (first | rw [c6b0] | (simp only [i64_w, i32_w]; rw [c6b0]) | skip); have H' := Aside0.mk H; clear H; go_wp2; go_meet; case rel => exact ⟨_, (decide (a0 ≤ 70)), vq, H', ⟨oq⟩, dq⟩
   intro H; (first | rw [c6b0] | (simp only [i64_w, i32_w]; rw [c6b0]) | skip); have H' := Aside0.mk H; clear H; go_wp2; go_meet; case rel => exact ⟨_, (false), vq, H', ⟨oq⟩, dq⟩
  clear HC5; obtain ⟨kq, x13_4, rfl, HA, HJ4, ⟨mc4, rfl⟩⟩ := hcut; cases kq with | zero => exact zq HA | succ kj4 => ?_
  have H := HA.out; clear HA; simp only [spec_l1Hex.j1] at H; revert H; cases x13_4
  ·refine bFq ?_; refine iDq (fun c8b0 => ?_) fun c8b0 => ?_
   ·refine iDq (fun c9b0 => ?_) fun c9b0 => ?_
    ·refine siq ?_; rintro rfl; go_wp2; go_ret; exact ⟨vq, dq⟩
    refine siq ?_; rintro rfl; go_wp2; go_ret; exact ⟨vq, dq⟩
   refine siq ?_; rintro rfl; go_wp2; go_ret; exact ⟨vq, dq⟩
  refine bTq ?_; refine siq ?_; rintro rfl; go_wp2; go_ret; exact ⟨vq, dq⟩
 refine bTq ?_; refine siq ?_; rintro rfl; go_wp2; go_ret; exact ⟨vq, dq⟩
end Go.Proofs.YtopcpbokfngpeaaGreatDoor.Lp
set_option maxHeartbeats 8000000
set_option maxRecDepth 100000
namespace Go.Proofs.YtopcpbokfngpeaaGreatDoor.Lp
open Go.RowKit Go.Proofs.YtopcpbokfngpeaaGreatDoor.H Go.Proofs.YtopcpbokfngpeaaGreatDoorW.PrintWords Go.Proofs.YtopcpbokfngpeaaGreatDoorW.PrintLast Go.Proofs.YtopcpbokfngpeaaGreatDoorW.PrintMore
attribute [local go_sem] max2_int min2_int max_two min_two max_three min_three max_four min_four   -- for this text's walks alone
set_option linter.unusedVariables false
set_option linter.unusedSimpArgs false
mutual
def spec_Decode.l0 : Nat → ByteArray → List Int → Int → Option (ByteArray)
 | 0, _, _, _ => none
 | k + 1, x0, x3, x4 => if x4 < (x0.size : Int) then (spec_Decode.j1 k x0 x3 x4 (decide ((x0.size : Int) ≤ 600))) else (spec_Decode.j1 k x0 x3 x4 false)
def spec_Decode.j1 : Nat → ByteArray → List Int → Int → Bool → Option (ByteArray)
 | 0, _, _, _, _ => none
 | k + 1, x0, x3, x4, x14 => if x14 = true then (if 0 ≤ x4 then (if x4 < (x0.size : Int) then (if (bt x0 x4) = 37 then (if (wrap64 (x4 + 2)) < (x0.size : Int) then (if 0 ≤ (wrap64 (x4 + 1)) then (if (wrap64 (x4 + 1)) < (x0.size : Int) then ((spec_l1Hex.f k (bt x0 (wrap64 (x4 + 1)))).bind fun t113 => (if t113 ≥ 0 then (if 0 ≤ (wrap64 (x4 + 2)) then ((spec_l1Hex.f k (bt x0 (wrap64 (x4 + 2)))).bind fun t114 => (spec_Decode.j2 k x0 x3 x4 (decide (t114 ≥ 0)))) else (none)) else (spec_Decode.j2 k x0 x3 x4 false))) else (none)) else (none)) else (spec_Decode.j2 k x0 x3 x4 false)) else (spec_Decode.j2 k x0 x3 x4 false)) else (none)) else (none)) else (some (strOfNums x3))
def spec_Decode.j2 : Nat → ByteArray → List Int → Int → Bool → Option (ByteArray)
 | 0, _, _, _, _ => none
 | k + 1, x0, x3, x4, x43 => if x43 = true then (if 0 ≤ (wrap64 (x4 + 1)) then (if (wrap64 (x4 + 1)) < (x0.size : Int) then ((spec_l1Hex.f k (bt x0 (wrap64 (x4 + 1)))).bind fun t115 => (if 0 ≤ (wrap64 (x4 + 2)) then (if (wrap64 (x4 + 2)) < (x0.size : Int) then ((spec_l1Hex.f k (bt x0 (wrap64 (x4 + 2)))).bind fun t116 => (if x3.length < 140737488355328 then (spec_Decode.l0 k x0 (x3 ++ [(wrap64 ((wrap64 (16 * t115)) + t116)) % 256]) (wrap64 ((wrap64 (x4 + 2)) + 1))) else (none))) else (none)) else (none))) else (none)) else (none)) else (if 0 ≤ x4 then (if x4 < (x0.size : Int) then (if x3.length < 140737488355328 then (spec_Decode.l0 k x0 (x3 ++ [bt x0 x4]) (wrap64 (x4 + 1))) else (none)) else (none)) else (none))
end
def spec_Decode.f (k : Nat) (a0 : ByteArray) : Option (ByteArray) := spec_Decode.l0 k a0 (([] : List Int)) 0
theorem spec_Decode.mono_l : ∀ k, (∀ y0 y1 y2, LeO (spec_Decode.l0 k y0 y1 y2) (spec_Decode.l0 (k + 1) y0 y1 y2)) ∧ (∀ y0 y1 y2 y3, LeO (spec_Decode.j1 k y0 y1 y2 y3) (spec_Decode.j1 (k + 1) y0 y1 y2 y3)) ∧ (∀ y0 y1 y2 y3, LeO (spec_Decode.j2 k y0 y1 y2 y3) (spec_Decode.j2 (k + 1) y0 y1 y2 y3))
 | 0 => ⟨fun _ _ _ => LeO.none _, fun _ _ _ _ => LeO.none _, fun _ _ _ _ => LeO.none _⟩
 | k + 1 => by
  obtain ⟨ih0, ih1, ih2⟩ := spec_Decode.mono_l k
  have m0 := @spec_l1Hex.mono
  exact ⟨fun _ _ _ => by unfold spec_Decode.l0; exact lq, fun _ _ _ _ => by unfold spec_Decode.j1; exact lq, fun _ _ _ _ => by unfold spec_Decode.j2; exact lq⟩
theorem spec_Decode.mono : ∀ a0 k, LeO (spec_Decode.f k a0) (spec_Decode.f (k + 1) a0) := by
 intro a0 k; obtain ⟨ih0, ih1, ih2⟩ := spec_Decode.mono_l k; have m0 := @spec_l1Hex.mono; unfold spec_Decode.f; exact lq
def spec_Decode.T6 : Bool × List (List Nat × List Nat) := (true, [([], []), ([], []), ([], []), ([2], [2]), ([1, 3], [1, 3]), ([4], [4]), ([5], [5]), ([], []), ([], []), ([8], [8]), ([7, 9], [7, 9]), ([10, 5], [10]), ([6, 11], [6, 11]), ([12], [12]), ([13], [13]), ([0, 14, 11], [0, 14]), ([15, 15, 0, 1, 2, 3, 4, 5, 6, 7, 8, 9, 10, 11, 12, 13, 14, 15], [0, 15])])
def spec_Decode.B6 : List Nat := [0, 0, 0, 4, 14, 30, 62, 0, 0, 256, 896, 1982, 4094, 8190, 16382, 32767, 65535]
theorem spec_Decode.tab6 : rtab .any (opsOf Tryz.f117 6) = spec_Decode.T6 := by kernel_rfl
theorem spec_Decode.bits6 : waitsOk spec_Decode.T6.2 spec_Decode.B6 = true := by kernel_rfl
theorem spec_Decode.calls (k : Nat) (a0 : ByteArray) (r : ByteArray) (w : World) (h : spec_Decode.f k a0 = some r) :
  Calls Tryz.prog 117 #[.string a0] w fun e w' => e = .returned (.string r) ∧ Below w.heap.size w w' := by
 have HB := Aside0.mk (Below.refl w.heap.size w); unfold spec_Decode.f at h; revert h; intro H; obtain ⟨y110, hy110⟩ : ∃ y_ : List Int, y_ = (([] : List Int)) := ⟨_, rfl⟩; replace H : (spec_Decode.l0 k a0 y110 0) = some r := by first | (rw [hy110]; with_reducible exact H) | (have H2_ := (Option.bind_some _ _).symm.trans H; rw [hy110]; with_reducible exact H2_) | (have H2_ := (Option.bind_some _ _).symm.trans H; with_reducible exact H2_) | with_reducible exact H | (rw [hy110]; exact H) | exact H
 have Ny110 := Aside0.mk hy110; clear hy110; have H' := Aside0.mk H; clear H; go_enter Tryz.func117, Tryz.ntmps117; go_wp2_with (first | ((with_reducible refine gate_dst (N := 5) rfl ?_); (try (refine gate_guard (by rfl) ?_; dsimp only)); refine Kd.R_lit (Kd.int .u8) _ 5 ?hg (N := 5) ?hd (xs := ([] : List Int)) (inner := []) (ok := fun _ => True) (okp := fun _ => True) ?hr ?hp (fun _ hk => hk) trivial (Below.refl _ _) (Nat.le_refl _) (by simp) ?_; (case hd => rfl); (case hg => rfl); (case hr => first | (go_simp; done) | (go_simp; rfl)); (case hp => exact (Reps.none _ _)); intro v111 w2 ho3 hb hg_ hnew_; clear hg_ hnew_; (first | rw [← Ny110.out] at ho3 | (simp only [Int.reduceToNat] at ho3; rw [← Ny110.out] at ho3)); have HO112 := rlq (w := w) ho3; replace HB := Aside0.mk (below_step bq hb); clear hb ho3)); go_loopg [3, 4] k (fun kq v3 v4 w' => ∃ (x3_1 : List Int) (x4_1 : Int), v4 = .int .i64 x4_1 ∧ Aside0 (spec_Decode.l0 kq a0 x3_1 x4_1 = some r) ∧ Aside0 (kq ≤ k) ∧ Aside0 (Kd.R (Kd.int .u8) 5 w' w.heap.size (fun _ => True) v3 x3_1) ∧ Aside0 (Below w.heap.size w w')); case atStart => exact ⟨(y110), (0), vq, H', ⟨oq⟩, ⟨rq⟩, ⟨bq⟩⟩
 clear H'; obtain ⟨x3_1, x4_1, rfl, HA, HK1, HO_3, HB⟩ := hrel; cases gk with | zero => exact zq HA | succ k1 => ?_
 have H := HA.out; clear HA; simp only [spec_Decode.l0] at H; have HC4 := Aside0.mk H; clear H; go_upto_region 3 with (fail); go_cut [14] (fun v14 wc => ∃ (kq : Nat) (x14_3 : Bool), v14 = .bool x14_3 ∧ Aside0 (spec_Decode.j1 kq a0 x3_1 x4_1 x14_3 = some r) ∧ Aside0 (kq ≤ k1) ∧ Aside0 (Kd.R (Kd.int .u8) 5 wc w.heap.size (fun _ => True) u3 x3_1) ∧ Aside0 (Below w.heap.size w wc)); case first =>
  have H := HC4.out; clear HC4; revert H; refine iDq (fun c5b0 => ?_) fun c5b0 => ?_
  ·intro H; (first | rw [c5b0] | (simp only [i64_w, i32_w]; rw [c5b0]) | skip); have H' := Aside0.mk H; clear H; go_wp2; go_meet; case rel => exact ⟨_, (decide ((a0.size : Int) ≤ 600)), vq, H', ⟨oq⟩, ⟨rq⟩, ⟨bq⟩⟩
  intro H; (first | rw [c5b0] | (simp only [i64_w, i32_w]; rw [c5b0]) | skip); have H' := Aside0.mk H; clear H; go_wp2; go_meet; case rel => exact ⟨_, (false), vq, H', ⟨oq⟩, ⟨rq⟩, ⟨bq⟩⟩
 clear HC4; obtain ⟨kq, x14_3, rfl, HA, HJ3, HO_3, HB⟩ := hcut; cases kq with | zero => exact zq HA | succ kj3 => ?_
 have H := HA.out; clear HA; simp only [spec_Decode.j1] at H; revert H; cases x14_3
 ·refine bFq ?_; refine siq ?_; rintro rfl; have hcv42 := own_string (P := Tryz.prog) Tryz.underlying22 Tryz.underlying5 Tryz.underlying9 (Kd.own_of_R HO_3.out); go_wp2; go_ret; exact ⟨vq, bq⟩
 refine bTq ?_; refine ahq fun HC7 => ?_; go_upto_region 5 with (fail); go_cut [43] (fun v43 wc => ∃ (kq : Nat) (x43_6 : Bool), v43 = .bool x43_6 ∧ Aside0 (spec_Decode.j2 kq a0 x3_1 x4_1 x43_6 = some r) ∧ Aside0 (kq ≤ kj3) ∧ Aside0 (Kd.R (Kd.int .u8) 5 wc w.heap.size (fun _ => True) u3 x3_1) ∧ Aside0 (Below w.heap.size w wc)); case first =>
  have H := HC7.out; clear HC7; revert H; refine iDnq fun c8b0 => ?_; intro H; (first | rw [c8b0] | (simp only [i64_w, i32_w]; rw [c8b0]) | skip); revert H; refine iDnq fun c9b0 => ?_; refine iEq (fun c11b0 c11b1 => ?_) fun c11 c11b0 c11b1 => ?_
  ·refine iDq (fun c12b0 => ?_) fun c12b0 => ?_
   ·intro H; obtain ⟨ji13, hji13⟩ : ∃ j_ : Int, (wrap64 (x4_1 + 1)) = j_ := ⟨_, rfl⟩; (first | rw [hji13] at H | simp only [hji13] at H); have hji13w : (IntKind.i64.wrap (x4_1 + 1)) = ji13 := (i64_w _).trans hji13; revert H; refine iDnq fun c14b0 => ?_; refine iDnq fun c15b0 => ?_; refine bnq fun t113 A17 => ?_; refine iDq (fun c18b0 => ?_) fun c18b0 => ?_
    ·intro H; obtain ⟨ji19, hji19⟩ : ∃ j_ : Int, (wrap64 (x4_1 + 2)) = j_ := ⟨_, rfl⟩; (first | rw [hji19] at H | simp only [hji19] at H); (try rw [hji19] at c12b0); (try rw [hji19] at A17); have hji19w : (IntKind.i64.wrap (x4_1 + 2)) = ji19 := (i64_w _).trans hji19; revert H; refine iDnq fun c20b0 => ?_; refine bnq fun t114 A22 => ?_; refine ahq fun H' => ?_; obtain ⟨hx10, p10, q10⟩ := btq a0 x4_1; obtain ⟨hx16, p16, q16⟩ := btq a0 (ji13); go_wp2_with (first | (go_at_call 144; (with_reducible refine (spec_l1Hex.calls kj3 (bt a0 (ji13)) t113 _ A17.out).mono ?_); rintro e w' ⟨rfl, ⟨nd, rfl⟩⟩; obtain ⟨hx21, p21, q21⟩ := btq a0 (ji19)) | (go_at_call 144; (with_reducible refine (spec_l1Hex.calls kj3 (bt a0 (ji19)) t114 _ A22.out).mono ?_); rintro e w' ⟨rfl, ⟨nd, rfl⟩⟩)); go_meet; case rel => exact ⟨_, (decide (t114 ≥ 0)), vq, H', ⟨oq⟩, ⟨rq⟩, ⟨bq⟩⟩
    refine ahq fun H' => ?_; obtain ⟨hx10, p10, q10⟩ := btq a0 x4_1; obtain ⟨hx16, p16, q16⟩ := btq a0 (ji13); go_wp2_with (first | (go_at_call 144; (with_reducible refine (spec_l1Hex.calls kj3 (bt a0 (ji13)) t113 _ A17.out).mono ?_); rintro e w' ⟨rfl, ⟨nd, rfl⟩⟩)); go_meet; case rel => exact ⟨_, (false), vq, H', ⟨oq⟩, ⟨rq⟩, ⟨bq⟩⟩
   refine ahq fun H' => ?_; obtain ⟨hx10, p10, q10⟩ := btq a0 x4_1; go_wp2; go_meet; case rel => exact ⟨_, (false), vq, H', ⟨oq⟩, ⟨rq⟩, ⟨bq⟩⟩
  refine ahq fun H' => ?_; obtain ⟨hx10, p10, q10⟩ := btq a0 x4_1; go_wp2; go_meet; case rel => exact ⟨_, (false), vq, H', ⟨oq⟩, ⟨rq⟩, ⟨bq⟩⟩
 clear HC7; obtain ⟨kq, x43_6, rfl, HA, HJ6, HO_3, HB⟩ := hcut; cases kq with | zero => exact zq HA | succ kj6 => ?_
 have H := HA.out; clear HA; simp only [spec_Decode.j2] at H; revert H; cases x43_6
 ·refine bFq ?_; refine iDnq fun c37b0 => ?_; refine iDnq fun c38b0 => ?_; intro H; by_cases c40 : x3_1.length < 140737488355328
  ·rw [if_pos c40] at H; have LMc40 := Aside0.mk c40; clear c40; obtain ⟨y120, hy120⟩ : ∃ y_ : List Int, y_ = (x3_1 ++ [bt a0 x4_1]) := ⟨_, rfl⟩; replace H : (spec_Decode.l0 kj6 a0 y120 (wrap64 (x4_1 + 1))) = some r := by first | (rw [hy120]; with_reducible exact H) | (have H2_ := (Option.bind_some _ _).symm.trans H; rw [hy120]; with_reducible exact H2_) | (have H2_ := (Option.bind_some _ _).symm.trans H; with_reducible exact H2_) | with_reducible exact H | (rw [hy120]; exact H) | exact H
   have Ny120 := Aside0.mk hy120; clear hy120; have H' := Aside0.mk H; clear H; obtain ⟨hx39, p39, q39⟩ := btq a0 x4_1; go_wp2_with (first | ((with_reducible refine gate_builtin (b := .append) (xs := #[.tmp 62, .tmp 66]) rfl ?_); (try (refine gate_guard (by rfl) ?_; dsimp only)); at_builtin; refine Kd.R_append (Kd.int .u8) (w0 := w) w.heap.size rfl (.tmp 62) (.tmp 66) 22 5 (.int .u8 0) 1 rfl Tryz.underlying22 info5 rfl (by decide) (by omega) u3 x3_1 (bt a0 x4_1) [.int .u8 (bt a0 x4_1)] (fun _ => True) (fun _ => False) rfl rfl ?aP (fun _ hk => hk.elim) ?aF ?aO ?aB ?aS ?aL ?_; (case aP => exact rfl); (case aB => exact (bq)); (case aF => exact (fun _ _ => trivial)); (case aO => exact rq); (case aS => exact (below_size (bq))); (case aL => have := LMc40.out; omega); intro v121 w41 ho hb hg hat; rw [← Ny120.out] at ho; have HO122 := Aside0.mk (ho); replace HB := Aside0.mk (hb); clear HO_3; clear ho hb)); go_roundg kj6; case measure => exact oq
   case rel => exact ⟨(y120), (wrap64 (x4_1 + 1)), vq, H', ⟨oq⟩, ⟨rq⟩, ⟨bq⟩⟩
  ·rw [if_neg c40] at H; exact absurd H (by simp)
 refine bTq ?_; intro H; obtain ⟨ji24, hji24⟩ : ∃ j_ : Int, (wrap64 (x4_1 + 1)) = j_ := ⟨_, rfl⟩; (first | rw [hji24] at H | simp only [hji24] at H); have hji24w : (IntKind.i64.wrap (x4_1 + 1)) = ji24 := (i64_w _).trans hji24; revert H; refine iDnq fun c25b0 => ?_; refine iDnq fun c26b0 => ?_; refine bnq fun t115 A28 => ?_; intro H; obtain ⟨ji29, hji29⟩ : ∃ j_ : Int, (wrap64 (x4_1 + 2)) = j_ := ⟨_, rfl⟩; (first | rw [hji29] at H | simp only [hji29] at H); (try rw [hji29] at A28); have hji29w : (IntKind.i64.wrap (x4_1 + 2)) = ji29 := (i64_w _).trans hji29; revert H; refine iDnq fun c30b0 => ?_; refine iDnq fun c31b0 => ?_; refine bnq fun t116 A33 => ?_; intro H; by_cases c34 : x3_1.length < 140737488355328
 ·rw [if_pos c34] at H; have LMc34 := Aside0.mk c34; clear c34; obtain ⟨y117, hy117⟩ : ∃ y_ : List Int, y_ = (x3_1 ++ [(wrap64 ((wrap64 (16 * t115)) + t116)) % 256]) := ⟨_, rfl⟩; replace H : (spec_Decode.l0 kj6 a0 y117 (wrap64 ((ji29) + 1))) = some r := by first | (rw [hy117]; with_reducible exact H) | (have H2_ := (Option.bind_some _ _).symm.trans H; rw [hy117]; with_reducible exact H2_) | (have H2_ := (Option.bind_some _ _).symm.trans H; with_reducible exact H2_) | with_reducible exact H | (rw [hy117]; exact H) | exact H
  have Ny117 := Aside0.mk hy117; clear hy117; have H' := Aside0.mk H; clear H; try go_wp2
  replace HO_3 := Aside0.mk (Kd.R_drew HO_3.out); replace HB := Aside0.mk (below_drew1 HB.out); obtain ⟨hx27, p27, q27⟩ := btq a0 (ji24); obtain ⟨hx32, p32, q32⟩ := btq a0 (ji29); refine start_ (n := 17) (S := fun w' => True) (ds := []) #[false,false,false,false,false,false,false,false,false,false,false,false,false,false,false,false,false] (by kernel_rfl) rfl rfl trivial (fun hHeld => ?_); refine with_tabW spec_Decode.tab6 spec_Decode.bits6 (fun HT_ HW_ => ?_); generalize wc.drew = w35 at HO_3 HB hHeld ⊢; refine pure_ (i := 0) (N := some 44) (v := ?_) (a' := ?_) #[true,false,false,false,false,false,false,false,false,false,false,false,false,false,false,false,false] rfl rfl (any_of HT_.out (by kernel_rfl)) (fun _ _ _ h => h) (Or.inl ⟨by rfl, ?_⟩) ?_ ?_; rotate_left
  ·intro w'; go_simp; with_reducible rfl
  rotate_left
  ·simp only [Act.put, List.setIfInBounds_toArray, List.set_cons_zero, List.set_cons_succ, i64_w, i32_w]; rfl
  refine pure_ (i := 1) (N := some 45) (v := ?_) (a' := ?_) #[true,true,false,false,false,false,false,false,false,false,false,false,false,false,false,false,false] rfl rfl (any_of HT_.out (by kernel_rfl)) (fun _ _ _ h => h) (Or.inl ⟨by rfl, ?_⟩) ?_ ?_; rotate_left
  ·intro w'; go_simp; with_reducible rfl
  rotate_left
  ·simp only [Act.put, List.setIfInBounds_toArray, List.set_cons_zero, List.set_cons_succ, i64_w, i32_w]; rfl
  refine pure_ (i := 2) (N := some 46) (v := ?_) (a' := ?_) #[true,true,true,false,false,false,false,false,false,false,false,false,false,false,false,false,false] rfl rfl (any_of HT_.out (by kernel_rfl)) (fun _ _ _ h => h) (Or.inl ⟨by rfl, ?_⟩) ?_ ?_; rotate_left
  ·intro w'; go_simp; with_reducible rfl
  rotate_left
  ·simp only [Act.put, List.setIfInBounds_toArray, List.set_cons_zero, List.set_cons_succ, i64_w, i32_w]; rfl
  refine pure_ (i := 3) (N := some 47) (v := ?_) (a' := ?_) #[true,true,true,true,false,false,false,false,false,false,false,false,false,false,false,false,false] rfl rfl (any_of HT_.out (by kernel_rfl)) (fun _ _ _ h => h) (Or.inl ⟨by rfl, ?_⟩) ?_ ?_; rotate_left
  ·intro w'; go_simp; with_reducible rfl
  rotate_left
  ·simp only [Act.put, List.setIfInBounds_toArray, List.set_cons_zero, List.set_cons_succ, i64_w, i32_w]; rfl
  refine pure_ (i := 7) (N := some 51) (v := ?_) (a' := ?_) #[true,true,true,true,false,false,false,true,false,false,false,false,false,false,false,false,false] rfl rfl (any_of HT_.out (by kernel_rfl)) (fun _ _ _ h => h) (Or.inl ⟨by rfl, ?_⟩) ?_ ?_; rotate_left
  ·intro w'; go_simp; with_reducible rfl
  rotate_left
  ·simp only [Act.put, List.setIfInBounds_toArray, List.set_cons_zero, List.set_cons_succ, i64_w, i32_w]; rfl
  refine pure_ (i := 8) (N := some 52) (v := ?_) (a' := ?_) #[true,true,true,true,false,false,false,true,true,false,false,false,false,false,false,false,false] rfl rfl (any_of HT_.out (by kernel_rfl)) (fun _ _ _ h => h) (Or.inl ⟨by rfl, ?_⟩) ?_ ?_; rotate_left
  ·intro w'; go_simp; with_reducible rfl
  rotate_left
  ·simp only [Act.put, List.setIfInBounds_toArray, List.set_cons_zero, List.set_cons_succ, i64_w, i32_w]; rfl
  refine pure_ (i := 9) (N := some 53) (v := ?_) (a' := ?_) #[true,true,true,true,false,false,false,true,true,true,false,false,false,false,false,false,false] rfl rfl (any_of HT_.out (by kernel_rfl)) (fun _ _ _ h => h) (Or.inl ⟨by rfl, ?_⟩) ?_ ?_; rotate_left
  ·intro w'; go_simp; with_reducible rfl
  rotate_left
  ·simp only [Act.put, List.setIfInBounds_toArray, List.set_cons_zero, List.set_cons_succ, i64_w, i32_w]; rfl
  refine take_ (i := 4) (N := some 48) (v := ?_) (a' := ?_) #[true,true,true,true,true,false,false,true,true,true,false,false,false,false,false,false,false] rfl rfl (take_ofW HT_.out HW_.out (by kernel_rfl)) (fun _ _ _ h => h) (Or.inl ⟨by rfl, ?_⟩) hHeld ?_ ?_; rotate_left
  ·intro w' _; go_simp; with_reducible rfl
  rotate_left
  ·simp only [Act.put, List.setIfInBounds_toArray, List.set_cons_zero, List.set_cons_succ, i64_w, i32_w]; rfl
  refine take_ (i := 10) (N := some 54) (v := ?_) (a' := ?_) #[true,true,true,true,true,false,false,true,true,true,true,false,false,false,false,false,false] rfl rfl (take_ofW HT_.out HW_.out (by kernel_rfl)) (fun _ _ _ h => h) (Or.inl ⟨by rfl, ?_⟩) hHeld ?_ ?_; rotate_left
  ·intro w' _; go_simp; with_reducible rfl
  rotate_left
  ·simp only [Act.put, List.setIfInBounds_toArray, List.set_cons_zero, List.set_cons_succ, i64_w, i32_w]; rfl
  refine one_ (i := 5) (N := some 49) #[true,true,true,true,true,true,false,true,true,true,true,false,false,false,false,false,false] rfl rfl (one_of HT_.out (by kernel_rfl)) (by decide) (fun K hK => ?_); refine goes_ Tryz.func144 (by kernel_rfl) rfl #[.int .u8 (bt a0 (ji24))] (by rfl) rfl rfl (by (try simp only [List.map_toArray, List.map_cons, List.map_nil]); first | done | (simp only [hji24]; rfl) | rfl | (simp only [List.length_drop, List.length_take]; rfl)) ?_; with_reducible refine (spec_l1Hex.calls kj6 (bt a0 (ji24)) t115 _ A28.out).mono ?_; rintro e w' ⟨rfl, ⟨nd, rfl⟩⟩; refine ⟨_, rfl, ?_⟩; refine hK.out _ _ trivial (fun hHeld => ?_); clear hK K; refine norm_ (a' := ?_) ?_ ?_; rotate_left
  ·show Act.put _ (some 49) _ = _; simp only [Act.put, List.setIfInBounds_toArray, List.set_cons_zero, List.set_cons_succ, i64_w, i32_w]; rfl
  refine pure_ (i := 6) (N := some 50) (v := ?_) (a' := ?_) #[true,true,true,true,true,true,true,true,true,true,true,false,false,false,false,false,false] rfl rfl (any_of HT_.out (by kernel_rfl)) (fun _ _ _ h => h) (Or.inl ⟨by rfl, ?_⟩) ?_ ?_; rotate_left
  ·intro w'; go_simp; with_reducible rfl
  rotate_left
  ·simp only [Act.put, List.setIfInBounds_toArray, List.set_cons_zero, List.set_cons_succ, i64_w, i32_w]; rfl
  refine one_ (i := 11) (N := some 55) #[true,true,true,true,true,true,true,true,true,true,true,true,false,false,false,false,false] rfl rfl (one_of HT_.out (by kernel_rfl)) (by decide) (fun K hK => ?_); refine goes_ Tryz.func144 (by kernel_rfl) rfl #[.int .u8 (bt a0 (ji29))] (by rfl) rfl rfl (by (try simp only [List.map_toArray, List.map_cons, List.map_nil]); first | done | (simp only [hji29]; rfl) | rfl | (simp only [List.length_drop, List.length_take]; rfl)) ?_; with_reducible refine (spec_l1Hex.calls kj6 (bt a0 (ji29)) t116 _ A33.out).mono ?_; rintro e w' ⟨rfl, ⟨nd, rfl⟩⟩; refine ⟨_, rfl, ?_⟩; refine hK.out _ _ trivial (fun hHeld => ?_); clear hK K; refine norm_ (a' := ?_) ?_ ?_; rotate_left
  ·show Act.put _ (some 55) _ = _; simp only [Act.put, List.setIfInBounds_toArray, List.set_cons_zero, List.set_cons_succ, i64_w, i32_w]; rfl
  refine pure_ (i := 12) (N := some 56) (v := ?_) (a' := ?_) #[true,true,true,true,true,true,true,true,true,true,true,true,true,false,false,false,false] rfl rfl (any_of HT_.out (by kernel_rfl)) (fun _ _ _ h => h) (Or.inl ⟨by rfl, ?_⟩) ?_ ?_; rotate_left
  ·intro w'; go_simp; with_reducible rfl
  rotate_left
  ·simp only [Act.put, List.setIfInBounds_toArray, List.set_cons_zero, List.set_cons_succ, i64_w, i32_w]; rfl
  refine pure_ (i := 13) (N := some 57) (v := ?_) (a' := ?_) #[true,true,true,true,true,true,true,true,true,true,true,true,true,true,false,false,false] rfl rfl (any_of HT_.out (by kernel_rfl)) (fun _ _ _ h => h) (Or.inl ⟨by rfl, ?_⟩) ?_ ?_; rotate_left
  ·intro w'; go_simp; with_reducible rfl
  rotate_left
  ·simp only [Act.put, List.setIfInBounds_toArray, List.set_cons_zero, List.set_cons_succ, i64_w, i32_w]; rfl
  refine one_ (i := 14) (N := some 58) #[true,true,true,true,true,true,true,true,true,true,true,true,true,true,true,false,false] rfl rfl (one_of HT_.out (by kernel_rfl)) (by decide) (fun K hK => ?_); refine value_ (w1 := ?_) (v := ?_) (by rfl) rfl ?_ ?_; rotate_left 2
  ·go_simp; constructor
   ·rfl
   ·rfl
  refine hK.out _ _ trivial (fun hHeld => ?_); clear hK K; refine norm_ (a' := ?_) ?_ ?_; rotate_left
  ·show Act.put _ (some 58) _ = _; simp only [Act.put, List.setIfInBounds_toArray, List.set_cons_zero, List.set_cons_succ, i64_w, i32_w]; rfl
  refine one_ (i := 15) (N := some 59) #[true,true,true,true,true,true,true,true,true,true,true,true,true,true,true,true,false] rfl rfl (one_of HT_.out (by kernel_rfl)) (by decide) (fun K hK => ?_); refine Kd.R_append_step (Kd.int .u8) (w0 := w) w.heap.size (by rfl) (.tmp 44) (.tmp 58) 22 5 (.int .u8 0) 1 rfl Tryz.underlying22 info5 rfl (by decide) (by omega) u3 x3_1 ((wrap64 ((wrap64 (16 * t115)) + t116)) % 256) [.int .u8 ((wrap64 ((wrap64 (16 * t115)) + t116)) % 256)] (fun _ => True) (fun _ => False) rfl rfl ?aP (fun _ hk => hk.elim) ?aF ?aO ?aB ?aS ?aL ?_; (case aP => exact rfl); (case aB => exact (bq)); (case aF => exact (fun _ _ => trivial)); (case aO => exact rq); (case aS => exact (below_size (bq))); (case aL => have := LMc34.out; omega); intro v118 w36 ho hb hg hat; rw [← Ny117.out] at ho; have HO119 := Aside0.mk (ho); replace HB := Aside0.mk (hb); clear HO_3; clear ho hb; refine hK.out _ _ trivial (fun hHeld => ?_); clear hK K; refine norm_ (a' := ?_) ?_ ?_; rotate_left
  ·show Act.put _ (some 59) _ = _; simp only [Act.put, List.setIfInBounds_toArray, List.set_cons_zero, List.set_cons_succ, i64_w, i32_w]; rfl
  refine pure_ (i := 16) (N := some 3) (v := ?_) (a' := ?_) #[true,true,true,true,true,true,true,true,true,true,true,true,true,true,true,true,true] rfl rfl (any_of HT_.out (by kernel_rfl)) (fun _ _ _ h => h) (Or.inl ⟨by rfl, ?_⟩) ?_ ?_; rotate_left
  ·intro w'; go_simp; with_reducible rfl
  rotate_left
  ·simp only [Act.put, List.setIfInBounds_toArray, List.set_cons_zero, List.set_cons_succ, i64_w, i32_w]; rfl
  refine done_ (done_of HT_.out (by kernel_rfl)) ?_; try go_wp2
  go_roundg kj6; case measure => exact oq
  case rel => exact ⟨(y117), (wrap64 ((ji29) + 1)), (by first | rfl | (simp; done) | (simp only [← hji29] <;> (first | rfl | simp)) | (simp [*]; done) | (simp [nen, een]; done)), H', ⟨oq⟩, ⟨rq⟩, ⟨bq⟩⟩
 ·rw [if_neg c34] at H; exact absurd H (by simp)
end Go.Proofs.YtopcpbokfngpeaaGreatDoor.Lp
/- Of no program: a path's pieces, walked from the first: a piece is taken, or it stands for its own place, or for one back. No condition. · impl.dots, and impl.walk from no segments: the calls come to the path's segments, for texts of at most 200 bytes; impl.sets reads as its table, internal/bytealg.MaxLen holds some integer. · impl.isSlash, impl.PathGet: the calls come to the path's segments, for every text; impl.sets reads as its table, internal/bytealg.MaxLen holds some integer. -/
namespace Go.Proofs.YtopcpbokfngpeaaGreatDoor.H
open Go.RowKit Go.Proofs.YtopcpbokfngpeaaGreatDoorW.PrintWords Go.Proofs.YtopcpbokfngpeaaGreatDoor.Base
def dotText (s : Bs) : Bs := replA [37, 50, 101] [46] (lower s)
def dotsN (s : Bs) : Int := if dotText s = [46] then 1 else if dotText s = [46, 46] then 2 else 0
def walkS (any : Bs) (out : List Bs) (s : Bs) (last : Bool) : List Bs :=
 if dotsN s = 0 then out ++ [enc any s] else (if dotsN s = 2 ∧ 0 < out.length then out.dropLast else out) ++ (if last then [[]] else [])
def walkL (any : Bs) : List Bs → List Bs → List Bs
 | out, [] => out
 | out, s :: t => walkL any (walkS any out s t.isEmpty) t
theorem walkL_at (any : Bs) (out ps : List Bs) (k : Nat) (h : k < ps.length) : walkL any out (ps.drop k) = walkL any (walkS any out ps[k] (decide (k + 1 = ps.length))) (ps.drop (k + 1)) := by
 rw [List.drop_eq_getElem_cons h, walkL]
 congr 2
 apply bool_eq
 rw [List.isEmpty_iff, List.drop_eq_nil_iff]
 simp; omega
theorem walkS_last (any : Bs) (out : List Bs) (s : Bs) : 0 < (walkS any out s true).length := by
 unfold walkS
 split <;> simp
theorem walkL_pos (any : Bs) : ∀ (ps out : List Bs), ps ≠ [] → walkL any out ps ≠ []
 | [], _, h => absurd rfl h
 | [s], out, _ => by
  rw [walkL, walkL]
  have := walkS_last any out s
  intro q
  have e : ([] : List Bs).isEmpty = true := rfl
  rw [e] at q
  rw [q] at this; simp at this
 | s :: a :: t, out, _ => by rw [walkL]; exact walkL_pos any (a :: t) _ (by simp)
def isSl (c : UInt8) : Bool := c == 47 || c == 92
def offSlash (l : Bs) : Bs := match l with
 | [] => []
 | c :: t => if isSl c = true then t else c :: t
theorem offSlash_len (l : Bs) : (offSlash l).length ≤ l.length := by
 cases l with
 | nil => exact Nat.le_refl _
 | cons c t =>
  show (if isSl c = true then t else c :: t).length ≤ t.length + 1
  split <;> simp
def pieces (l : Bs) : List Bs := splitC 47 (swapC 92 47 l)
def pathB (any l : Bs) : List Bs := if l.length ≤ 200 then walkL any [] (pieces (offSlash l)) else []
end Go.Proofs.YtopcpbokfngpeaaGreatDoor.H
set_option linter.unusedVariables false
namespace Go.Proofs.YtopcpbokfngpeaaGreatDoor.H
open Go.RowKit Go.Proofs.YtopcpbokfngpeaaGreatDoorW.PrintWords Go.Proofs.YtopcpbokfngpeaaGreatDoor.Base
theorem repl_walk (a b l : Bs) (w : World) (hT : TabM w) (hl : l.length < 4294967281) (ha : 1 ≤ a.length) (hb : b.length ≤ a.length) :
  Calls Tryz.prog 160 #[.string (B l), .string (B a), .string (B b)] w fun e w' => e = .returned (.string (B (replA a b l))) ∧ Below w.heap.size w w' := by
 refine strings_ReplaceAll.calls (B l) (B a) (B b) _ w hT ?_
 unfold strings_ReplaceAll.f
 rw [if_pos ⟨by simpa using hl, by simpa using ha, by simpa using hb⟩, B_data, B_data, B_data]
theorem str_ne {a b : Bs} (h : a ≠ b) : (a == b) = false := by simpa using h
set_option maxHeartbeats 1000000 in
set_option maxRecDepth 100000 in
theorem dots_walk (s : Bs) (w : World) (hT : TabM w) (hs : s.length ≤ 1000000) :
  Calls Tryz.prog 161 #[.string (B s)] w fun e w' => e = .returned (.int .i64 (dotsN s)) ∧ Below w.heap.size w w' := by
 have hll : (lower s).length = s.length := by simp [lower]
 have hd : dotsN s = if dotText s = [46] then 1 else if dotText s = [46, 46] then 2 else 0 := rfl
 have H1 := Lib.hid (lower_walk s w (by omega))
 have H2 : Hid (∀ w1 : World, TabM w1 → Calls Tryz.prog 160 #[.string (B (lower s)), .string (B [37, 50, 101]), .string (B [46])] w1 fun e w' => e = .returned (.string (B (dotText s))) ∧ Below w1.heap.size w1 w') := Lib.hid fun w1 h => repl_walk [37, 50, 101] [46] (lower s) w1 h (by omega) (by decide) (by decide)
 clear hll
 go_enter Tryz.func161, Tryz.ntmps161
 go_wp2_with fail
 refine H1.out.mono ?_
 rintro e w1 ⟨rfl, hb1⟩
 go_wp2_with fail
 refine (H2.out _ (hT.below hb1)).mono ?_
 rintro e w2 ⟨rfl, hb2⟩
 have hb := below_then hb1 hb1.size hb2
 have HB := Lib.hid hb
 clear hb hb1 hb2 H1 H2 hT
 generalize dotText s = x at hd ⊢
 by_cases c1 : x = [46]
 ·rw [if_pos c1] at hd
  have HD := Lib.hid hd
  clear hd
  subst c1
  go_wp2
  go_ret
  exact ⟨by rw [HD.out]; rfl, HB.out⟩
 ·rw [if_neg c1] at hd
  have c1b := str_ne c1
  by_cases c2 : x = [46, 46]
  ·rw [if_pos c2] at hd
   have HD := Lib.hid hd
   clear hd c1 c1b
   subst c2
   go_wp2
   go_ret
   exact ⟨by rw [HD.out]; rfl, HB.out⟩
  ·rw [if_neg c2] at hd
   have c2b := str_ne c2
   have HD := Lib.hid hd
   clear hd c1 c2
   go_wp2
   go_ret
   exact ⟨by rw [HD.out]; rfl, HB.out⟩
theorem infoStr : (Tryz.prog.info? 9).map (fun i => (i.zero, i.size, i.bytes)) = some (some (.string ⟨#[]⟩), 1, 16) := by kernel_rfl
theorem own_form {w : World} {base : Nat} {e : TypeId} {size : Nat} {v : Value} {n : Nat} {xs : List Value} (h : w.ownsRow base e size v n xs) : ∃ A cap, v = .slice A n cap ∧ n ≤ cap := by
 rcases h.2 with ⟨rfl, rfl⟩ | ⟨g, cap, cur, rfl, _, _, hn, _⟩
 ·exact ⟨none, 0, rfl, Nat.le_refl _⟩
 ·exact ⟨_, cap, rfl, hn⟩
theorem strV_snoc (ps : List Bs) (s : Bs) : strV (ps ++ [s]) = strV ps ++ [.string (B s)] := by simp [strV]
set_option maxHeartbeats 4000000 in
set_option maxRecDepth 100000 in
theorem walk_walk (l : Bs) (w : World) (hS : TabS w) (hM : TabM w) (hl : l.length ≤ 200) :
  Calls Tryz.prog 135 #[.slice none 0 0, .string (B l)] w fun e w' => ∃ v', e = .returned v' ∧ QRow w' w.heap.size 9 1 v' (walkL (setI 1) [] (pieces l)).length (strV (walkL (setI 1) [] (pieces l))) ∧ Below w.heap.size w w' := by
 obtain ⟨i0, hi, hz0, hz1, hz2⟩ := info_parts infoStr
 have H1 : Hid (∀ w1 : World, TabM w1 → Calls Tryz.prog 160 #[.string (B l), .string (B [92]), .string (B [47])] w1 fun e w' => e = .returned (.string (B (swapC 92 47 l))) ∧ Below w1.heap.size w1 w') := Lib.hid fun w1 h => by
  have := repl_walk [92] [47] l w1 h (by omega) (by decide) (by decide)
  rw [replA_one] at this; exact this
 have H2 : Hid (∀ w1 : World, TabM w1 → Calls Tryz.prog 109 #[.string (B (swapC 92 47 l)), .string (B [47])] w1 fun e w' => e = .returned (.slice (some ⟨w1.heap.size, 0, none⟩) (pieces l).length (pieces l).length) ∧
   (∀ j (h : j < (pieces l).length), w'.cell? ⟨w1.heap.size, j, none⟩ = some (.string (B (pieces l)[j]))) ∧ w1.heap.size < w'.heap.size ∧ Below w1.heap.size w1 w') := Lib.hid fun w1 h => splitCells 47 (swapC 92 47 l) w1 h (by rw [swapC_length]; omega)
 have hpl : ∀ s ∈ pieces l, s.length ≤ 200 := fun s hs => by
  have := splitC_each 47 (swapC 92 47 l) s hs
  rw [swapC_length] at this; omega
 have hpn : (pieces l).length ≤ 201 := by
  have h1 := splitC_length 47 (swapC 92 47 l)
  have h2 := List.count_le_length (a := (47 : UInt8)) (l := swapC 92 47 l)
  rw [swapC_length] at h2
  unfold pieces; omega
 have hpz : pieces l ≠ [] := splitC_ne _ _
 generalize pieces l = ps at H2 hpl hpn hpz ⊢
 have hres := walkL_pos (setI 1) ps [] hpz
 generalize hany : setI 1 = any at hres ⊢
 go_enter Tryz.func135, Tryz.ntmps135
 go_wp2_with fail
 refine (clone_nil_walk _).mono ?_
 rintro e w1 ⟨rfl, hw1⟩
 subst w1
 go_wp2_with fail
 refine (H1.out _ hM).mono ?_
 rintro e w2 ⟨rfl, hb2⟩
 go_wp2_with fail
 refine (H2.out _ (hM.below hb2)).mono ?_
 rintro e w3 ⟨rfl, hcells, hlt3, hb3⟩
 have hb03 : Below w.heap.size w w3 := below_then hb2 hb2.size hb3
 have hS3 := hS.below hb03
 have hM3 := hM.below hb03
 have hw3 : w.heap.size ≤ w3.heap.size := hb03.size
 have HC := Lib.hid hcells
 have HRES := Lib.hid hres
 have HANY := Lib.hid hany
 clear hcells H1 H2 hS hM hb2 hb3 hres hpz hany
 generalize w2.heap.size = b2 at HC hlt3 ⊢
 go_wp2
 go_loopw [5, 17] (fun v i wr => ∃ (k : Nat) (out : List Bs), k ≤ ps.length ∧ i = .int .i64 k ∧ out.length ≤ k ∧ Hid (walkL any out (ps.drop k) = walkL any [] ps) ∧ wr.ownsRow w3.heap.size 9 1 v out.length (strV out) ∧ Below w3.heap.size w3 wr) (fun _ i _ => ps.length - (intOf i).toNat)
 case atStart => exact ⟨0, [], by omega, rfl, by simp, Lib.hid (by simp), World.ownsRow_nil _ _ _ _, Below.refl _ _⟩
 case round =>
  obtain ⟨k, out, hk, rfl, ho, HE, hown, hb⟩ := hrel
  obtain ⟨A0, cap, rfl, hcap⟩ := own_form hown
  by_cases hlt : k < ps.length
  ·have hc : wr.cell? ⟨b2, k, none⟩ = some (.string (B ps[k])) := (hb.cell (p := ⟨b2, k, none⟩) hlt3).trans (HC.out k hlt)
   have hsl := hpl ps[k] (List.getElem_mem hlt)
   have hstep := walkL_at any out ps k hlt
   have HS := Lib.hid hstep
   clear hstep
   go_wp2_with fail
   refine (dots_walk ps[k] wr (hM3.below hb) (by omega)).mono ?_
   rintro e w4 ⟨rfl, hb4⟩
   have hb5 : Below w3.heap.size w3 w4 := below_then hb hb.size hb4
   have hown4 := own_below hown hb4
   have hw4 : w3.heap.size ≤ w4.heap.size := hb5.size
   clear hb hown hb4 hc
   have hdef : walkS any out ps[k] (decide (k + 1 = ps.length)) = if dotsN ps[k] = 0 then out ++ [enc any ps[k]] else (if dotsN ps[k] = 2 ∧ 0 < out.length then out.dropLast else out) ++ (if decide (k + 1 = ps.length) = true then [[]] else []) := rfl
   by_cases c0 : dotsN ps[k] = 0
   ·rw [if_pos c0] at hdef
    have HW := Lib.hid hdef
    clear hdef
    rw [c0]
    clear c0
    go_wp2_with fail
    refine (encode_walk 1 ps[k] w4 (hS3.below hb5) (by have := (enc_len (setI 1) ps[k]).2; omega)).mono ?_
    rintro e w5 ⟨rfl, hb6⟩
    have hb7 : Below w3.heap.size w3 w5 := below_then hb5 hw4 hb6
    have hown5 := own_below hown4 hb6
    have hw5 : w3.heap.size ≤ w5.heap.size := hb7.size
    clear hb5 hown4 hb6 hw4
    rw [HANY.out]
    go_wp2_with (at_builtin; refine wpList_append_own _ rfl _ _ 25 rfl w3.heap.size 9 i0 (.string ⟨#[]⟩) 1 16 Tryz.underlying25 hi hz0 hz1 hz2 rfl (by decide) _ _ _ rfl (hown5.alloc _) ⟨w5.heap.size, 0, none⟩ 1 1 [.string (B (enc any ps[k]))] rfl rfl ?c1 ?c2 ?c3 ?c4 ?c5 ?_)
    case c1 =>
     intro j u hj
     match j, hj with
     | 0, hj => simp at hj; subst hj; simp [Addr.add]
    case c2 => intro u hu; simp at hu; subst hu; rfl
    case c3 => unfold maxLen; omega
    case c4 => omega
    case c5 => have := hb7.size; simp; omega
    intro v' w6 hown' hgrow _
    go_wp2
    go_roundw
    case rel =>
     refine ⟨k + 1, out ++ [enc any ps[k]], by omega, by go_num, by simp; omega, Lib.hid ?_, ?_, (hb7.alloc (by have := hb7.size; omega) _).grown hgrow (by have := hb7.size; simp; omega) (fun k hk => (hown5.lt k hk).1)⟩
     ·rw [← HE.out, HS.out, HW.out]
     ·rw [strV_snoc, show (out ++ [enc any ps[k]] : List Bs).length = out.length + 1 by simp]; exact hown'
    case measure => simp [intOf]; omega
   ·rw [if_neg c0] at hdef
    have c0b : (dotsN ps[k] == 0) = false := by simpa using c0
    by_cases c2 : dotsN ps[k] = 2
    ·by_cases cp : 0 < out.length
     ·rw [if_pos ⟨c2, cp⟩] at hdef
      have HW0 := Lib.hid hdef
      clear hdef
      rw [c2]
      clear c0 c0b c2
      obtain ⟨z, hz⟩ : ∃ z, out = out.dropLast ++ [z] := ⟨out.getLast (by intro q; rw [q] at cp; simp at cp), (List.dropLast_concat_getLast _).symm⟩
      obtain ⟨o, hoe⟩ : ∃ o, o = out.dropLast := ⟨_, rfl⟩
      rw [← hoe] at hz HW0
      have hol : out.length = o.length + 1 := by rw [hz]; simp
      obtain ⟨g, cg, hv⟩ := Go.Joins.ownsRow_form hown4 cp
      obtain ⟨rfl, rfl⟩ : A0 = some ⟨g, 0, none⟩ ∧ cap = cg := by injection hv with h1 h2 h3; exact ⟨h1, h3⟩
      have hpop : w4.ownsRow w3.heap.size 9 1 (.slice (some ⟨g, 0, none⟩) o.length cap) o.length (strV o) := by
       have h1 : w4.ownsRow w3.heap.size 9 1 (.slice (some ⟨g, 0, none⟩) (o.length + 1) cap) (o.length + 1) (strV o ++ [.string (B z)]) := by
        rw [← strV_snoc, ← hz, ← hol]; exact hown4
       exact ownsRow_pop (by rw [strV_len, Nat.mul_one]) h1
      have HZ := Lib.hid hz
      have HOE := Lib.hid hoe
      clear hz hoe hown4 hv
      have cpb : decide (0 < (out.length : Int)) = true := decide_eq_true (by omega)
      have hwl : IntKind.i64.wrap ((out.length : Int) - 1) = ((o.length : Nat) : Int) := by rw [i64wrap, w64 (by omega) (by omega)]; omega
      have hle : ((o.length : Nat) : Int) ≤ (cap : Int) := by omega
      by_cases cl : k + 1 = ps.length
      ·have clb : ((k : Int) == IntKind.i64.wrap ((ps.length : Int) - 1)) = true := by rw [i64wrap, w64 (by omega) (by omega), beq_iff_eq]; omega
       have clc : ((k : Int) == (ps.length : Int) - 1) = true := by rw [beq_iff_eq]; omega
       have HW : Hid (walkS any out ps[k] (decide (k + 1 = ps.length)) = o ++ [[]]) := Lib.hid (by rw [HW0.out, if_pos (decide_eq_true cl)])
       go_wp2_with (at_builtin; refine wpList_append_own _ rfl _ _ 25 rfl w3.heap.size 9 i0 (.string ⟨#[]⟩) 1 16 Tryz.underlying25 hi hz0 hz1 hz2 rfl (by decide) _ _ _ rfl (hpop.alloc _) ⟨w4.heap.size, 0, none⟩ 1 1 [.string ⟨#[]⟩] rfl rfl ?c1 ?c2 ?c3 ?c4 ?c5 ?_)
       case c1 =>
        intro j u hj
        match j, hj with
        | 0, hj => simp at hj; subst hj; simp [Addr.add]
       case c2 => intro u hu; simp at hu; subst hu; rfl
       case c3 => unfold maxLen; omega
       case c4 => omega
       case c5 => have := hb5.size; simp; omega
       intro v' w6 hown' hgrow _
       go_wp2
       go_roundw
       case rel =>
        refine ⟨k + 1, o ++ [[]], by omega, by go_num, by simp; omega, Lib.hid ?_, ?_, (hb5.alloc (by have := hb5.size; omega) _).grown hgrow (by have := hb5.size; simp; omega) (fun k hk => (hpop.lt k hk).1)⟩
        ·rw [← HE.out, HS.out, HW.out]
        ·rw [strV_snoc, show (o ++ [[]] : List Bs).length = o.length + 1 by simp]; exact hown'
       case measure => simp [intOf]; omega
      ·have clb : ((k : Int) == IntKind.i64.wrap ((ps.length : Int) - 1)) = false := by rw [i64wrap, w64 (by omega) (by omega), beq_eq_false_iff_ne]; omega
       have clc : ((k : Int) == (ps.length : Int) - 1) = false := by rw [beq_eq_false_iff_ne]; omega
       have HW : Hid (walkS any out ps[k] (decide (k + 1 = ps.length)) = o) := Lib.hid (by rw [HW0.out, if_neg (by simpa using cl), List.append_nil])
       go_wp2
       go_roundw
       case rel =>
        refine ⟨k + 1, o, by omega, by go_num, by omega, Lib.hid ?_, hpop, hb5⟩
        rw [← HE.out, HS.out, HW.out]
       case measure => simp [intOf]; omega
     ·rw [if_neg (fun q => cp q.2)] at hdef
      have HW0 := Lib.hid hdef
      clear hdef
      rw [c2]
      clear c0 c0b c2
      have cpb : decide (0 < (out.length : Int)) = false := decide_eq_false (by omega)
      by_cases cl : k + 1 = ps.length
      ·have clb : ((k : Int) == IntKind.i64.wrap ((ps.length : Int) - 1)) = true := by rw [i64wrap, w64 (by omega) (by omega), beq_iff_eq]; omega
       have clc : ((k : Int) == (ps.length : Int) - 1) = true := by rw [beq_iff_eq]; omega
       have HW : Hid (walkS any out ps[k] (decide (k + 1 = ps.length)) = out ++ [[]]) := Lib.hid (by rw [HW0.out, if_pos (decide_eq_true cl)])
       go_wp2_with (at_builtin; refine wpList_append_own _ rfl _ _ 25 rfl w3.heap.size 9 i0 (.string ⟨#[]⟩) 1 16 Tryz.underlying25 hi hz0 hz1 hz2 rfl (by decide) _ _ _ rfl (hown4.alloc _) ⟨w4.heap.size, 0, none⟩ 1 1 [.string ⟨#[]⟩] rfl rfl ?c1 ?c2 ?c3 ?c4 ?c5 ?_)
       case c1 =>
        intro j u hj
        match j, hj with
        | 0, hj => simp at hj; subst hj; simp [Addr.add]
       case c2 => intro u hu; simp at hu; subst hu; rfl
       case c3 => unfold maxLen; omega
       case c4 => omega
       case c5 => have := hb5.size; simp; omega
       intro v' w6 hown' hgrow _
       go_wp2
       go_roundw
       case rel =>
        refine ⟨k + 1, out ++ [[]], by omega, by go_num, by simp; omega, Lib.hid ?_, ?_, (hb5.alloc (by have := hb5.size; omega) _).grown hgrow (by have := hb5.size; simp; omega) (fun k hk => (hown4.lt k hk).1)⟩
        ·rw [← HE.out, HS.out, HW.out]
        ·rw [strV_snoc, show (out ++ [[]] : List Bs).length = out.length + 1 by simp]; exact hown'
       case measure => simp [intOf]; omega
      ·have clb : ((k : Int) == IntKind.i64.wrap ((ps.length : Int) - 1)) = false := by rw [i64wrap, w64 (by omega) (by omega), beq_eq_false_iff_ne]; omega
       have clc : ((k : Int) == (ps.length : Int) - 1) = false := by rw [beq_eq_false_iff_ne]; omega
       have HW : Hid (walkS any out ps[k] (decide (k + 1 = ps.length)) = out) := Lib.hid (by rw [HW0.out, if_neg (by simpa using cl), List.append_nil])
       go_wp2
       go_roundw
       case rel =>
        refine ⟨k + 1, out, by omega, by go_num, by omega, Lib.hid ?_, hown4, hb5⟩
        rw [← HE.out, HS.out, HW.out]
       case measure => simp [intOf]; omega
    ·rw [if_neg (fun q => c2 q.1)] at hdef
     have c2b : (dotsN ps[k] == 2) = false := by simpa using c2
     have HW0 := Lib.hid hdef
     clear hdef c0 c2
     by_cases cl : k + 1 = ps.length
     ·have clb : ((k : Int) == IntKind.i64.wrap ((ps.length : Int) - 1)) = true := by rw [i64wrap, w64 (by omega) (by omega), beq_iff_eq]; omega
      have clc : ((k : Int) == (ps.length : Int) - 1) = true := by rw [beq_iff_eq]; omega
      have HW : Hid (walkS any out ps[k] (decide (k + 1 = ps.length)) = out ++ [[]]) := Lib.hid (by rw [HW0.out, if_pos (decide_eq_true cl)])
      go_wp2_with (at_builtin; refine wpList_append_own _ rfl _ _ 25 rfl w3.heap.size 9 i0 (.string ⟨#[]⟩) 1 16 Tryz.underlying25 hi hz0 hz1 hz2 rfl (by decide) _ _ _ rfl (hown4.alloc _) ⟨w4.heap.size, 0, none⟩ 1 1 [.string ⟨#[]⟩] rfl rfl ?c1 ?c2 ?c3 ?c4 ?c5 ?_)
      case c1 =>
       intro j u hj
       match j, hj with
       | 0, hj => simp at hj; subst hj; simp [Addr.add]
      case c2 => intro u hu; simp at hu; subst hu; rfl
      case c3 => unfold maxLen; omega
      case c4 => omega
      case c5 => have := hb5.size; simp; omega
      intro v' w6 hown' hgrow _
      go_wp2
      go_roundw
      case rel =>
       refine ⟨k + 1, out ++ [[]], by omega, by go_num, by simp; omega, Lib.hid ?_, ?_, (hb5.alloc (by have := hb5.size; omega) _).grown hgrow (by have := hb5.size; simp; omega) (fun k hk => (hown4.lt k hk).1)⟩
       ·rw [← HE.out, HS.out, HW.out]
       ·rw [strV_snoc, show (out ++ [[]] : List Bs).length = out.length + 1 by simp]; exact hown'
      case measure => simp [intOf]; omega
     ·have clb : ((k : Int) == IntKind.i64.wrap ((ps.length : Int) - 1)) = false := by rw [i64wrap, w64 (by omega) (by omega), beq_eq_false_iff_ne]; omega
      have clc : ((k : Int) == (ps.length : Int) - 1) = false := by rw [beq_eq_false_iff_ne]; omega
      have HW : Hid (walkS any out ps[k] (decide (k + 1 = ps.length)) = out) := Lib.hid (by rw [HW0.out, if_neg (by simpa using cl), List.append_nil])
      go_wp2
      go_roundw
      case rel =>
       refine ⟨k + 1, out, by omega, by go_num, by omega, Lib.hid ?_, hown4, hb5⟩
       rw [← HE.out, HS.out, HW.out]
      case measure => simp [intOf]; omega
  ·obtain rfl : k = ps.length := by omega
   have hout : out = walkL any [] ps := by have := HE.out; rw [List.drop_length, walkL] at this; exact this
   have hpos : 0 < out.length := by
    have := HRES.out
    rw [← hout] at this
    exact List.length_pos_iff.2 this
   have HO := Lib.hid hout
   clear hout
   have hwr : w.heap.size ≤ wr.heap.size := Nat.le_trans hw3 hb.size
   have hbw : Below w.heap.size w wr := hb03.trans (hb.mono hw3)
   go_wp2_with fail
   refine (clone_walk w3.heap.size _ out wr hown hpos (by omega)).mono ?_
   rintro e w4 ⟨v', rfl, hq, hb4⟩
   go_wp2
   go_ret
   refine ⟨v', rfl, ?_, below_then hbw hwr hb4⟩
   rw [HO.out] at hq
   exact q_lower hq hwr
end Go.Proofs.YtopcpbokfngpeaaGreatDoor.H
set_option linter.unusedVariables false
namespace Go.Proofs.YtopcpbokfngpeaaGreatDoor.H
open Go.RowKit Go.Proofs.YtopcpbokfngpeaaGreatDoorW.PrintWords Go.Proofs.YtopcpbokfngpeaaGreatDoor.Base
def impl_PathGet.f (a0 : ByteArray) : Option (List ByteArray) := some ((pathB (setI 1) a0.data.toList).map B)
set_option maxHeartbeats 1000000 in
set_option maxRecDepth 100000 in
theorem isSlash_walk (c : UInt8) (w : World) : Calls Tryz.prog 94 #[.int .u8 ((c.toNat : Nat) : Int)] w fun e w' => e = .returned (.bool (isSl c)) ∧ w' = w := by
 by_cases h1 : c = 47
 ·have d1 : (((c.toNat : Nat) : Int) == 47) = true := by rw [h1]; rfl
  have hr : isSl c = true := by rw [h1]; rfl
  rw [hr]; clear hr h1
  go_enter Tryz.func94, Tryz.ntmps94
  go_wp2
  go_ret
  exact ⟨rfl, rfl⟩
 ·have d1 : (((c.toNat : Nat) : Int) == 47) = false := by
   rw [beq_eq_false_iff_ne]; intro e; exact h1 ((byte_eq _ 47 (by decide)).1 e)
  have e1 : (c == 47) = false := by simpa using h1
  by_cases h2 : c = 92
  ·have d2 : (((c.toNat : Nat) : Int) == 92) = true := by rw [h2]; rfl
   have hr : isSl c = true := by rw [h2]; rfl
   rw [hr]; clear hr h1 h2 e1
   go_enter Tryz.func94, Tryz.ntmps94
   go_wp2
   go_ret
   exact ⟨rfl, rfl⟩
  ·have d2 : (((c.toNat : Nat) : Int) == 92) = false := by
    rw [beq_eq_false_iff_ne]; intro e; exact h2 ((byte_eq _ 92 (by decide)).1 e)
   have hr : isSl c = false := by unfold isSl; rw [e1]; simpa using h2
   rw [hr]; clear hr h1 h2 e1
   go_enter Tryz.func94, Tryz.ntmps94
   go_wp2
   go_ret
   exact ⟨rfl, rfl⟩
set_option maxHeartbeats 2000000 in
set_option maxRecDepth 100000 in
theorem pathGet_walk (l : Bs) (w : World) (hS : TabS w) (hM : TabM w) :
  Calls Tryz.prog 99 #[.string (B l)] w fun e w' => ∃ v', e = .returned v' ∧ QRow w' w.heap.size 9 1 v' (pathB (setI 1) l).length (strV (pathB (setI 1) l)) ∧ Below w.heap.size w w' := by
 by_cases hl : l.length ≤ 200
 ·have hp : pathB (setI 1) l = walkL (setI 1) [] (pieces (offSlash l)) := by unfold pathB; rw [if_pos hl]
  rw [hp]; clear hp
  have hol := offSlash_len l
  have hW := walk_walk (offSlash l) w hS hM (by omega)
  generalize walkL (setI 1) [] (pieces (offSlash l)) = r at hW ⊢
  have HW := Lib.hid hW
  clear hW hS hM hol
  have g0 : decide (200 < (l.length : Int)) = false := decide_eq_false (by omega)
  by_cases hz : l = []
  ·subst hz
   have e0 : offSlash [] = [] := rfl
   rw [e0] at HW
   go_enter Tryz.func99, Tryz.ntmps99
   go_wp2_with fail
   refine HW.out.mono ?_
   rintro e w1 ⟨v', rfl, h1, h2⟩
   go_wp2
   go_ret
   exact ⟨v', rfl, h1, h2⟩
  ·have hlt : 0 < l.length := List.length_pos_iff.2 hz
   have hoff : offSlash l = if isSl l[0] = true then l.drop 1 else l := by
    cases l with
    | nil => exact absurd rfl hz
    | cons c t => rfl
   have hs := isSlash_walk l[0]
   have hne : (l != []) = true := by simpa using hz
   have hne3 : l.isEmpty = false := by cases l with
    | nil => exact absurd rfl hz
    | cons c t => rfl
   have HO := Lib.hid hoff
   clear hoff
   go_enter Tryz.func99, Tryz.ntmps99
   go_wp2_with fail
   refine (hs _).mono ?_
   rintro e w1 ⟨rfl, hw1⟩
   subst w1
   cases hc : isSl l[0] with
   | true =>
    have e0 : offSlash l = l.tail := by rw [HO.out, if_pos hc, List.drop_one]
    rw [e0] at HW
    have hx : (B l).extract 1 (B l).size = B (l.drop 1) := by rw [B_extract, B_size, List.take_of_length_le (by simp)]
    have hx2 : (B l).extract 1 l.length = B (l.drop 1) := by rw [B_extract, List.take_of_length_le (by simp)]
    have h1l : (1 : Int) ≤ (l.length : Int) := by omega
    clear hs hc e0
    go_wp2_with fail
    refine HW.out.mono ?_
    rintro e w1 ⟨v', rfl, h1, h2⟩
    go_wp2
    go_ret
    exact ⟨v', rfl, h1, h2⟩
   | false =>
    have e0 : offSlash l = l := by rw [HO.out, if_neg (by rw [hc]; simp)]
    rw [e0] at HW
    clear hs hc e0
    go_wp2_with fail
    refine HW.out.mono ?_
    rintro e w1 ⟨v', rfl, h1, h2⟩
    go_wp2
    go_ret
    exact ⟨v', rfl, h1, h2⟩
 ·have hp : pathB (setI 1) l = [] := by unfold pathB; rw [if_neg hl]
  rw [hp]
  have g0 : decide (200 < (l.length : Int)) = true := decide_eq_true (by omega)
  go_enter Tryz.func99, Tryz.ntmps99
  go_wp2
  go_ret
  exact ⟨_, rfl, q_of_own (World.ownsRow_nil _ _ _ _), Below.refl _ _⟩
theorem impl_PathGet.calls (a0 : ByteArray) (r : List ByteArray) (w : World) (hT : TabSM w) (h : impl_PathGet.f a0 = some r) :
  Calls Tryz.prog 99 #[.string a0] w fun e w' => ∃ v0_ : Value, e = .returned (v0_) ∧ Kd.Q Kd.string 9 w' w.heap.size (fun _ => True) v0_ r ∧ Below w.heap.size w w' := by
 obtain ⟨l, rfl⟩ := exB a0
 unfold impl_PathGet.f at h
 rw [B_data] at h
 obtain rfl := Option.some.inj h
 refine (pathGet_walk l w hT.1 hT.2).mono ?_
 rintro e w' ⟨v, rfl, h1, h2⟩
 exact ⟨v, rfl, Q_of_strs h1, h2⟩
end Go.Proofs.YtopcpbokfngpeaaGreatDoor.H
/- spec.l1Cut and spec.Decode: what their calls come to, for every text of at most 2^42 bytes. · spec.l3Pieces: the call comes to the pieces between slashes of either kind, for every text of at most 2^42 bytes. -/
set_option linter.unusedVariables false
set_option linter.unusedSimpArgs false
namespace Go.Proofs.YtopcpbokfngpeaaGreatDoor.HS
open Go.RowKit Go.Proofs.YtopcpbokfngpeaaGreatDoor.H Go.Proofs.YtopcpbokfngpeaaGreatDoor.Lp Go.Proofs.YtopcpbokfngpeaaGreatDoorW.PrintWords Go.Proofs.YtopcpbokfngpeaaGreatDoorW.PrintLast Go.Proofs.YtopcpbokfngpeaaGreatDoor.Base
theorem spec_hex (c : UInt8) : Ev (fun k => spec_l1Hex.f k ((c.toNat : Nat) : Int)) (hexI c) := by
 have h255 := lt256 c
 unfold spec_l1Hex.f
 have j1 : ∀ b : Bool, (b = decide (65 ≤ c.toNat ∧ c.toNat ≤ 70)) → ¬ (48 ≤ c.toNat ∧ c.toNat ≤ 57) → Ev (fun k => spec_l1Hex.j1 k ((c.toNat : Nat) : Int) b) (hexI c) := by
  intro b hb h0
  refine ev_1 fun k => ?_
  simp only [spec_l1Hex.j1]
  unfold hexI
  rw [if_neg h0]
  by_cases h1 : 65 ≤ c.toNat ∧ c.toNat ≤ 70
  ·rw [hb, if_pos (by simpa using h1), if_neg (by omega), if_pos h1]; congr 1; omega
  ·rw [hb, if_neg (by simpa using h1)]
   by_cases h2 : ((c.toNat : Nat) : Int) ≥ 97
   ·rw [if_pos h2]
    by_cases h3 : ((c.toNat : Nat) : Int) ≤ 102
    ·rw [if_pos h3, if_pos (by omega)]; congr 1; omega
    ·rw [if_neg h3, if_neg (by omega), if_neg h1]
   ·rw [if_neg h2, if_neg (by omega), if_neg h1]
 have j0 : ∀ b : Bool, (b = decide (48 ≤ c.toNat ∧ c.toNat ≤ 57)) → Ev (fun k => spec_l1Hex.j0 k ((c.toNat : Nat) : Int) b) (hexI c) := by
  intro b hb
  refine Ev.step (fun k => by rw [spec_l1Hex.j0]) ?_
  by_cases h0 : 48 ≤ c.toNat ∧ c.toNat ≤ 57
  ·simp only [if_pos (show b = true by rw [hb]; simpa using h0)]
   have : (((c.toNat : Nat) : Int) - 48) % 256 = hexI c := by unfold hexI; rw [if_pos h0]; omega
   rw [this]; exact Ev.now _
  ·simp only [if_neg (show ¬ b = true by rw [hb]; simpa using h0)]
   by_cases h1 : ((c.toNat : Nat) : Int) ≥ 65
   ·simp only [if_pos h1]; exact j1 _ (by congr 1; simp; omega) h0
   ·simp only [if_neg h1]; exact j1 _ (by symm; simp; omega) h0
 by_cases h1 : ((c.toNat : Nat) : Int) ≥ 48
 ·simp only [if_pos h1]; exact j0 _ (by congr 1; simp; omega)
 ·simp only [if_neg h1]; exact j0 _ (by symm; simp; omega)
theorem spec_Cut_l0 (c : UInt8) (l : Bs) (hl : l.length ≤ 8796093022207) (d : Nat) : ∀ (f i : Nat) (X : List ByteArray), i + d = l.length → f ≤ i → X.length ≤ f → (∀ x ∈ (l.drop f).take (i - f), x ≠ c) → Ev (fun k => spec_l1Cut.l0 k (B l) ((c.toNat : Nat) : Int) X f i) (X ++ (splitC c (l.drop f)).map B) := by
 induction d with
 | zero =>
  intro f i X hi hf hX h
  refine ev_1 fun k => ?_
  simp only [spec_l1Cut.l0]
  rw [if_neg (by rw [B_size]; omega), if_pos (by omega), if_pos (by rw [B_size]; omega), if_pos (by omega)]
  rw [List.take_of_length_le (by simp; omega)] at h
  rw [splitC_plain c _ h, Int.toNat_natCast, B_extract, B_size, List.take_of_length_le (by simp)]
  rfl
 | succ d ih =>
  intro f i X hi hf hX h
  have hlt : i < l.length := by omega
  refine Ev.step (fun k => by rw [spec_l1Cut.l0]) ?_
  have hi0 : (0 : Int) ≤ (i : Int) := by omega
  have hi1 : (i : Int) < (l.length : Int) := by omega
  have hi2 : (i : Int) ≤ (l.length : Int) := by omega
  have hw : wrap64 ((i : Int) + 1) = ((i + 1 : Nat) : Int) := by rw [w64 (by omega) (by omega)]; rfl
  simp only [B_size, bt_B, Int.toNat_natCast, get_eq hlt, if_pos hi0, if_pos hi1, if_pos hi2, hw]
  have hcat : l.drop f = (l.drop f).take (i - f) ++ l[i] :: l.drop (i + 1) := by
   conv => lhs; rw [← List.take_append_drop (i - f) (l.drop f)]
   rw [List.drop_drop, show f + (i - f) = i by omega, List.drop_eq_getElem_cons hlt]
  by_cases e : l[i] = c
  ·have e1 : ((l[i].toNat : Nat) : Int) = ((c.toNat : Nat) : Int) := by rw [e]
   simp only [if_pos e1, if_pos (show (0 : Int) ≤ (f : Int) by omega), if_pos (show (f : Int) ≤ (i : Int) by omega), if_pos (show X.length < 8796093022208 by omega)]
   have := ih (i + 1) (i + 1) (X ++ [B ((l.drop f).take (i - f))]) (by omega) (by omega) (by simp; omega) (by simp)
   have hs : splitC c (l.drop f) = (l.drop f).take (i - f) :: splitC c (l.drop (i + 1)) := by
    conv => lhs; rw [hcat, e, splitC_cut c _ _ h]
   rw [B_extract, hs]
   simpa using this
  ·have e1 : ¬ ((l[i].toNat : Nat) : Int) = ((c.toNat : Nat) : Int) := fun h => e (UInt8.toNat_inj.1 (by omega))
   simp only [if_neg e1]
   refine ih f (i + 1) X (by omega) (by omega) hX ?_
   have ht : (l.drop f).take (i + 1 - f) = (l.drop f).take (i - f) ++ [l[i]] := by
    rw [show i + 1 - f = (i - f) + 1 by omega, List.take_succ_eq_append_getElem (by simp; omega)]
    simp [show f + (i - f) = i by omega]
   rw [ht]
   intro x hx
   rcases List.mem_append.1 hx with hx | hx
   ·exact h x hx
   ·rw [List.mem_singleton.1 hx]; exact e
theorem spec_Cut (c : UInt8) (n : Nat) (hn : c = UInt8.ofNat n) (hn' : n < 256) (l : Bs) (hl : l.length ≤ 8796093022207) : Ev (fun k => spec_l1Cut.f k (B l) ((n : Nat) : Int)) ((splitC c l).map B) := by
 have e : ((n : Nat) : Int) = ((c.toNat : Nat) : Int) := by subst hn; simp; omega
 rw [e]
 unfold spec_l1Cut.f
 exact spec_Cut_l0 c l hl l.length 0 0 [] (by omega) (by omega) (by simp) (by simp)
theorem spec_Decode_l0 (l : Bs) (hl : l.length ≤ 600) (d : Nat) : ∀ (i : Nat) (D : Bs), i + d = l.length → D.length ≤ i → D ++ pctDec (l.drop i) = pctDec l → Ev (fun k => spec_Decode.l0 k (B l) (ns D) i) (B (pctDec l)) := by
 induction d using Nat.strongRecOn with
 | _ d ih =>
 intro i D hi hD hE
 refine Ev.step (fun k => by rw [spec_Decode.l0]) ?_
 simp only [B_size]
 by_cases hlt : i < l.length
 ·simp only [if_pos (show (i : Int) < (l.length : Int) by omega), show decide ((l.length : Int) ≤ 600) = true from decide_eq_true (by omega)]
  refine Ev.step (fun k => by rw [spec_Decode.j1]) ?_
  have hi0 : (0 : Int) ≤ (i : Int) := by omega
  have hi1 : (i : Int) < (l.length : Int) := by omega
  have w1 : wrap64 ((i : Int) + 1) = ((i + 1 : Nat) : Int) := by rw [w64 (by omega) (by omega)]; rfl
  have w2 : wrap64 ((i : Int) + 2) = ((i + 2 : Nat) : Int) := by rw [w64 (by omega) (by omega)]; rfl
  have w3 : wrap64 (((i + 2 : Nat) : Int) + 1) = ((i + 3 : Nat) : Int) := by rw [w64 (by omega) (by omega)]; rfl
  have z1 : (0 : Int) ≤ ((i + 1 : Nat) : Int) := by omega
  have z2 : (0 : Int) ≤ ((i + 2 : Nat) : Int) := by omega
  have hln : (ns D).length < 140737488355328 := by simp; omega
  have hst := decode_at l i hlt
  have no : escAt l i = false → Ev (fun k => spec_Decode.j2 k (B l) (ns D) i false) (B (pctDec l)) := by
   intro he
   refine Ev.step (fun k => by rw [spec_Decode.j2]) ?_
   simp only [Bool.false_eq_true, if_false, B_size, bt_B, Int.toNat_natCast, get_eq hlt, if_pos hi0, if_pos hi1, if_pos hln, w1]
   rw [he, if_neg (by simp)] at hst
   have := ih (d - 1) (by omega) (i + 1) (D ++ [l[i]]) (by omega) (by simp; omega) (by rw [← hE, hst]; simp)
   rw [ns_append, ns_one] at this
   exact this
  simp only [if_true, B_size, bt_B, Int.toNat_natCast, get_eq hlt, if_pos hi0, if_pos hi1, w1, w2]
  by_cases c0 : l[i] = 37
  ·simp only [if_pos (show ((l[i].toNat : Nat) : Int) = 37 from (byte_eq _ 37 (by decide)).2 c0)]
   by_cases c1 : i + 2 < l.length
   ·have y1 : ((i + 1 : Nat) : Int) < (l.length : Int) := by omega
    have y2 : ((i + 2 : Nat) : Int) < (l.length : Int) := by omega
    simp only [if_pos y1, if_pos y2, if_pos z1, if_pos z2, get_eq c1, get_eq (show i + 1 < l.length by omega)]
    refine ev_bind (spec_hex _) ?_
    by_cases c2 : 0 ≤ hexI l[i + 1]
    ·simp only [if_pos (show hexI l[i + 1] ≥ 0 from c2)]
     refine ev_bind (spec_hex _) ?_
     by_cases c3 : 0 ≤ hexI l[i + 2]
     ·have he : escAt l i = true := by unfold escAt; rw [get_eq hlt, get_eq (show i + 1 < l.length by omega), get_eq c1]; simp [c0, c1, c2, c3]
      simp only [show decide (hexI l[i + 2] ≥ 0) = true from decide_eq_true c3]
      refine Ev.step (fun k => by rw [spec_Decode.j2]) ?_
      simp only [if_true, B_size, bt_B, w1, w2, w3, Int.toNat_natCast, if_pos y1, if_pos y2, if_pos z1, if_pos z2, get_eq c1, get_eq (show i + 1 < l.length by omega)]
      refine ev_bind (spec_hex _) ?_
      refine ev_bind (spec_hex _) ?_
      have r1 := hexI_rng l[i + 1]
      have r2 := hexI_rng l[i + 2]
      have hv : (wrap64 ((wrap64 (16 * hexI l[i + 1])) + hexI l[i + 2])) % 256 = ((escByte l[i + 1] l[i + 2]).toNat : Int) := by
       rw [w64 (n := 16 * hexI l[i + 1]) (by omega) (by omega), w64 (by omega) (by omega), escByte_val _ _ c2 c3]; omega
      simp only [if_pos hln, hv]
      rw [he, if_pos rfl, get_eq (show i + 1 < l.length by omega), get_eq c1] at hst
      have := ih (d - 3) (by omega) (i + 3) (D ++ [escByte l[i + 1] l[i + 2]]) (by omega) (by simp; omega) (by rw [← hE, hst]; simp)
      rw [ns_append, ns_one] at this
      exact this
     ·simp only [show decide (hexI l[i + 2] ≥ 0) = false from decide_eq_false (by omega)]
      exact no (by unfold escAt; rw [get_eq hlt, get_eq (show i + 1 < l.length by omega), get_eq c1]; simp [c3])
    ·simp only [if_neg (show ¬ hexI l[i + 1] ≥ 0 by omega)]
     exact no (by unfold escAt; rw [get_eq hlt, get_eq (show i + 1 < l.length by omega), get_eq c1]; simp [c2])
   ·simp only [if_neg (show ¬ ((i + 2 : Nat) : Int) < (l.length : Int) by omega)]
    exact no (by unfold escAt; simp [c1])
  ·simp only [if_neg (show ¬ ((l[i].toNat : Nat) : Int) = 37 from fun e => c0 ((byte_eq _ 37 (by decide)).1 e))]
   exact no (by unfold escAt; rw [get_eq hlt]; simp [c0])
 ·simp only [if_neg (show ¬ (i : Int) < (l.length : Int) by omega)]
  refine ev_1 fun k => ?_
  simp only [spec_Decode.j1, Bool.false_eq_true, if_false, str_ns]
  have : l.drop i = [] := List.drop_eq_nil_of_le (by omega)
  rw [this, decode_nil, List.append_nil] at hE
  rw [hE]
theorem spec_Decode_ev (l : Bs) : Ev (fun k => spec_Decode.f k (B l)) (B (decodeMax l)) := by
 unfold spec_Decode.f decodeMax
 by_cases hl : l.length ≤ 600
 ·rw [if_pos hl]
  exact spec_Decode_l0 l hl l.length 0 [] (by omega) (by simp) (by simp)
 ·rw [if_neg hl]
  refine Ev.step (fun k => by rw [spec_Decode.l0]) ?_
  simp only [B_size, if_pos (show (0 : Int) < (l.length : Int) by omega), show decide ((l.length : Int) ≤ 600) = false from decide_eq_false (by omega)]
  refine ev_1 fun k => ?_
  simp only [spec_Decode.j1, Bool.false_eq_true, if_false]
  exact congrArg some (str_ns [])
theorem specCut_walk (c : UInt8) (n : Nat) (hn : c = UInt8.ofNat n) (hn' : n < 256) (l : Bs) (w : World) (hl : l.length ≤ 8796093022207) :
  Calls Tryz.prog 113 #[.string (B l), .int .u8 ((n : Nat) : Int)] w fun e w' => ∃ v0_ : Value, e = .returned (v0_) ∧ Kd.R Kd.string 9 w' w.heap.size (fun _ => True) v0_ ((splitC c l).map B) ∧ Below w.heap.size w w' := by
 obtain ⟨K, hK⟩ := spec_Cut c n hn hn' l hl
 exact spec_l1Cut.calls K _ _ _ w (hK K (Nat.le_refl _))
end Go.Proofs.YtopcpbokfngpeaaGreatDoor.HS
namespace Go.Proofs.YtopcpbokfngpeaaGreatDoor.H
open Go.RowKit Go.Proofs.YtopcpbokfngpeaaGreatDoor.HS Go.Proofs.YtopcpbokfngpeaaGreatDoorW.PrintWords Go.Proofs.YtopcpbokfngpeaaGreatDoor.Base
set_option maxHeartbeats 1000000 in
set_option maxRecDepth 100000 in
theorem pieces_walk (l : Bs) (w : World) (hl : l.length ≤ 8796093022207) :
  Calls Tryz.prog 165 #[.string (B l)] w fun e w' => ∃ v0_ : Value, e = .returned (v0_) ∧ Kd.R Kd.string 9 w' w.heap.size (fun _ => True) v0_ ((pieces l).map B) ∧ Below w.heap.size w w' := by
 have hconv := fun W => Lib.run_convert_string_bytes (P := Tryz.prog) W 9 22 5 (B l) Tryz.underlying9 Tryz.underlying22 Tryz.underlying5
 have hback := fun (W : World) (k : Nat) (c : Nat) (h : BRow W w.heap.size (swK 92 47 l k)) => h.string (c := c) (P := Tryz.prog) (by rw [swK_length]; omega) Tryz.underlying22 Tryz.underlying5 Tryz.underlying9
 go_enter Tryz.func165, Tryz.ntmps165
 go_wp2
 go_loopw [4] (fun i wr => ∃ k : Nat, k ≤ l.length ∧ i = .int .i64 k ∧ BRow wr w.heap.size (swK 92 47 l k) ∧ Below w.heap.size w wr) (fun i _ => l.length - (intOf i).toNat)
 case atStart => exact ⟨0, Nat.zero_le _, rfl, by rw [swK_zero]; exact BRow.start w 5 l, bytes_below (Below.refl _ _) (Nat.le_refl _) _ _⟩
 case round =>
  obtain ⟨k, hk, rfl, hrow, hb⟩ := hrel
  by_cases hlt : k < l.length
  ·have hc := (hrow k (by rw [swK_length]; exact hlt)).1
   have hf := (hrow k (by rw [swK_length]; exact hlt)).2
   rw [swK_get 92 47 l k hlt] at hc
   by_cases c3 : l[k] = 92
   ·have c3b : (((l[k].toNat : Nat) : Int) == 92) = true := by rw [c3]; rfl
    have hs := swK_succ 92 47 l k hlt
    rw [if_pos c3] at hs
    have HS := Lib.hid hs
    clear hs c3
    go_wp2
    go_roundw
    case rel =>
     refine ⟨k + 1, by omega, by go_num, ?_, hb.setCell (Nat.le_refl _) _⟩
     rw [HS.out]
     exact hrow.set k 47 (by rw [swK_length]; exact hlt)
    case measure => simp [intOf]; omega
   ·have c3b : (((l[k].toNat : Nat) : Int) == 92) = false := by
     rw [beq_eq_false_iff_ne]; intro e; exact c3 ((byte_eq _ 92 (by decide)).1 e)
    have HS := Lib.hid (swK_same 92 47 l k hlt c3)
    clear c3
    go_wp2
    go_roundw
    case rel => exact ⟨k + 1, by omega, by go_num, by rw [HS.out]; exact hrow, hb⟩
    case measure => simp [intOf]; omega
  ·obtain rfl : k = l.length := by omega
   have hcv := hback wr l.length (grownCap w l.length 0 5) hrow
   rw [swK_length, swK_all 92 47 l _ (Nat.le_refl _)] at hcv
   have hb' := Lib.hid hb
   clear hb hback
   have hwr : w.heap.size ≤ wr.heap.size := hb'.out.size
   go_wp2_with fail
   refine (specCut_walk 47 47 rfl (by decide) (swapC 92 47 l) _ (by rw [swapC_length]; omega)).mono ?_
   rintro e w1 ⟨v, rfl, hv, hb1⟩
   go_wp2
   go_ret
   exact ⟨v, rfl, Kd.R_lower hv hwr, below_then hb'.out hwr hb1⟩
def spec_l3Pieces.f (a0 : ByteArray) : Option (List ByteArray) := if a0.size ≤ 8796093022207 then some ((pieces a0.data.toList).map B) else none
theorem spec_l3Pieces.calls (a0 : ByteArray) (r : List ByteArray) (w : World) (h : spec_l3Pieces.f a0 = some r) :
  Calls Tryz.prog 165 #[.string a0] w fun e w' => ∃ v0_ : Value, e = .returned (v0_) ∧ Kd.R Kd.string 9 w' w.heap.size (fun _ => True) v0_ r ∧ Below w.heap.size w w' := by
 obtain ⟨l, rfl⟩ := exB a0
 unfold spec_l3Pieces.f at h
 rw [B_data, B_size] at h
 by_cases c : l.length ≤ 8796093022207
 ·rw [if_pos c] at h
  obtain rfl := Option.some.inj h
  exact pieces_walk l w c
 ·rw [if_neg c] at h; cases h
end Go.Proofs.YtopcpbokfngpeaaGreatDoor.H
set_option maxHeartbeats 8000000
set_option maxRecDepth 100000
namespace Go.Proofs.YtopcpbokfngpeaaGreatDoor.Lh
open Go.RowKit Go.Proofs.YtopcpbokfngpeaaGreatDoor.H Go.Proofs.YtopcpbokfngpeaaGreatDoorW.PrintWords Go.Proofs.YtopcpbokfngpeaaGreatDoorW.PrintLast Go.Proofs.YtopcpbokfngpeaaGreatDoorW.PrintMore Go.Proofs.YtopcpbokfngpeaaGreatDoor.Lp
attribute [local go_sem] max2_int min2_int max_two min_two max_three min_three max_four min_four   -- for this text's walks alone
set_option linter.unusedVariables false
set_option linter.unusedSimpArgs false
def errW : Option Int → Value
 | none => .nilIface
 | some c => .iface 0 (.int .i64 c)
theorem errW_none : errW none = .nilIface := rfl
theorem errW_some (c : Int) : errW (some c) = .iface 0 (.int .i64 c) := rfl
theorem info5 : (Tryz.prog.info? 5).map (fun i => (i.zero, i.size, i.bytes)) = some (some (.int .u8 0), 1, 1) := by kernel_rfl
theorem info9 : (Tryz.prog.info? 9).map (fun i => (i.zero, i.size, i.bytes)) = some (some (.string ⟨#[]⟩), 1, 16) := by kernel_rfl
end Go.Proofs.YtopcpbokfngpeaaGreatDoor.Lh
set_option maxHeartbeats 8000000
set_option maxRecDepth 100000
namespace Go.Proofs.YtopcpbokfngpeaaGreatDoor.Lh
open Go.RowKit Go.Proofs.YtopcpbokfngpeaaGreatDoor.H Go.Proofs.YtopcpbokfngpeaaGreatDoorW.PrintWords Go.Proofs.YtopcpbokfngpeaaGreatDoorW.PrintLast Go.Proofs.YtopcpbokfngpeaaGreatDoorW.PrintMore Go.Proofs.YtopcpbokfngpeaaGreatDoor.Lp
attribute [local go_sem] max2_int min2_int max_two min_two max_three min_three max_four min_four   -- for this text's walks alone
set_option linter.unusedVariables false
set_option linter.unusedSimpArgs false
theorem eqA24 (d : Nat) (w : World) (x0 y0 : Int) (x1 y1 : ByteArray) (x2 y2 : Int) :
  (Op.equalIn (d + 2) 24 (.agg #[.int .i64 x0, .string x1, .int .i64 x2]) (.agg #[.int .i64 y0, .string y1, .int .i64 y2])).run Tryz.prog w = .ok (x0 == y0 && (x1.toList == y1.toList && (x2 == y2))) w := by
 refine eqA_of Tryz.underlying24 (by kernel_rfl) ?_
 refine eqf_cons (by rfl) (by go_simp; rfl) (by go_simp; rfl) (by go_simp) ?_
 refine eqf_cons (by rfl) (by go_simp; rfl) (by go_simp; rfl) (by go_simp) ?_
 exact eqf_last (by rfl) (by go_simp; rfl) (by go_simp; rfl) (by go_simp)
end Go.Proofs.YtopcpbokfngpeaaGreatDoor.Lh
