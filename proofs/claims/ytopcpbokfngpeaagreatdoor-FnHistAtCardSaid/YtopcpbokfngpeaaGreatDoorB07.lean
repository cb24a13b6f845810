/- Texts of this claim, joined: Lhx7, Lhx8. Conditions: each theorem's own. -/
import Derived.Test.YtopcpbokfngpeaaGreatDoorB05
import Derived.Test.YtopcpbokfngpeaaGreatDoorB04
import Derived.Test.YtopcpbokfngpeaaGreatDoorB02
import Derived.Test.YtopcpbokfngpeaaGreatDoorB06
set_option maxHeartbeats 8000000
set_option maxRecDepth 100000
namespace Go.Proofs.YtopcpbokfngpeaaGreatDoor.Lh
open Go.RowKit Go.Proofs.YtopcpbokfngpeaaGreatDoor.H Go.Proofs.YtopcpbokfngpeaaGreatDoorW.PrintWords Go.Proofs.YtopcpbokfngpeaaGreatDoorW.PrintLast Go.Proofs.YtopcpbokfngpeaaGreatDoorW.PrintMore Go.Proofs.YtopcpbokfngpeaaGreatDoor.Lp
attribute [local go_sem] max2_int min2_int max_two min_two max_three min_three max_four min_four   -- for this text's walks alone
set_option linter.unusedVariables false
set_option linter.unusedSimpArgs false
mutual
def spec_FourGet.j0 : Nat → List ByteArray → Bool → Option (Int × Bool)
 | 0, _, _ => none
 | k + 1, x4, x19 => if x19 = true then (some (0, false)) else (spec_FourGet.l0 k x4 0 0)
def spec_FourGet.l0 : Nat → List ByteArray → Int → Int → Option (Int × Bool)
 | 0, _, _, _ => none
 | k + 1, x4, x5, x6 => if x6 < (x4.length : Int) then (if 0 ≤ x6 then ((spec_l2Part.f k (rdOf ByteArray.empty x4 x6)).bind fun t179 => (if x6 = (wrap64 ((x4.length : Int) - 1)) then (spec_FourGet.l1 k x4 x5 x6 t179 255 x6) else ((spec_l1In.f t179 0 255).bind fun t181 => (if t181 = true then (spec_FourGet.l0 k x4 (wrap64 ((wrap64 (x5 * 256)) + t179)) (wrap64 (x6 + 1))) else (some (0, false)))))) else (none)) else (some (x5, true))
def spec_FourGet.l1 : Nat → List ByteArray → Int → Int → Int → Int → Int → Option (Int × Bool)
 | 0, _, _, _, _, _, _ => none
 | k + 1, x4, x5, x6, x7, x8, x9 => if x9 < 3 then (spec_FourGet.l1 k x4 x5 x6 x7 (wrap64 ((wrap64 (x8 * 256)) + 255)) (wrap64 (x9 + 1))) else ((spec_l1In.f x7 0 x8).bind fun t180 => (if t180 = true then (spec_FourGet.l0 k x4 (wrap64 ((wrap64 (x5 * (wrap64 (x8 + 1)))) + x7)) (wrap64 (x6 + 1))) else (some (0, false))))
end
def spec_FourGet.f (k : Nat) (a0 : ByteArray) : Option (Int × Bool) := (spec_l2Parts.f k a0).bind fun t175 => (if (t175.length : Int) > 4 then (spec_FourGet.j0 k t175 true) else (spec_FourGet.j0 k t175 (decide ((a0.size : Int) > 200))))
theorem spec_FourGet.mono_l : ∀ k, (∀ y0 y1, LeO (spec_FourGet.j0 k y0 y1) (spec_FourGet.j0 (k + 1) y0 y1)) ∧ (∀ y0 y1 y2, LeO (spec_FourGet.l0 k y0 y1 y2) (spec_FourGet.l0 (k + 1) y0 y1 y2)) ∧ (∀ y0 y1 y2 y3 y4 y5, LeO (spec_FourGet.l1 k y0 y1 y2 y3 y4 y5) (spec_FourGet.l1 (k + 1) y0 y1 y2 y3 y4 y5))
 | 0 => ⟨fun _ _ => LeO.none _, fun _ _ _ => LeO.none _, fun _ _ _ _ _ _ => LeO.none _⟩
 | k + 1 => by
  obtain ⟨ih0, ih1, ih2⟩ := spec_FourGet.mono_l k
  have m0 := @spec_l2Part.mono; have m1 := @spec_l2Parts.mono
  exact ⟨fun _ _ => by unfold spec_FourGet.j0; exact lq, fun _ _ _ => by unfold spec_FourGet.l0; exact lq, fun _ _ _ _ _ _ => by unfold spec_FourGet.l1; exact lq⟩
theorem spec_FourGet.mono : ∀ a0 k, LeO (spec_FourGet.f k a0) (spec_FourGet.f (k + 1) a0) := by
 intro a0 k; obtain ⟨ih0, ih1, ih2⟩ := spec_FourGet.mono_l k; have m0 := @spec_l2Part.mono; have m1 := @spec_l2Parts.mono; unfold spec_FourGet.f; exact lq
theorem spec_FourGet.calls (k : Nat) (a0 : ByteArray) (r1 : Int) (r2 : Bool) (w : World) (h : spec_FourGet.f k a0 = some (r1, r2)) :
  Calls Tryz.prog 118 #[.string a0] w fun e w' => e = .returned (.tuple #[.int .i64 r1, .bool r2]) ∧ Below w.heap.size w w' := by
 have HB := Aside0.mk (Below.refl w.heap.size w); unfold spec_FourGet.f at h; revert h; refine bnq fun t175 A2 => ?_; refine ahq fun HC3 => ?_; go_enter Tryz.func118, Tryz.ntmps118; go_upto_region 2 with (first | (refine gcq (some 11) rfl Tryz.func76 (spec_l2Parts.calls k a0 t175 _ A2.out) ?_; rintro _ w4 ⟨v176, rfl, ho0, hb⟩; refine ⟨_, rfl, ?_⟩; have HO177 := rlq (w := w) ho0; replace HB := Aside0.mk (below_step bq hb); clear hb ho0)); (try simp only [Act.put, List.setIfInBounds_toArray, List.set_cons_zero, List.set_cons_succ]); go_cut [19] (fun v19 wc => ∃ (kq : Nat) (x19_2 : Bool), v19 = .bool x19_2 ∧ Aside0 (spec_FourGet.j0 kq t175 x19_2 = some (r1, r2)) ∧ Aside0 (kq ≤ k) ∧ Aside0 (Kd.R Kd.string 9 wc w.heap.size (fun _ => True) v176 t175) ∧ Aside0 (Below w.heap.size w wc)); case first =>
  have H := HC3.out; clear HC3; revert H; refine iFq (4 < t175.length) (fun c5b0 c5b1 => ?_) fun c5b0 c5b1 => ?_
  ·intro H; (first | rw [c5b0] | (simp only [i64_w, i32_w]; rw [c5b0]) | skip); have H' := Aside0.mk H; clear H; obtain ⟨Ao6, co6, rfl⟩ := Kd.R_slice HO177.out; go_wp2; go_meet; case rel => exact ⟨_, (true), vq, H', ⟨oq⟩, ⟨rq⟩, ⟨bq⟩⟩
  intro H; (first | rw [c5b0] | (simp only [i64_w, i32_w]; rw [c5b0]) | skip); have H' := Aside0.mk H; clear H; obtain ⟨Ao7, co7, rfl⟩ := Kd.R_slice HO177.out; go_wp2; go_meet; case rel => exact ⟨_, (decide ((a0.size : Int) > 200)), vq, H', ⟨oq⟩, ⟨rq⟩, ⟨bq⟩⟩
 clear HC3; obtain ⟨kq, x19_2, rfl, HA, HJ2, HO_4, HB⟩ := hcut; cases kq with | zero => exact zq HA | succ kj2 => ?_
 have H := HA.out; clear HA; simp only [spec_FourGet.j0] at H; revert H; cases x19_2
 ·refine bFq ?_; refine ahq fun H' => ?_; go_wp2; go_loopg [5, 6] kj2 (fun kq v5 v6 w' => ∃ (x5_2 : Int) (x6_2 : Int), v5 = .int .i64 x5_2 ∧ v6 = .int .i64 x6_2 ∧ Aside0 (spec_FourGet.l0 kq t175 x5_2 x6_2 = some (r1, r2)) ∧ Aside0 (kq ≤ kj2) ∧ Aside0 (Kd.R Kd.string 9 w' w.heap.size (fun _ => True) v176 t175) ∧ Aside0 (Below w.heap.size w w')); case atStart => exact ⟨(0), (0), vq, vq, H', ⟨oq⟩, ⟨rq⟩, ⟨bq⟩⟩
  clear H'; obtain ⟨x5_2, x6_2, rfl, rfl, HA, HK2, HO_4, HB⟩ := hrel; cases gk with | zero => exact zq HA | succ k2 => ?_
  have H := HA.out; clear HA; simp only [spec_FourGet.l0] at H; revert H; refine iDq (fun c9b0 => ?_) fun c9b0 => ?_
  ·refine iDnq fun c10b0 => ?_; refine bnq fun t179 A11 => ?_; refine iEq (fun c12b0 c12b1 => ?_) fun c12 c12b0 c12b1 => ?_
   ·refine ahq fun H' => ?_; obtain ⟨Ao13, co13, rfl⟩ := Kd.R_slice HO_4.out; obtain ⟨ad178, ⟨⟩, hx178_0, p178, q178⟩ := atq HO_4 x6_2; go_wp2_with (first | (refine gcq (some 30) rfl Tryz.func124 (spec_l2Part.calls k2 (rdOf ByteArray.empty t175 x6_2) t179 _ A11.out) ?_; rintro _ w' ⟨rfl, ⟨nd, rfl⟩⟩; refine ⟨_, rfl, ?_⟩)); go_loopg [8, 9] k2 (fun kq v8 v9 w' => ∃ (x8_3 : Int) (x9_3 : Int), v8 = .int .i64 x8_3 ∧ v9 = .int .i64 x9_3 ∧ Aside0 (spec_FourGet.l1 kq t175 x5_2 x6_2 t179 x8_3 x9_3 = some (r1, r2)) ∧ Aside0 (kq ≤ k2) ∧ Aside0 (Kd.R Kd.string 9 w' w.heap.size (fun _ => True) (.slice (some ad178) t175.length co13) t175) ∧ Aside0 (Below w.heap.size w w')); case atStart => exact ⟨(255), (x6_2), vq, vq, H', ⟨oq⟩, ⟨rq⟩, ⟨bq⟩⟩
    clear H'; obtain ⟨x8_3, x9_3, rfl, rfl, HA, HK3, HO_4, HB⟩ := hrel; cases gk with | zero => exact zq HA | succ k3 => ?_
    have H := HA.out; clear HA; simp only [spec_FourGet.l1] at H; revert H; refine iDq (fun c14b0 => ?_) fun c14b0 => ?_
    ·refine ahq fun H' => ?_; go_wp2; go_roundg k3; case measure => exact oq
     case rel => exact ⟨(wrap64 ((wrap64 (x8_3 * 256)) + 255)), (wrap64 (x9_3 + 1)), vq, vq, H', ⟨oq⟩, ⟨rq⟩, ⟨bq⟩⟩
    refine bnq fun t180 A15 => ?_; cases t180
    ·refine bFq ?_; refine s2q ?_; rintro rfl rfl; go_wp2_with (first | (refine gcq (some 52) rfl Tryz.func56 (spec_l1In.calls t179 0 x8_3 false _ A15.out) ?_; rintro _ w' ⟨rfl, ⟨nd, rfl⟩⟩; refine ⟨_, rfl, ?_⟩)); go_ret2; exact ⟨vq, bq⟩
    refine bTq ?_; refine ahq fun H' => ?_; go_wp2_with (first | (refine gcq (some 52) rfl Tryz.func56 (spec_l1In.calls t179 0 x8_3 true _ A15.out) ?_; rintro _ w' ⟨rfl, ⟨nd, rfl⟩⟩; refine ⟨_, rfl, ?_⟩)); go_roundg k3; case measure => exact oq
    case rel => exact ⟨(wrap64 ((wrap64 (x5_2 * (wrap64 (x8_3 + 1)))) + t179)), (wrap64 (x6_2 + 1)), vq, vq, H', ⟨oq⟩, ⟨rq⟩, ⟨bq⟩⟩
   refine bnq fun t181 A17 => ?_; cases t181
   ·refine bFq ?_; refine s2q ?_; rintro rfl rfl; obtain ⟨Ao20, co20, rfl⟩ := Kd.R_slice HO_4.out; obtain ⟨ad178, ⟨⟩, hx178_0, p178, q178⟩ := atq HO_4 x6_2; go_wp2_with (first | (refine gcq (some 30) rfl Tryz.func124 (spec_l2Part.calls k2 (rdOf ByteArray.empty t175 x6_2) t179 _ A11.out) ?_; rintro _ w' ⟨rfl, ⟨nd, rfl⟩⟩; refine ⟨_, rfl, ?_⟩) | (refine gcq (some 52) rfl Tryz.func56 (spec_l1In.calls t179 0 255 false _ A17.out) ?_; rintro _ w' ⟨rfl, ⟨nd, rfl⟩⟩; refine ⟨_, rfl, ?_⟩)); go_ret2; exact ⟨vq, bq⟩
   refine bTq ?_; refine ahq fun H' => ?_; obtain ⟨Ao19, co19, rfl⟩ := Kd.R_slice HO_4.out; obtain ⟨ad178, ⟨⟩, hx178_0, p178, q178⟩ := atq HO_4 x6_2; go_wp2_with (first | (refine gcq (some 30) rfl Tryz.func124 (spec_l2Part.calls k2 (rdOf ByteArray.empty t175 x6_2) t179 _ A11.out) ?_; rintro _ w' ⟨rfl, ⟨nd, rfl⟩⟩; refine ⟨_, rfl, ?_⟩) | (refine gcq (some 52) rfl Tryz.func56 (spec_l1In.calls t179 0 255 true _ A17.out) ?_; rintro _ w' ⟨rfl, ⟨nd, rfl⟩⟩; refine ⟨_, rfl, ?_⟩)); go_roundg k2; case measure => exact oq
   case rel => exact ⟨(wrap64 ((wrap64 (x5_2 * 256)) + t179)), (wrap64 (x6_2 + 1)), vq, vq, H', ⟨oq⟩, ⟨rq⟩, ⟨bq⟩⟩
  refine s2q ?_; rintro rfl rfl; obtain ⟨Ao21, co21, rfl⟩ := Kd.R_slice HO_4.out; go_wp2; go_ret2; exact ⟨vq, bq⟩
 refine bTq ?_; refine s2q ?_; rintro rfl rfl; go_wp2; go_ret2; exact ⟨vq, bq⟩
def spec_HostGet.j0 : Nat → ByteArray → Bool → Option (Int × ByteArray × Int × Bool)
 | 0, _, _ => none
 | k + 1, x4, x16 => if x16 = true then (some (0, (⟨#[]⟩ : ByteArray), 0, false)) else ((spec_l2Ends.f k x4).bind fun t185 => (if t185 = true then ((spec_FourGet.f k x4).bind fun bt186 => (if bt186.2 = true then (some (2, (⟨#[]⟩ : ByteArray), bt186.1, true)) else (some (0, (⟨#[]⟩ : ByteArray), 0, false)))) else ((spec_l2Name.f k x4).bind fun t188 => (if t188 = true then (some (1, x4, 0, true)) else (some (0, (⟨#[]⟩ : ByteArray), 0, false))))))
def spec_HostGet.f (k : Nat) (a0 : ByteArray) : Option (Int × ByteArray × Int × Bool) := (spec_Decode.f k a0).bind fun t183 => ((spec_Lower.f k t183).bind fun t184 => (if (a0.size : Int) > 200 then (spec_HostGet.j0 k t184 true) else (spec_HostGet.j0 k t184 (t184.toList == ([] : List UInt8)))))
theorem spec_HostGet.mono_l : ∀ k, (∀ y0 y1, LeO (spec_HostGet.j0 k y0 y1) (spec_HostGet.j0 (k + 1) y0 y1))
 | 0 => fun _ _ => LeO.none _
 | k + 1 => by
  have ih0 := spec_HostGet.mono_l k
  have m0 := @spec_Decode.mono; have m1 := @spec_FourGet.mono; have m2 := @spec_Lower.mono; have m3 := @spec_l2Ends.mono; have m4 := @spec_l2Name.mono
  exact (fun _ _ => by unfold spec_HostGet.j0; exact lq)
theorem spec_HostGet.mono : ∀ a0 k, LeO (spec_HostGet.f k a0) (spec_HostGet.f (k + 1) a0) := by
 intro a0 k; have ih0 := spec_HostGet.mono_l k; have m0 := @spec_Decode.mono; have m1 := @spec_FourGet.mono; have m2 := @spec_Lower.mono; have m3 := @spec_l2Ends.mono; have m4 := @spec_l2Name.mono; unfold spec_HostGet.f; exact lq
theorem spec_HostGet.calls (k : Nat) (a0 : ByteArray) (r1 : Int) (r2 : ByteArray) (r3 : Int) (r4 : Bool) (w : World) (h : spec_HostGet.f k a0 = some (r1, r2, r3, r4)) :
  Calls Tryz.prog 81 #[.string a0] w fun e w' => e = .returned (.tuple #[.agg #[.int .i64 r1, .string r2, .int .i64 r3], .bool r4]) ∧ Below w.heap.size w w' := by
 have hu24 := Tryz.underlying24; have HB := Aside0.mk (Below.refl w.heap.size w); unfold spec_HostGet.f at h; revert h; refine bnq fun t183 A2 => ?_; refine bnq fun t184 A3 => ?_; refine ahq fun HC4 => ?_; go_enter Tryz.func81, Tryz.ntmps81; go_upto_region 2 with (first | ((with_reducible refine gate_dst (N := 2) rfl ?_); refine box_event rfl (N := 2) rfl (cs := #[.int .i64 0, .string (⟨#[]⟩ : ByteArray), .int .i64 0]) (t := 24) hrq ?_; intro gb182 hg w5 hbox hb; have BK182 := Aside0.mk hbox; have GW182 := gwq (w := w) hg; have GE182 := gwq (w := w) hg; replace HB := Aside0.mk (below_step bq hb); clear hb hbox hg) | (refine gcq (some 8) rfl Tryz.func117 (spec_Decode.calls k a0 t183 _ A2.out) ?_; rintro _ w6 ⟨rfl, hb⟩; refine ⟨_, rfl, ?_⟩; replace BK182 := blq BK182 hb; replace HB := Aside0.mk (below_step gq hb); clear hb) | (refine gcq (some 9) rfl Tryz.func104 (spec_Lower.calls k t183 t184 _ A3.out) ?_; rintro _ w7 ⟨rfl, hb⟩; refine ⟨_, rfl, ?_⟩; replace BK182 := blq BK182 hb; replace HB := Aside0.mk (below_step gq hb); clear hb)); (try simp only [Act.put, List.setIfInBounds_toArray, List.set_cons_zero, List.set_cons_succ]); go_cut [16] (fun v16 wc => ∃ (kq : Nat) (x16_3 : Bool), v16 = .bool x16_3 ∧ Aside0 (spec_HostGet.j0 kq t184 x16_3 = some (r1, r2, r3, r4)) ∧ Aside0 (kq ≤ k) ∧ Aside0 (wc.heap[gb182]? = some (.cells #[.int .i64 0, .string (⟨#[]⟩ : ByteArray), .int .i64 0] 24 (0, 0))) ∧ Aside0 (Below w.heap.size w wc)); case first =>
  have H := HC4.out; clear HC4; revert H; refine iFq (200 < a0.size) (fun c8b0 c8b1 => ?_) fun c8b0 c8b1 => ?_
  ·intro H; (first | rw [c8b0] | (simp only [i64_w, i32_w]; rw [c8b0]) | skip); have H' := Aside0.mk H; clear H; go_wp2; go_meet; case rel => exact ⟨_, (true), vq, H', ⟨oq⟩, ⟨kq⟩, ⟨gq⟩⟩
  intro H; (first | rw [c8b0] | (simp only [i64_w, i32_w]; rw [c8b0]) | skip); have H' := Aside0.mk H; clear H; go_wp2; go_meet; case rel => exact ⟨_, ((t184.toList == ([] : List UInt8))), vq, H', ⟨oq⟩, ⟨kq⟩, ⟨gq⟩⟩
 clear HC4; obtain ⟨kq, x16_3, rfl, HA, HJ3, BK182, HB⟩ := hcut; cases kq with | zero => exact zq HA | succ kj3 => ?_
 have H := HA.out; clear HA; simp only [spec_HostGet.j0] at H; revert H; cases x16_3
 ·refine bFq ?_; refine bnq fun t185 A11 => ?_; cases t185
  ·refine bFq ?_; refine bnq fun t188 A21 => ?_; cases t188
   ·refine bFq ?_; refine s4q ?_; rintro rfl rfl rfl rfl; go_wp2_with (first | (refine gcq (some 19) rfl Tryz.func87 (spec_l2Ends.calls kj3 t184 false _ A11.out) ?_; rintro _ w26 ⟨rfl, hb⟩; refine ⟨_, rfl, ?_⟩; replace BK182 := blq BK182 hb; replace HB := Aside0.mk (below_step gq hb); clear hb) | (refine gcq (some 31) rfl Tryz.func86 (spec_l2Name.calls kj3 t184 false _ A21.out) ?_; rintro _ w27 ⟨rfl, hb⟩; refine ⟨_, rfl, ?_⟩; replace BK182 := blq BK182 hb; replace HB := Aside0.mk (below_step gq hb); clear hb; have hcz28 := cz3q BK182)); refine bodyPost_ret (results_ct rfl _ _ gb182 24 #[.int .i64 0, .string (⟨#[]⟩ : ByteArray), .int .i64 0] (0, 0) _ rfl (by (with_reducible repeat (first | refine blk_drewN ?_ _ | refine blk_drew ?_ | refine blk_alloc ?_ _)); refine blk_put (cs := #[.int .i64 0, .string (⟨#[]⟩ : ByteArray), .int .i64 0]) ?_ 2 _ rfl; (with_reducible repeat (first | refine blk_drewN ?_ _ | refine blk_drew ?_ | refine blk_alloc ?_ _)); refine blk_put (cs := #[.int .i64 0, .string (⟨#[]⟩ : ByteArray), .int .i64 0]) ?_ 1 _ rfl; (with_reducible repeat (first | refine blk_drewN ?_ _ | refine blk_drew ?_ | refine blk_alloc ?_ _)); refine blk_put (cs := #[.int .i64 0, .string (⟨#[]⟩ : ByteArray), .int .i64 0]) ?_ 0 _ rfl; (with_reducible repeat (first | refine blk_drewN ?_ _ | refine blk_drew ?_ | refine blk_alloc ?_ _)); exact BK182.out) Tryz.underlying24 rfl (by kernel_rfl)) rfl ?_; exact ⟨vq, gq⟩
   refine bTq ?_; refine s4q ?_; rintro rfl rfl rfl rfl; go_wp2_with (first | (refine gcq (some 19) rfl Tryz.func87 (spec_l2Ends.calls kj3 t184 false _ A11.out) ?_; rintro _ w23 ⟨rfl, hb⟩; refine ⟨_, rfl, ?_⟩; replace BK182 := blq BK182 hb; replace HB := Aside0.mk (below_step gq hb); clear hb) | (refine gcq (some 31) rfl Tryz.func86 (spec_l2Name.calls kj3 t184 true _ A21.out) ?_; rintro _ w24 ⟨rfl, hb⟩; refine ⟨_, rfl, ?_⟩; replace BK182 := blq BK182 hb; replace HB := Aside0.mk (below_step gq hb); clear hb; have hcz25 := cz3q BK182)); refine bodyPost_ret (results_ct rfl _ _ gb182 24 #[.int .i64 1, .string t184, .int .i64 0] (0, 0) _ rfl (by (with_reducible repeat (first | refine blk_drewN ?_ _ | refine blk_drew ?_ | refine blk_alloc ?_ _)); refine blk_put (cs := #[.int .i64 1, .string t184, .int .i64 0]) ?_ 2 _ rfl; (with_reducible repeat (first | refine blk_drewN ?_ _ | refine blk_drew ?_ | refine blk_alloc ?_ _)); refine blk_put (cs := #[.int .i64 1, .string (⟨#[]⟩ : ByteArray), .int .i64 0]) ?_ 1 _ rfl; (with_reducible repeat (first | refine blk_drewN ?_ _ | refine blk_drew ?_ | refine blk_alloc ?_ _)); refine blk_put (cs := #[.int .i64 0, .string (⟨#[]⟩ : ByteArray), .int .i64 0]) ?_ 0 _ rfl; (with_reducible repeat (first | refine blk_drewN ?_ _ | refine blk_drew ?_ | refine blk_alloc ?_ _)); exact BK182.out) Tryz.underlying24 rfl (by kernel_rfl)) rfl ?_; exact ⟨vq, gq⟩
  refine bTq ?_; refine bnq ?_; rintro ⟨t186, t187⟩ A13; cases t187
  ·refine bFq ?_; refine s4q ?_; rintro rfl rfl rfl rfl; go_wp2_with (first | (refine gcq (some 19) rfl Tryz.func87 (spec_l2Ends.calls kj3 t184 true _ A11.out) ?_; rintro _ w18 ⟨rfl, hb⟩; refine ⟨_, rfl, ?_⟩; replace BK182 := blq BK182 hb; replace HB := Aside0.mk (below_step gq hb); clear hb) | (refine gcq (some 22) rfl Tryz.func118 (spec_FourGet.calls kj3 t184 t186 false _ A13.out) ?_; rintro _ w19 ⟨rfl, hb⟩; refine ⟨_, rfl, ?_⟩; replace BK182 := blq BK182 hb; replace HB := Aside0.mk (below_step gq hb); clear hb; have hcz20 := cz3q BK182)); refine bodyPost_ret (results_ct rfl _ _ gb182 24 #[.int .i64 0, .string (⟨#[]⟩ : ByteArray), .int .i64 0] (0, 0) _ rfl (by (with_reducible repeat (first | refine blk_drewN ?_ _ | refine blk_drew ?_ | refine blk_alloc ?_ _)); refine blk_put (cs := #[.int .i64 0, .string (⟨#[]⟩ : ByteArray), .int .i64 0]) ?_ 2 _ rfl; (with_reducible repeat (first | refine blk_drewN ?_ _ | refine blk_drew ?_ | refine blk_alloc ?_ _)); refine blk_put (cs := #[.int .i64 0, .string (⟨#[]⟩ : ByteArray), .int .i64 0]) ?_ 1 _ rfl; (with_reducible repeat (first | refine blk_drewN ?_ _ | refine blk_drew ?_ | refine blk_alloc ?_ _)); refine blk_put (cs := #[.int .i64 0, .string (⟨#[]⟩ : ByteArray), .int .i64 0]) ?_ 0 _ rfl; (with_reducible repeat (first | refine blk_drewN ?_ _ | refine blk_drew ?_ | refine blk_alloc ?_ _)); exact BK182.out) Tryz.underlying24 rfl (by kernel_rfl)) rfl ?_; exact ⟨vq, gq⟩
  refine bTq ?_; refine s4q ?_; rintro rfl rfl rfl rfl; go_wp2_with (first | (refine gcq (some 19) rfl Tryz.func87 (spec_l2Ends.calls kj3 t184 true _ A11.out) ?_; rintro _ w15 ⟨rfl, hb⟩; refine ⟨_, rfl, ?_⟩; replace BK182 := blq BK182 hb; replace HB := Aside0.mk (below_step gq hb); clear hb) | (refine gcq (some 22) rfl Tryz.func118 (spec_FourGet.calls kj3 t184 t186 true _ A13.out) ?_; rintro _ w16 ⟨rfl, hb⟩; refine ⟨_, rfl, ?_⟩; replace BK182 := blq BK182 hb; replace HB := Aside0.mk (below_step gq hb); clear hb; have hcz17 := cz3q BK182)); refine bodyPost_ret (results_ct rfl _ _ gb182 24 #[.int .i64 2, .string (⟨#[]⟩ : ByteArray), .int .i64 t186] (0, 0) _ rfl (by (with_reducible repeat (first | refine blk_drewN ?_ _ | refine blk_drew ?_ | refine blk_alloc ?_ _)); refine blk_put (cs := #[.int .i64 2, .string (⟨#[]⟩ : ByteArray), .int .i64 0]) ?_ 2 _ rfl; (with_reducible repeat (first | refine blk_drewN ?_ _ | refine blk_drew ?_ | refine blk_alloc ?_ _)); refine blk_put (cs := #[.int .i64 2, .string (⟨#[]⟩ : ByteArray), .int .i64 0]) ?_ 1 _ rfl; (with_reducible repeat (first | refine blk_drewN ?_ _ | refine blk_drew ?_ | refine blk_alloc ?_ _)); refine blk_put (cs := #[.int .i64 0, .string (⟨#[]⟩ : ByteArray), .int .i64 0]) ?_ 0 _ rfl; (with_reducible repeat (first | refine blk_drewN ?_ _ | refine blk_drew ?_ | refine blk_alloc ?_ _)); exact BK182.out) Tryz.underlying24 rfl (by kernel_rfl)) rfl ?_; exact ⟨vq, gq⟩
 refine bTq ?_; refine s4q ?_; rintro rfl rfl rfl rfl; have hcz10 := cz3q BK182; go_wp2; refine bodyPost_ret (results_ct rfl _ _ gb182 24 #[.int .i64 0, .string (⟨#[]⟩ : ByteArray), .int .i64 0] (0, 0) _ rfl (by (with_reducible repeat (first | refine blk_drewN ?_ _ | refine blk_drew ?_ | refine blk_alloc ?_ _)); refine blk_put (cs := #[.int .i64 0, .string (⟨#[]⟩ : ByteArray), .int .i64 0]) ?_ 2 _ rfl; (with_reducible repeat (first | refine blk_drewN ?_ _ | refine blk_drew ?_ | refine blk_alloc ?_ _)); refine blk_put (cs := #[.int .i64 0, .string (⟨#[]⟩ : ByteArray), .int .i64 0]) ?_ 1 _ rfl; (with_reducible repeat (first | refine blk_drewN ?_ _ | refine blk_drew ?_ | refine blk_alloc ?_ _)); refine blk_put (cs := #[.int .i64 0, .string (⟨#[]⟩ : ByteArray), .int .i64 0]) ?_ 0 _ rfl; (with_reducible repeat (first | refine blk_drewN ?_ _ | refine blk_drew ?_ | refine blk_alloc ?_ _)); exact BK182.out) Tryz.underlying24 rfl (by kernel_rfl)) rfl ?_; exact ⟨vq, gq⟩
def spec_HostOk.f (k : Nat) (a0_0 : Int) (a0_1 : ByteArray) (a0_2 : Int) : Option (Bool) := if a0_0 = 0 then (if a0_1.toList = ([] : List UInt8) then (some (a0_2 == 0)) else (some false)) else (if a0_0 = 1 then ((spec_l2Name.f k a0_1).bind fun t190 => (if t190 = true then ((spec_l2Ends.f k a0_1).bind fun t191 => (if t191 = true then (some false) else (some (a0_2 == 0)))) else (some false))) else (if a0_0 = 2 then (if a0_1.toList = ([] : List UInt8) then ((spec_l1In.f a0_2 0 4294967295).bind fun t192 => (some t192)) else (some false)) else (some false)))
theorem spec_HostOk.mono : ∀ a0 a1 a2 k, LeO (spec_HostOk.f k a0 a1 a2) (spec_HostOk.f (k + 1) a0 a1 a2) := by
 intro a0 a1 a2 k; have m0 := @spec_l2Ends.mono; have m1 := @spec_l2Name.mono; unfold spec_HostOk.f; exact lq
theorem spec_HostOk.calls (k : Nat) (a0_0 : Int) (a0_1 : ByteArray) (a0_2 : Int) (r : Bool) (w : World) (h : spec_HostOk.f k a0_0 a0_1 a0_2 = some r) :
  Calls Tryz.prog 55 #[.agg #[.int .i64 a0_0, .string a0_1, .int .i64 a0_2]] w fun e w' => e = .returned (.bool r) ∧ Below w.heap.size w w' := by
 have hu24 := Tryz.underlying24; have HB := Aside0.mk (Below.refl w.heap.size w); unfold spec_HostOk.f at h; revert h; refine iEq (fun c2b0 c2b1 => ?_) fun c2 c2b0 c2b1 => ?_
 ·refine iEq (fun c3b0 c3b1 => ?_) fun c3 c3b0 c3b1 => ?_
  ·refine siq ?_; rintro rfl; go_enter Tryz.func55, Tryz.ntmps55; go_wp2_with (first | ((with_reducible refine gate_dst (N := 1) rfl ?_); refine box_event rfl (N := 1) rfl (cs := #[.int .i64 a0_0, .string a0_1, .int .i64 a0_2]) (t := 24) hrq ?_; intro gb189 hg w4 hbox hb; have BK189 := Aside0.mk hbox; have GW189 := gwq (w := w) hg; have GE189 := gwq (w := w) hg; replace HB := Aside0.mk (below_step bq hb); clear hb hbox hg; have hcz5 := cz3q BK189)); go_ret; exact ⟨vq, gq⟩
  refine siq ?_; rintro rfl; go_enter Tryz.func55, Tryz.ntmps55; go_wp2_with (first | ((with_reducible refine gate_dst (N := 1) rfl ?_); refine box_event rfl (N := 1) rfl (cs := #[.int .i64 a0_0, .string a0_1, .int .i64 a0_2]) (t := 24) hrq ?_; intro gb189 hg w6 hbox hb; have BK189 := Aside0.mk hbox; have GW189 := gwq (w := w) hg; have GE189 := gwq (w := w) hg; replace HB := Aside0.mk (below_step bq hb); clear hb hbox hg; have hcz7 := cz3q BK189)); go_ret; exact ⟨vq, gq⟩
 refine iEq (fun c8b0 c8b1 => ?_) fun c8 c8b0 c8b1 => ?_
 ·refine bnq fun t190 A9 => ?_; cases t190
  ·refine bFq ?_; refine siq ?_; rintro rfl; go_enter Tryz.func55, Tryz.ntmps55; go_wp2_with (first | ((with_reducible refine gate_dst (N := 1) rfl ?_); refine box_event rfl (N := 1) rfl (cs := #[.int .i64 a0_0, .string a0_1, .int .i64 a0_2]) (t := 24) hrq ?_; intro gb189 hg w24 hbox hb; have BK189 := Aside0.mk hbox; have GW189 := gwq (w := w) hg; have GE189 := gwq (w := w) hg; replace HB := Aside0.mk (below_step bq hb); clear hb hbox hg; have hcz25 := cz3q BK189) | (refine gcq (some 19) rfl Tryz.func86 (spec_l2Name.calls k a0_1 false _ A9.out) ?_; rintro _ w26 ⟨rfl, hb⟩; refine ⟨_, rfl, ?_⟩; replace BK189 := blq BK189 hb; replace HB := Aside0.mk (below_step gq hb); clear hb)); go_ret; exact ⟨vq, gq⟩
  refine bTq ?_; refine bnq fun t191 A11 => ?_; cases t191
  ·refine bFq ?_; refine siq ?_; rintro rfl; go_enter Tryz.func55, Tryz.ntmps55; go_wp2_with (first | ((with_reducible refine gate_dst (N := 1) rfl ?_); refine box_event rfl (N := 1) rfl (cs := #[.int .i64 a0_0, .string a0_1, .int .i64 a0_2]) (t := 24) hrq ?_; intro gb189 hg w18 hbox hb; have BK189 := Aside0.mk hbox; have GW189 := gwq (w := w) hg; have GE189 := gwq (w := w) hg; replace HB := Aside0.mk (below_step bq hb); clear hb hbox hg; have hcz19 := cz3q BK189) | (refine gcq (some 19) rfl Tryz.func86 (spec_l2Name.calls k a0_1 true _ A9.out) ?_; rintro _ w20 ⟨rfl, hb⟩; refine ⟨_, rfl, ?_⟩; replace BK189 := blq BK189 hb; replace HB := Aside0.mk (below_step gq hb); clear hb; have hcz21 := cz3q BK189) | (go_at_call 87; (with_reducible refine (spec_l2Ends.calls k a0_1 false _ A11.out).mono ?_); rintro e w22 ⟨rfl, hb⟩; replace BK189 := blq BK189 hb; replace HB := Aside0.mk (below_step gq hb); clear hb; have hcz23 := cz3q BK189)); go_ret; exact ⟨vq, gq⟩
  refine bTq ?_; refine siq ?_; rintro rfl; go_enter Tryz.func55, Tryz.ntmps55; go_wp2_with (first | ((with_reducible refine gate_dst (N := 1) rfl ?_); refine box_event rfl (N := 1) rfl (cs := #[.int .i64 a0_0, .string a0_1, .int .i64 a0_2]) (t := 24) hrq ?_; intro gb189 hg w13 hbox hb; have BK189 := Aside0.mk hbox; have GW189 := gwq (w := w) hg; have GE189 := gwq (w := w) hg; replace HB := Aside0.mk (below_step bq hb); clear hb hbox hg; have hcz14 := cz3q BK189) | (refine gcq (some 19) rfl Tryz.func86 (spec_l2Name.calls k a0_1 true _ A9.out) ?_; rintro _ w15 ⟨rfl, hb⟩; refine ⟨_, rfl, ?_⟩; replace BK189 := blq BK189 hb; replace HB := Aside0.mk (below_step gq hb); clear hb; have hcz16 := cz3q BK189) | (go_at_call 87; (with_reducible refine (spec_l2Ends.calls k a0_1 true _ A11.out).mono ?_); rintro e w17 ⟨rfl, hb⟩; replace BK189 := blq BK189 hb; replace HB := Aside0.mk (below_step gq hb); clear hb)); go_ret; exact ⟨vq, gq⟩
 refine iEq (fun c27b0 c27b1 => ?_) fun c27 c27b0 c27b1 => ?_
 ·refine iEq (fun c28b0 c28b1 => ?_) fun c28 c28b0 c28b1 => ?_
  ·refine bnq fun t192 A29 => ?_; refine siq ?_; rintro rfl; go_enter Tryz.func55, Tryz.ntmps55; go_wp2_with (first | ((with_reducible refine gate_dst (N := 1) rfl ?_); refine box_event rfl (N := 1) rfl (cs := #[.int .i64 a0_0, .string a0_1, .int .i64 a0_2]) (t := 24) hrq ?_; intro gb189 hg w30 hbox hb; have BK189 := Aside0.mk hbox; have GW189 := gwq (w := w) hg; have GE189 := gwq (w := w) hg; replace HB := Aside0.mk (below_step bq hb); clear hb hbox hg; have hcz31 := cz3q BK189) | (go_at_call 56; (with_reducible refine (spec_l1In.calls a0_2 0 4294967295 t192 _ A29.out).mono ?_); rintro e w' ⟨rfl, ⟨nd, rfl⟩⟩)); go_ret; exact ⟨vq, gq⟩
  refine siq ?_; rintro rfl; go_enter Tryz.func55, Tryz.ntmps55; go_wp2_with (first | ((with_reducible refine gate_dst (N := 1) rfl ?_); refine box_event rfl (N := 1) rfl (cs := #[.int .i64 a0_0, .string a0_1, .int .i64 a0_2]) (t := 24) hrq ?_; intro gb189 hg w32 hbox hb; have BK189 := Aside0.mk hbox; have GW189 := gwq (w := w) hg; have GE189 := gwq (w := w) hg; replace HB := Aside0.mk (below_step bq hb); clear hb hbox hg; have hcz33 := cz3q BK189)); go_ret; exact ⟨vq, gq⟩
 refine siq ?_; rintro rfl; go_enter Tryz.func55, Tryz.ntmps55; go_wp2_with (first | ((with_reducible refine gate_dst (N := 1) rfl ?_); refine box_event rfl (N := 1) rfl (cs := #[.int .i64 a0_0, .string a0_1, .int .i64 a0_2]) (t := 24) hrq ?_; intro gb189 hg w34 hbox hb; have BK189 := Aside0.mk hbox; have GW189 := gwq (w := w) hg; have GE189 := gwq (w := w) hg; replace HB := Aside0.mk (below_step bq hb); clear hb hbox hg; have hcz35 := cz3q BK189)); go_ret; exact ⟨vq, gq⟩
end Go.Proofs.YtopcpbokfngpeaaGreatDoor.Lh
set_option maxHeartbeats 8000000
set_option maxRecDepth 100000
namespace Go.Proofs.YtopcpbokfngpeaaGreatDoor.Lh
open Go.RowKit Go.Proofs.YtopcpbokfngpeaaGreatDoor.H Go.Proofs.YtopcpbokfngpeaaGreatDoorW.PrintWords Go.Proofs.YtopcpbokfngpeaaGreatDoorW.PrintLast Go.Proofs.YtopcpbokfngpeaaGreatDoorW.PrintMore Go.Proofs.YtopcpbokfngpeaaGreatDoor.Lp
attribute [local go_sem] max2_int min2_int max_two min_two max_three min_three max_four min_four   -- for this text's walks alone
set_option linter.unusedVariables false
set_option linter.unusedSimpArgs false
def spec_l1Dec.f : Nat → Int → Option (ByteArray)
 | 0, _ => none
 | k + 1, a0 => if a0 < (-9223372036854775807) then (some (⟨#[45, 57, 50, 50, 51, 51, 55, 50, 48, 51, 54, 56, 53, 52, 55, 55, 53, 56, 48, 56]⟩ : ByteArray)) else (if a0 < 0 then ((spec_l1Dec.f k (wrap64 (-a0))).bind fun t193 => (if 1 + t193.size ≤ 9223372036854775807 then (some ((⟨#[45]⟩ : ByteArray) ++ t193)) else (none))) else (if a0 < 10 then (some (strOfNums (([(wrap64 (48 + a0)) % 256] : List Int)))) else ((spec_l1Dec.f k (wrap64 (Int.tdiv a0 10))).bind fun t197 => ((some (([(wrap64 (48 + (Int.tmod a0 10))) % 256] : List Int) : List Int)).bind fun y198 => (if t197.size + (strOfNums y198).size ≤ 9223372036854775807 then (some (t197 ++ (strOfNums y198))) else (none))))))
theorem spec_l1Dec.mono_l : ∀ k, (∀ y0, LeO (spec_l1Dec.f k y0) (spec_l1Dec.f (k + 1) y0))
 | 0 => fun _ => LeO.none _
 | k + 1 => by
  have ih0 := spec_l1Dec.mono_l k
  exact (fun _ => by unfold spec_l1Dec.f; exact lq)
theorem spec_l1Dec.mono : ∀ a0 k, LeO (spec_l1Dec.f k a0) (spec_l1Dec.f (k + 1) a0) := by
 intro a0 k
 have ih0 := spec_l1Dec.mono_l k
 exact ih0 a0
def spec_l1Dec.T7 : Bool × List (List Nat × List Nat) := (true, [([], []), ([0], [0]), ([1], [1]), ([], []), ([3], [3]), ([4], [4]), ([5], [5]), ([6], [6]), ([7], [7]), ([2, 8], [2, 8]), ([9, 2, 0, 1, 2, 3, 4, 5, 6, 7, 8, 9], [9])])
def spec_l1Dec.B7 : List Nat := [0, 1, 3, 0, 8, 24, 56, 120, 248, 511, 1023]
theorem spec_l1Dec.tab7 : rtab .any (opsOf Tryz.f58 7) = spec_l1Dec.T7 := by kernel_rfl
theorem spec_l1Dec.bits7 : waitsOk spec_l1Dec.T7.2 spec_l1Dec.B7 = true := by kernel_rfl
theorem spec_l1Dec.calls (k : Nat) : ∀ (a0 : Int) (r : ByteArray) (w : World) (h : spec_l1Dec.f k a0 = some r),
  Calls Tryz.prog 58 #[.int .i64 a0] w fun e w' => e = .returned (.string r) ∧ Below w.heap.size w w' := by
 induction k using Nat.strongRecOn with
 | _ k ih =>
 intro a0 r w h
 cases k with
 | zero => exact absurd h (by simp [spec_l1Dec.f])
 | succ k =>
 simp only [spec_l1Dec.f] at h; have HB := Aside0.mk (Below.refl w.heap.size w); revert h; refine iDq (fun c2b0 => ?_) fun c2b0 => ?_
 ·refine siq ?_; rintro rfl; go_enter Tryz.func58, Tryz.ntmps58; go_wp2; go_ret; exact ⟨vq, bq⟩
 refine iDq (fun c3b0 => ?_) fun c3b0 => ?_
 ·refine bnq fun t193 A4 => ?_; intro H; by_cases c5 : 1 + t193.size ≤ 9223372036854775807
  ·rw [if_pos c5] at H; have c5b0 := eq_true c5; have c5b1 := decide_eq_true c5; try have c5b2 : (9223372036854775807 < 1 + t193.size) = False := eq_false (Nat.not_lt.2 c5)
   obtain rfl := Option.some.inj H; go_enter Tryz.func58, Tryz.ntmps58; go_wp2_with (first | (refine gcq (some 9) rfl Tryz.func58 (ih k (by omega) (wrap64 (-a0)) t193 _ A4.out) ?_; rintro _ w6 ⟨rfl, hb⟩; refine ⟨_, rfl, ?_⟩; replace HB := Aside0.mk (below_step bq hb); clear hb)); go_ret; exact ⟨vq, bq⟩
  ·rw [if_neg c5] at H; exact absurd H (by simp)
 refine iDq (fun c7b0 => ?_) fun c7b0 => ?_
 ·intro H; obtain ⟨y194, hy194⟩ : ∃ y_ : List Int, y_ = (([(wrap64 (48 + a0)) % 256] : List Int)) := ⟨_, rfl⟩; replace H : (some (strOfNums y194)) = some r := by first | (rw [hy194]; with_reducible exact H) | (have H2_ := (Option.bind_some _ _).symm.trans H; rw [hy194]; with_reducible exact H2_) | (have H2_ := (Option.bind_some _ _).symm.trans H; with_reducible exact H2_) | with_reducible exact H | (rw [hy194]; exact H) | exact H
  have Ny194 := Aside0.mk hy194; clear hy194; obtain rfl := Option.some.inj H; go_enter Tryz.func58, Tryz.ntmps58; go_wp2_with (first | ((with_reducible refine gate_dst (N := 16) rfl ?_); refine Kd.R_lit (Kd.int .u8) _ 5 ?hg (N := 16) ?hd (xs := ([(wrap64 (48 + a0)) % 256] : List Int)) (inner := [.int .u8 ((wrap64 (48 + a0)) % 256)]) (ok := fun _ => True) (okp := fun _ => True) ?hr ?hp (fun _ hk => hk) trivial (Below.refl _ _) (Nat.le_refl _) (by simp) ?_; (case hd => rfl); (case hg => rfl); (case hr => first | (go_simp; done) | (go_simp; rfl)); (case hp => exact (Reps.one (show Kd.M (Kd.int .u8) _ _ _ ((wrap64 (48 + a0)) % 256) [.int .u8 ((wrap64 (48 + a0)) % 256)] from rfl) (Reps.none _ _))); intro v195 w8 ho9 hb hg_ hnew_; clear hg_ hnew_; (first | rw [← Ny194.out] at ho9 | (simp only [Int.reduceToNat] at ho9; rw [← Ny194.out] at ho9)); have HO196 := rlq (w := w) ho9; replace HB := Aside0.mk (below_step bq hb); clear hb ho9; have hcv10 := own_string (P := Tryz.prog) Tryz.underlying22 Tryz.underlying5 Tryz.underlying9 (Kd.own_of_R HO196.out))); go_ret; exact ⟨vq, bq⟩
 refine bnq fun t197 A11 => ?_; intro H; obtain ⟨y198, hy198⟩ : ∃ y_ : List Int, y_ = (([(wrap64 (48 + (Int.tmod a0 10))) % 256] : List Int)) := ⟨_, rfl⟩; replace H : (if t197.size + (strOfNums y198).size ≤ 9223372036854775807 then (some (t197 ++ (strOfNums y198))) else (none)) = some r := by first | (rw [hy198]; with_reducible exact H) | (have H2_ := (Option.bind_some _ _).symm.trans H; rw [hy198]; with_reducible exact H2_) | (have H2_ := (Option.bind_some _ _).symm.trans H; with_reducible exact H2_) | with_reducible exact H | (rw [hy198]; exact H) | exact H
 have Ny198 := Aside0.mk hy198; clear hy198; by_cases c12 : t197.size + (strOfNums y198).size ≤ 9223372036854775807
 ·rw [if_pos c12] at H; have c12b0 := eq_true c12; have c12b1 := decide_eq_true c12; try have c12b2 : (9223372036854775807 < t197.size + (strOfNums y198).size) = False := eq_false (Nat.not_lt.2 c12)
  obtain rfl := Option.some.inj H; go_enter Tryz.func58, Tryz.ntmps58; try go_wp2
  replace HB := Aside0.mk (below_drew1 HB.out); refine start_ (n := 11) (S := fun w' => True) (ds := []) #[false,false,false,false,false,false,false,false,false,false,false] (by kernel_rfl) rfl rfl trivial (fun hHeld => ?_); refine with_tabW spec_l1Dec.tab7 spec_l1Dec.bits7 (fun HT_ HW_ => ?_); generalize w.drew = w13 at HB hHeld ⊢; refine pure_ (i := 0) (N := some 18) (v := ?_) (a' := ?_) #[true,false,false,false,false,false,false,false,false,false,false] rfl rfl (any_of HT_.out (by kernel_rfl)) (fun _ _ _ h => h) (Or.inl ⟨by rfl, ?_⟩) ?_ ?_; rotate_left
  ·intro w'; go_simp; with_reducible rfl
  rotate_left
  ·simp only [Act.put, List.setIfInBounds_toArray, List.set_cons_zero, List.set_cons_succ, i64_w, i32_w]; rfl
  refine pure_ (i := 1) (N := some 19) (v := ?_) (a' := ?_) #[true,true,false,false,false,false,false,false,false,false,false] rfl rfl (any_of HT_.out (by kernel_rfl)) (fun _ _ _ h => h) (Or.inl ⟨by rfl, ?_⟩) ?_ ?_; rotate_left
  ·intro w'; go_simp; with_reducible rfl
  rotate_left
  ·simp only [Act.put, List.setIfInBounds_toArray, List.set_cons_zero, List.set_cons_succ, i64_w, i32_w]; rfl
  refine pure_ (i := 3) (N := some 21) (v := ?_) (a' := ?_) #[true,true,false,true,false,false,false,false,false,false,false] rfl rfl (any_of HT_.out (by kernel_rfl)) (fun _ _ _ h => h) (Or.inl ⟨by rfl, ?_⟩) ?_ ?_; rotate_left
  ·intro w'; go_simp; with_reducible rfl
  rotate_left
  ·simp only [Act.put, List.setIfInBounds_toArray, List.set_cons_zero, List.set_cons_succ, i64_w, i32_w]; rfl
  refine pure_ (i := 4) (N := some 22) (v := ?_) (a' := ?_) #[true,true,false,true,true,false,false,false,false,false,false] rfl rfl (any_of HT_.out (by kernel_rfl)) (fun _ _ _ h => h) (Or.inl ⟨by rfl, ?_⟩) ?_ ?_; rotate_left
  ·intro w'; go_simp; with_reducible rfl
  rotate_left
  ·simp only [Act.put, List.setIfInBounds_toArray, List.set_cons_zero, List.set_cons_succ, i64_w, i32_w]; rfl
  refine pure_ (i := 5) (N := some 23) (v := ?_) (a' := ?_) #[true,true,false,true,true,true,false,false,false,false,false] rfl rfl (any_of HT_.out (by kernel_rfl)) (fun _ _ _ h => h) (Or.inl ⟨by rfl, ?_⟩) ?_ ?_; rotate_left
  ·intro w'; go_simp; with_reducible rfl
  rotate_left
  ·simp only [Act.put, List.setIfInBounds_toArray, List.set_cons_zero, List.set_cons_succ, i64_w, i32_w]; rfl
  refine pure_ (i := 6) (N := some 24) (v := ?_) (a' := ?_) #[true,true,false,true,true,true,true,false,false,false,false] rfl rfl (any_of HT_.out (by kernel_rfl)) (fun _ _ _ h => h) (Or.inl ⟨by rfl, ?_⟩) ?_ ?_; rotate_left
  ·intro w'; go_simp; with_reducible rfl
  rotate_left
  ·simp only [Act.put, List.setIfInBounds_toArray, List.set_cons_zero, List.set_cons_succ, i64_w, i32_w]; rfl
  refine join_ (σ := Value) 2 #[true,true,true,true,true,true,true,true,true,false,false] (fun s_ => [(20, .string t197), (25, s_), (26, .string (strOfNums y198))]) (fun s_ w' => (Kd.R (Kd.int .u8) 5 w' w.heap.size (fun _ => True) s_ y198) ∧ (Below w.heap.size w w')) ?_ ?_; rotate_left
  ·intro hCont; refine two_ (i := 2) (j := 7) (Ni := some 20) (Nj := some 25) #[true,true,true,true,true,true,true,false,false,false,false] #[true,true,false,true,true,true,true,true,false,false,false] rfl rfl rfl rfl (two_of HT_.out (by kernel_rfl)) (by decide) (by decide) (fun K hK => ?_) (fun K hK => ?_)
   ·skip; refine goes_ Tryz.func58 (by kernel_rfl) rfl #[.int .i64 (wrap64 (Int.tdiv a0 10))] (by rfl) rfl rfl aq ?_; with_reducible refine (ih k (by omega) (wrap64 (Int.tdiv a0 10)) t197 _ A11.out).mono ?_; rintro e w14 ⟨rfl, hb⟩; refine ⟨_, rfl, ?_⟩; replace HB := Aside0.mk (below_step bq hb); clear hb; refine hK.out _ _ trivial (fun hHeld => ?_); clear hK K; refine norm_ (a' := ?_) ?_ ?_; rotate_left
    ·show Act.put _ (some 20) _ = _; simp only [Act.put, List.setIfInBounds_toArray, List.set_cons_zero, List.set_cons_succ, i64_w, i32_w]; rfl
    refine one_ (i := 7) (N := some 25) #[true,true,true,true,true,true,true,true,false,false,false] rfl rfl (one_of HT_.out (by kernel_rfl)) (by decide) (fun K hK => ?_); refine Kd.R_lit_step (Kd.int .u8) _ 5 ?hg (N := 25) ?hd (xs := ([(wrap64 (48 + (Int.tmod a0 10))) % 256] : List Int)) (inner := [.int .u8 ((wrap64 (48 + (Int.tmod a0 10))) % 256)]) (ok := fun _ => True) (okp := fun _ => True) ?hr ?hp (fun _ hk => hk) trivial (Below.refl _ _) (Nat.le_refl _) (by simp) ?_; (case hd => rfl); (case hg => rfl); (case hr => first | (go_simp; done) | (go_simp; rfl)); (case hp => exact (Reps.one (show Kd.M (Kd.int .u8) _ _ _ ((wrap64 (48 + (Int.tmod a0 10))) % 256) [.int .u8 ((wrap64 (48 + (Int.tmod a0 10))) % 256)] from rfl) (Reps.none _ _))); intro v199 w15 ho16 hb hg_ hnew_; clear hg_ hnew_; (first | rw [← Ny198.out] at ho16 | (simp only [Int.reduceToNat] at ho16; rw [← Ny198.out] at ho16)); have HO200 := rlq (w := w) ho16; replace HB := Aside0.mk (below_step bq hb); clear hb ho16; refine hK.out _ _ trivial (fun hHeld => ?_); clear hK K; refine norm_ (a' := ?_) ?_ ?_; rotate_left
    ·show Act.put _ (some 25) _ = _; simp only [Act.put, List.setIfInBounds_toArray, List.set_cons_zero, List.set_cons_succ, i64_w, i32_w]; rfl
    refine one_ (i := 8) (N := some 26) #[true,true,true,true,true,true,true,true,true,false,false] rfl rfl (one_of HT_.out (by kernel_rfl)) (by decide) (fun K hK => ?_); have hcv17 := own_string (P := Tryz.prog) Tryz.underlying22 Tryz.underlying5 Tryz.underlying9 (Kd.own_of_R HO200.out); refine value_ (w1 := ?_) (v := ?_) (by rfl) rfl ?_ ?_; rotate_left 2
    ·go_simp; constructor
     ·rfl
     ·rfl
    clear hcv17; refine hK.out _ _ trivial (fun hHeld => ?_); clear hK K; refine norm_ (a' := ?_) ?_ ?_; rotate_left
    ·show Act.put _ (some 26) _ = _; simp only [Act.put, List.setIfInBounds_toArray, List.set_cons_zero, List.set_cons_succ, i64_w, i32_w]; rfl
    exact norm_ (by simp only [putAll, Act.put, List.setIfInBounds_toArray, List.set_cons_zero, List.set_cons_succ]) (hCont (v199) _ ⟨rq, (bq)⟩)
   ·skip; refine Kd.R_lit_step (Kd.int .u8) _ 5 ?hg (N := 25) ?hd (xs := ([(wrap64 (48 + (Int.tmod a0 10))) % 256] : List Int)) (inner := [.int .u8 ((wrap64 (48 + (Int.tmod a0 10))) % 256)]) (ok := fun _ => True) (okp := fun _ => True) ?hr ?hp (fun _ hk => hk) trivial (Below.refl _ _) (Nat.le_refl _) (by simp) ?_; (case hd => rfl); (case hg => rfl); (case hr => first | (go_simp; done) | (go_simp; rfl)); (case hp => exact (Reps.one (show Kd.M (Kd.int .u8) _ _ _ ((wrap64 (48 + (Int.tmod a0 10))) % 256) [.int .u8 ((wrap64 (48 + (Int.tmod a0 10))) % 256)] from rfl) (Reps.none _ _))); intro v199 w14 ho15 hb hg_ hnew_; clear hg_ hnew_; (first | rw [← Ny198.out] at ho15 | (simp only [Int.reduceToNat] at ho15; rw [← Ny198.out] at ho15)); have HO200 := rlq (w := w) ho15; replace HB := Aside0.mk (below_step bq hb); clear hb ho15; refine hK.out _ _ trivial (fun hHeld => ?_); clear hK K; refine norm_ (a' := ?_) ?_ ?_; rotate_left
    ·show Act.put _ (some 25) _ = _; simp only [Act.put, List.setIfInBounds_toArray, List.set_cons_zero, List.set_cons_succ, i64_w, i32_w]; rfl
    refine two_ (i := 2) (j := 8) (Ni := some 20) (Nj := some 26) #[true,true,true,true,true,true,true,true,false,false,false] #[true,true,false,true,true,true,true,true,true,false,false] rfl rfl rfl rfl (two_of HT_.out (by kernel_rfl)) (by decide) (by decide) (fun K hK => ?_) (fun K hK => ?_)
    ·skip; refine goes_ Tryz.func58 (by kernel_rfl) rfl #[.int .i64 (wrap64 (Int.tdiv a0 10))] (by rfl) rfl rfl aq ?_; with_reducible refine (ih k (by omega) (wrap64 (Int.tdiv a0 10)) t197 _ A11.out).mono ?_; rintro e w16 ⟨rfl, hb⟩; refine ⟨_, rfl, ?_⟩; replace HO200 := Aside0.mk (Kd.R_below rq hb); replace HB := Aside0.mk (below_step bq hb); clear hb; refine hK.out _ _ trivial (fun hHeld => ?_); clear hK K; refine norm_ (a' := ?_) ?_ ?_; rotate_left
     ·show Act.put _ (some 20) _ = _; simp only [Act.put, List.setIfInBounds_toArray, List.set_cons_zero, List.set_cons_succ, i64_w, i32_w]; rfl
     refine one_ (i := 8) (N := some 26) #[true,true,true,true,true,true,true,true,true,false,false] rfl rfl (one_of HT_.out (by kernel_rfl)) (by decide) (fun K hK => ?_); have hcv17 := own_string (P := Tryz.prog) Tryz.underlying22 Tryz.underlying5 Tryz.underlying9 (Kd.own_of_R HO200.out); refine value_ (w1 := ?_) (v := ?_) (by rfl) rfl ?_ ?_; rotate_left 2
     ·go_simp; constructor
      ·rfl
      ·rfl
     clear hcv17; refine hK.out _ _ trivial (fun hHeld => ?_); clear hK K; refine norm_ (a' := ?_) ?_ ?_; rotate_left
     ·show Act.put _ (some 26) _ = _; simp only [Act.put, List.setIfInBounds_toArray, List.set_cons_zero, List.set_cons_succ, i64_w, i32_w]; rfl
     exact norm_ (by simp only [putAll, Act.put, List.setIfInBounds_toArray, List.set_cons_zero, List.set_cons_succ]) (hCont (v199) _ ⟨rq, (bq)⟩)
    ·skip; have hcv16 := own_string (P := Tryz.prog) Tryz.underlying22 Tryz.underlying5 Tryz.underlying9 (Kd.own_of_R HO200.out); refine value_ (w1 := ?_) (v := ?_) (by rfl) rfl ?_ ?_; rotate_left 2
     ·go_simp; constructor
      ·rfl
      ·rfl
     clear hcv16; refine hK.out _ _ trivial (fun hHeld => ?_); clear hK K; refine norm_ (a' := ?_) ?_ ?_; rotate_left
     ·show Act.put _ (some 26) _ = _; simp only [Act.put, List.setIfInBounds_toArray, List.set_cons_zero, List.set_cons_succ, i64_w, i32_w]; rfl
     refine one_ (i := 2) (N := some 20) #[true,true,true,true,true,true,true,true,true,false,false] rfl rfl (one_of HT_.out (by kernel_rfl)) (by decide) (fun K hK => ?_); refine goes_ Tryz.func58 (by kernel_rfl) rfl #[.int .i64 (wrap64 (Int.tdiv a0 10))] (by rfl) rfl rfl aq ?_; with_reducible refine (ih k (by omega) (wrap64 (Int.tdiv a0 10)) t197 _ A11.out).mono ?_; rintro e w17 ⟨rfl, hb⟩; refine ⟨_, rfl, ?_⟩; replace HO200 := Aside0.mk (Kd.R_below rq hb); replace HB := Aside0.mk (below_step bq hb); clear hb; refine hK.out _ _ trivial (fun hHeld => ?_); clear hK K; refine norm_ (a' := ?_) ?_ ?_; rotate_left
     ·show Act.put _ (some 20) _ = _; simp only [Act.put, List.setIfInBounds_toArray, List.set_cons_zero, List.set_cons_succ, i64_w, i32_w]; rfl
     exact norm_ (by simp only [putAll, Act.put, List.setIfInBounds_toArray, List.set_cons_zero, List.set_cons_succ]) (hCont (v199) _ ⟨rq, (bq)⟩)
  rintro v199 w18 ⟨h0_, h1_⟩; have n0_ : Aside0 (Kd.R (Kd.int .u8) 5 w18 w.heap.size (fun _ => True) v199 y198) := ⟨h0_⟩; have n1_ : Aside0 (Below w.heap.size w w18) := ⟨h1_⟩; clear HB; clear h0_ h1_; have HO200 := n0_; have HB := n1_; clear n0_ n1_; have hHeld := trivial; refine norm_ (a' := ?_) ?_ ?_; rotate_left
  ·simp only [putAll, Act.put, List.setIfInBounds_toArray, List.set_cons_zero, List.set_cons_succ]; rfl
  refine pure_ (i := 9) (N := some 27) (v := ?_) (a' := ?_) #[true,true,true,true,true,true,true,true,true,true,false] rfl rfl (any_of HT_.out (by kernel_rfl)) (fun _ _ _ h => h) (Or.inl ⟨by rfl, ?_⟩) ?_ ?_; rotate_left
  ·intro w'; go_simp; with_reducible rfl
  rotate_left
  ·simp only [Act.put, List.setIfInBounds_toArray, List.set_cons_zero, List.set_cons_succ, i64_w, i32_w]; rfl
  refine pure_ (i := 10) (N := some 2) (v := ?_) (a' := ?_) #[true,true,true,true,true,true,true,true,true,true,true] rfl rfl (any_of HT_.out (by kernel_rfl)) (fun _ _ _ h => h) (Or.inl ⟨by rfl, ?_⟩) ?_ ?_; rotate_left
  ·intro w'; go_simp; with_reducible rfl
  rotate_left
  ·simp only [Act.put, List.setIfInBounds_toArray, List.set_cons_zero, List.set_cons_succ, i64_w, i32_w]; rfl
  refine done_ (done_of HT_.out (by kernel_rfl)) ?_; try go_wp2
  go_ret; exact ⟨vq, bq⟩
 ·rw [if_neg c12] at H; exact absurd H (by simp)
def spec_l2Four.f (k : Nat) (a0 : Int) : Option (ByteArray) := (spec_l1Dec.f k (wrap64 (Int.tdiv a0 16777216))).bind fun t201 => (if t201.size + 1 ≤ 9223372036854775807 then ((spec_l1Dec.f k (Int.tmod (wrap64 (Int.tdiv a0 65536)) 256)).bind fun t202 => (if (t201 ++ (⟨#[46]⟩ : ByteArray)).size + t202.size ≤ 9223372036854775807 then (if ((t201 ++ (⟨#[46]⟩ : ByteArray)) ++ t202).size + 1 ≤ 9223372036854775807 then ((spec_l1Dec.f k (Int.tmod (wrap64 (Int.tdiv a0 256)) 256)).bind fun t203 => (if (((t201 ++ (⟨#[46]⟩ : ByteArray)) ++ t202) ++ (⟨#[46]⟩ : ByteArray)).size + t203.size ≤ 9223372036854775807 then (if ((((t201 ++ (⟨#[46]⟩ : ByteArray)) ++ t202) ++ (⟨#[46]⟩ : ByteArray)) ++ t203).size + 1 ≤ 9223372036854775807 then ((spec_l1Dec.f k (Int.tmod a0 256)).bind fun t204 => (if (((((t201 ++ (⟨#[46]⟩ : ByteArray)) ++ t202) ++ (⟨#[46]⟩ : ByteArray)) ++ t203) ++ (⟨#[46]⟩ : ByteArray)).size + t204.size ≤ 9223372036854775807 then (some ((((((t201 ++ (⟨#[46]⟩ : ByteArray)) ++ t202) ++ (⟨#[46]⟩ : ByteArray)) ++ t203) ++ (⟨#[46]⟩ : ByteArray)) ++ t204)) else (none))) else (none)) else (none))) else (none)) else (none))) else (none))
theorem spec_l2Four.mono : ∀ a0 k, LeO (spec_l2Four.f k a0) (spec_l2Four.f (k + 1) a0) := by
 intro a0 k; have m0 := @spec_l1Dec.mono; unfold spec_l2Four.f; exact lq
theorem spec_l2Four.calls (k : Nat) (a0 : Int) (r : ByteArray) (w : World) (h : spec_l2Four.f k a0 = some r) :
  Calls Tryz.prog 88 #[.int .i64 a0] w fun e w' => e = .returned (.string r) ∧ Below w.heap.size w w' := by
 have HB := Aside0.mk (Below.refl w.heap.size w); unfold spec_l2Four.f at h; revert h; refine bnq fun t201 A2 => ?_; intro H; by_cases c3 : t201.size + 1 ≤ 9223372036854775807
 ·rw [if_pos c3] at H; have c3b0 := eq_true c3; have c3b1 := decide_eq_true c3; try have c3b2 : (9223372036854775807 < t201.size + 1) = False := eq_false (Nat.not_lt.2 c3)
  revert H; refine bnq fun t202 A4 => ?_; intro H; by_cases c5 : (t201 ++ (⟨#[46]⟩ : ByteArray)).size + t202.size ≤ 9223372036854775807
  ·rw [if_pos c5] at H; have c5b0 := eq_true c5; have c5b1 := decide_eq_true c5; try have c5b2 : (9223372036854775807 < (t201 ++ (⟨#[46]⟩ : ByteArray)).size + t202.size) = False := eq_false (Nat.not_lt.2 c5)
   try have c5b3 : (9223372036854775807 < t201.size + 1 + t202.size) = False := eq_false (Nat.not_lt.2 (by have h_ := c5; simp only [ByteArray.size_append] at h_; exact h_))
   by_cases c6 : ((t201 ++ (⟨#[46]⟩ : ByteArray)) ++ t202).size + 1 ≤ 9223372036854775807
   ·rw [if_pos c6] at H; have c6b0 := eq_true c6; have c6b1 := decide_eq_true c6; try have c6b2 : (9223372036854775807 < ((t201 ++ (⟨#[46]⟩ : ByteArray)) ++ t202).size + 1) = False := eq_false (Nat.not_lt.2 c6)
    try have c6b3 : (9223372036854775807 < t201.size + 1 + t202.size + 1) = False := eq_false (Nat.not_lt.2 (by have h_ := c6; simp only [ByteArray.size_append] at h_; exact h_))
    revert H; refine bnq fun t203 A7 => ?_; intro H; by_cases c8 : (((t201 ++ (⟨#[46]⟩ : ByteArray)) ++ t202) ++ (⟨#[46]⟩ : ByteArray)).size + t203.size ≤ 9223372036854775807
    ·rw [if_pos c8] at H; have c8b0 := eq_true c8; have c8b1 := decide_eq_true c8; try have c8b2 : (9223372036854775807 < (((t201 ++ (⟨#[46]⟩ : ByteArray)) ++ t202) ++ (⟨#[46]⟩ : ByteArray)).size + t203.size) = False := eq_false (Nat.not_lt.2 c8)
     try have c8b3 : (9223372036854775807 < t201.size + 1 + t202.size + 1 + t203.size) = False := eq_false (Nat.not_lt.2 (by have h_ := c8; simp only [ByteArray.size_append] at h_; exact h_))
     by_cases c9 : ((((t201 ++ (⟨#[46]⟩ : ByteArray)) ++ t202) ++ (⟨#[46]⟩ : ByteArray)) ++ t203).size + 1 ≤ 9223372036854775807
     ·rw [if_pos c9] at H; have c9b0 := eq_true c9; have c9b1 := decide_eq_true c9; try have c9b2 : (9223372036854775807 < ((((t201 ++ (⟨#[46]⟩ : ByteArray)) ++ t202) ++ (⟨#[46]⟩ : ByteArray)) ++ t203).size + 1) = False := eq_false (Nat.not_lt.2 c9)
      try have c9b3 : (9223372036854775807 < t201.size + 1 + t202.size + 1 + t203.size + 1) = False := eq_false (Nat.not_lt.2 (by have h_ := c9; simp only [ByteArray.size_append] at h_; exact h_))
      revert H; refine bnq fun t204 A10 => ?_; intro H; by_cases c11 : (((((t201 ++ (⟨#[46]⟩ : ByteArray)) ++ t202) ++ (⟨#[46]⟩ : ByteArray)) ++ t203) ++ (⟨#[46]⟩ : ByteArray)).size + t204.size ≤ 9223372036854775807
      ·rw [if_pos c11] at H; have c11b0 := eq_true c11; have c11b1 := decide_eq_true c11; try have c11b2 : (9223372036854775807 < (((((t201 ++ (⟨#[46]⟩ : ByteArray)) ++ t202) ++ (⟨#[46]⟩ : ByteArray)) ++ t203) ++ (⟨#[46]⟩ : ByteArray)).size + t204.size) = False := eq_false (Nat.not_lt.2 c11)
       try have c11b3 : (9223372036854775807 < t201.size + 1 + t202.size + 1 + t203.size + 1 + t204.size) = False := eq_false (Nat.not_lt.2 (by have h_ := c11; simp only [ByteArray.size_append] at h_; exact h_))
       obtain rfl := Option.some.inj H; go_enter Tryz.func88, Tryz.ntmps88; go_wp2_with (first | (refine gcq (some 5) rfl Tryz.func58 (spec_l1Dec.calls k (wrap64 (Int.tdiv a0 16777216)) t201 _ A2.out) ?_; rintro _ w12 ⟨rfl, hb⟩; refine ⟨_, rfl, ?_⟩; replace HB := Aside0.mk (below_step bq hb); clear hb) | (refine gcq (some 10) rfl Tryz.func58 (spec_l1Dec.calls k (Int.tmod (wrap64 (Int.tdiv a0 65536)) 256) t202 _ A4.out) ?_; rintro _ w13 ⟨rfl, hb⟩; refine ⟨_, rfl, ?_⟩; replace HB := Aside0.mk (below_step bq hb); clear hb) | (refine gcq (some 16) rfl Tryz.func58 (spec_l1Dec.calls k (Int.tmod (wrap64 (Int.tdiv a0 256)) 256) t203 _ A7.out) ?_; rintro _ w14 ⟨rfl, hb⟩; refine ⟨_, rfl, ?_⟩; replace HB := Aside0.mk (below_step bq hb); clear hb) | (refine gcq (some 21) rfl Tryz.func58 (spec_l1Dec.calls k (Int.tmod a0 256) t204 _ A10.out) ?_; rintro _ w15 ⟨rfl, hb⟩; refine ⟨_, rfl, ?_⟩; replace HB := Aside0.mk (below_step bq hb); clear hb)); go_ret; exact ⟨vq, bq⟩
      ·rw [if_neg c11] at H; exact absurd H (by simp)
     ·rw [if_neg c9] at H; exact absurd H (by simp)
    ·rw [if_neg c8] at H; exact absurd H (by simp)
   ·rw [if_neg c6] at H; exact absurd H (by simp)
  ·rw [if_neg c5] at H; exact absurd H (by simp)
 ·rw [if_neg c3] at H; exact absurd H (by simp)
def spec_HostPut.f (k : Nat) (a0_0 : Int) (a0_1 : ByteArray) (a0_2 : Int) : Option (ByteArray) := (spec_HostOk.f k a0_0 a0_1 a0_2).bind fun t206 => (if t206 = true then (if a0_0 = 2 then ((spec_l2Four.f k a0_2).bind fun t207 => (some t207)) else (some a0_1)) else (some (⟨#[]⟩ : ByteArray)))
theorem spec_HostPut.mono : ∀ a0 a1 a2 k, LeO (spec_HostPut.f k a0 a1 a2) (spec_HostPut.f (k + 1) a0 a1 a2) := by
 intro a0 a1 a2 k; have m0 := @spec_HostOk.mono; have m1 := @spec_l2Four.mono; unfold spec_HostPut.f; exact lq
theorem spec_HostPut.calls (k : Nat) (a0_0 : Int) (a0_1 : ByteArray) (a0_2 : Int) (r : ByteArray) (w : World) (h : spec_HostPut.f k a0_0 a0_1 a0_2 = some r) :
  Calls Tryz.prog 57 #[.agg #[.int .i64 a0_0, .string a0_1, .int .i64 a0_2]] w fun e w' => e = .returned (.string r) ∧ Below w.heap.size w w' := by
 have hu24 := Tryz.underlying24; have HB := Aside0.mk (Below.refl w.heap.size w); unfold spec_HostPut.f at h; revert h; refine bnq fun t206 A2 => ?_; cases t206
 ·refine bFq ?_; refine siq ?_; rintro rfl; go_enter Tryz.func57, Tryz.ntmps57; go_wp2_with (first | ((with_reducible refine gate_dst (N := 1) rfl ?_); refine box_event rfl (N := 1) rfl (cs := #[.int .i64 a0_0, .string a0_1, .int .i64 a0_2]) (t := 24) hrq ?_; intro gb205 hg w15 hbox hb; have BK205 := Aside0.mk hbox; have GW205 := gwq (w := w) hg; have GE205 := gwq (w := w) hg; replace HB := Aside0.mk (below_step bq hb); clear hb hbox hg; have hcz16 := cz3q BK205) | (refine gcq (some 4) rfl Tryz.func55 (spec_HostOk.calls k a0_0 a0_1 a0_2 false _ A2.out) ?_; rintro _ w17 ⟨rfl, hb⟩; refine ⟨_, rfl, ?_⟩; replace BK205 := blq BK205 hb; replace HB := Aside0.mk (below_step gq hb); clear hb)); go_ret; exact ⟨vq, gq⟩
 refine bTq ?_; refine iEq (fun c4b0 c4b1 => ?_) fun c4 c4b0 c4b1 => ?_
 ·refine bnq fun t207 A5 => ?_; refine siq ?_; rintro rfl; go_enter Tryz.func57, Tryz.ntmps57; go_wp2_with (first | ((with_reducible refine gate_dst (N := 1) rfl ?_); refine box_event rfl (N := 1) rfl (cs := #[.int .i64 a0_0, .string a0_1, .int .i64 a0_2]) (t := 24) hrq ?_; intro gb205 hg w6 hbox hb; have BK205 := Aside0.mk hbox; have GW205 := gwq (w := w) hg; have GE205 := gwq (w := w) hg; replace HB := Aside0.mk (below_step bq hb); clear hb hbox hg; have hcz7 := cz3q BK205) | (refine gcq (some 4) rfl Tryz.func55 (spec_HostOk.calls k a0_0 a0_1 a0_2 true _ A2.out) ?_; rintro _ w8 ⟨rfl, hb⟩; refine ⟨_, rfl, ?_⟩; replace BK205 := blq BK205 hb; replace HB := Aside0.mk (below_step gq hb); clear hb; have hcz9 := cz3q BK205) | (refine gcq (some 11) rfl Tryz.func88 (spec_l2Four.calls k a0_2 t207 _ A5.out) ?_; rintro _ w10 ⟨rfl, hb⟩; refine ⟨_, rfl, ?_⟩; replace BK205 := blq BK205 hb; replace HB := Aside0.mk (below_step gq hb); clear hb)); go_ret; exact ⟨vq, gq⟩
 refine siq ?_; rintro rfl; go_enter Tryz.func57, Tryz.ntmps57; go_wp2_with (first | ((with_reducible refine gate_dst (N := 1) rfl ?_); refine box_event rfl (N := 1) rfl (cs := #[.int .i64 a0_0, .string a0_1, .int .i64 a0_2]) (t := 24) hrq ?_; intro gb205 hg w11 hbox hb; have BK205 := Aside0.mk hbox; have GW205 := gwq (w := w) hg; have GE205 := gwq (w := w) hg; replace HB := Aside0.mk (below_step bq hb); clear hb hbox hg; have hcz12 := cz3q BK205) | (refine gcq (some 4) rfl Tryz.func55 (spec_HostOk.calls k a0_0 a0_1 a0_2 true _ A2.out) ?_; rintro _ w13 ⟨rfl, hb⟩; refine ⟨_, rfl, ?_⟩; replace BK205 := blq BK205 hb; replace HB := Aside0.mk (below_step gq hb); clear hb; have hcz14 := cz3q BK205)); go_ret; exact ⟨vq, gq⟩
def spec_l3Dots.j0 : Nat → ByteArray → Bool → Option (Int)
 | 0, _, _ => none
 | k + 1, x6, x7 => if x7 = true then (some 1) else (if x6.toList = ([46, 46] : List UInt8) then (some 2) else (if x6.toList = ([46, 37, 50, 101] : List UInt8) then (some 2) else (if x6.toList = ([37, 50, 101, 46] : List UInt8) then (some 2) else (if x6.toList = ([37, 50, 101, 37, 50, 101] : List UInt8) then (some 2) else (some 0)))))
def spec_l3Dots.f (k : Nat) (a0 : ByteArray) : Option (Int) := (spec_Lower.f k a0).bind fun t208 => (if t208.toList = ([46] : List UInt8) then (spec_l3Dots.j0 k t208 (t208.toList == ([46] : List UInt8))) else (spec_l3Dots.j0 k t208 (t208.toList == ([37, 50, 101] : List UInt8))))
theorem spec_l3Dots.mono_l : ∀ k, (∀ y0 y1, LeO (spec_l3Dots.j0 k y0 y1) (spec_l3Dots.j0 (k + 1) y0 y1))
 | 0 => fun _ _ => LeO.none _
 | k + 1 => by
  have ih0 := spec_l3Dots.mono_l k
  have m0 := @spec_Lower.mono
  exact (fun _ _ => by unfold spec_l3Dots.j0; exact lq)
theorem spec_l3Dots.mono : ∀ a0 k, LeO (spec_l3Dots.f k a0) (spec_l3Dots.f (k + 1) a0) := by
 intro a0 k; have ih0 := spec_l3Dots.mono_l k; have m0 := @spec_Lower.mono; unfold spec_l3Dots.f; exact lq
theorem spec_l3Dots.calls (k : Nat) (a0 : ByteArray) (r : Int) (w : World) (h : spec_l3Dots.f k a0 = some r) :
  Calls Tryz.prog 184 #[.string a0] w fun e w' => e = .returned (.int .i64 r) ∧ Below w.heap.size w w' := by
 have HB := Aside0.mk (Below.refl w.heap.size w); unfold spec_l3Dots.f at h; revert h; refine bnq fun t208 A2 => ?_; refine ahq fun HC3 => ?_; go_enter Tryz.func184, Tryz.ntmps184; go_upto_if 7 with (first | ((with_reducible refine gate_callee (f := 104) rfl ?_); refine goesL_ (some 5) rfl rfl Tryz.func104 (by kernel_rfl) rfl #[.string a0] rfl aq ?_; (with_reducible refine (spec_Lower.calls k a0 t208 _ A2.out).mono ?_); rintro e w4 ⟨rfl, hb⟩; refine ⟨_, rfl, ?_⟩; have n0_ := Aside0.mk (below_step (bq) hb); clear HB; have HB := n0_; clear n0_; (try clear hb); (try clear hb2); (try clear hk); (try clear hi))); (try simp only [Act.put, List.setIfInBounds_toArray, List.set_cons_zero, List.set_cons_succ]); go_cut [7] (fun v7 wc => ∃ (kq : Nat) (x7_2 : Bool), v7 = .bool x7_2 ∧ Aside0 (spec_l3Dots.j0 kq t208 x7_2 = some r) ∧ Aside0 (kq ≤ k) ∧ Aside0 (Below w.heap.size w wc)); case first =>
  have H := HC3.out; clear HC3; revert H; refine iEq (fun c5b0 c5b1 => ?_) fun c5 c5b0 c5b1 => ?_
  ·intro H; (first | rw [c5b0] | (simp only [i64_w, i32_w]; rw [c5b0]) | skip); have H' := Aside0.mk H; clear H; go_wp2; go_meet; case rel => exact ⟨_, ((t208.toList == ([46] : List UInt8))), vq, H', ⟨oq⟩, ⟨bq⟩⟩
  intro H; (first | rw [c5b0] | (simp only [i64_w, i32_w]; rw [c5b0]) | skip); have H' := Aside0.mk H; clear H; go_wp2; go_meet; case rel => exact ⟨_, ((t208.toList == ([37, 50, 101] : List UInt8))), vq, H', ⟨oq⟩, ⟨bq⟩⟩
 clear HC3; obtain ⟨kq, x7_2, rfl, HA, HJ2, HB⟩ := hcut; cases kq with | zero => exact zq HA | succ kj2 => ?_
 have H := HA.out; clear HA; simp only [spec_l3Dots.j0] at H; revert H; cases x7_2
 ·refine bFq ?_; refine iEq (fun c7b0 c7b1 => ?_) fun c7 c7b0 c7b1 => ?_
  ·refine siq ?_; rintro rfl; go_wp2; go_ret; exact ⟨vq, bq⟩
  refine iEq (fun c8b0 c8b1 => ?_) fun c8 c8b0 c8b1 => ?_
  ·refine siq ?_; rintro rfl; go_wp2; go_ret; exact ⟨vq, bq⟩
  refine iEq (fun c9b0 c9b1 => ?_) fun c9 c9b0 c9b1 => ?_
  ·refine siq ?_; rintro rfl; go_wp2; go_ret; exact ⟨vq, bq⟩
  refine iEq (fun c10b0 c10b1 => ?_) fun c10 c10b0 c10b1 => ?_
  ·refine siq ?_; rintro rfl; go_wp2; go_ret; exact ⟨vq, bq⟩
  refine siq ?_; rintro rfl; go_wp2; go_ret; exact ⟨vq, bq⟩
 refine bTq ?_; refine siq ?_; rintro rfl; go_wp2; go_ret; exact ⟨vq, bq⟩
end Go.Proofs.YtopcpbokfngpeaaGreatDoor.Lh
