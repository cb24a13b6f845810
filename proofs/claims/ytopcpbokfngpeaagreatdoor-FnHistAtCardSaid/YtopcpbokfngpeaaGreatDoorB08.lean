/- Texts of this claim, joined: Lhx9, Lhx10, Lhx11. Conditions: each theorem's own. -/
import Derived.Test.YtopcpbokfngpeaaGreatDoorB05
import Derived.Test.YtopcpbokfngpeaaGreatDoorB04
import Derived.Test.YtopcpbokfngpeaaGreatDoorB02
import Derived.Test.YtopcpbokfngpeaaGreatDoorB06
import Derived.Test.YtopcpbokfngpeaaGreatDoorB07
set_option maxHeartbeats 8000000
set_option maxRecDepth 100000
namespace Go.Proofs.YtopcpbokfngpeaaGreatDoor.Lh
open Go.RowKit Go.Proofs.YtopcpbokfngpeaaGreatDoor.H Go.Proofs.YtopcpbokfngpeaaGreatDoorW.PrintWords Go.Proofs.YtopcpbokfngpeaaGreatDoorW.PrintLast Go.Proofs.YtopcpbokfngpeaaGreatDoorW.PrintMore Go.Proofs.YtopcpbokfngpeaaGreatDoor.Lp
attribute [local go_sem] max2_int min2_int max_two min_two max_three min_three max_four min_four   -- for this text's walks alone
set_option linter.unusedVariables false
set_option linter.unusedSimpArgs false
mutual
def spec_l3Walk.l0 : Nat → List ByteArray → List ByteArray → Int → Option (List ByteArray)
 | 0, _, _, _ => none
 | k + 1, x1, x5, x6 => if x6 < (x1.length : Int) then (if 0 ≤ x6 then ((spec_l3Dots.f k (rdOf ByteArray.empty x1 x6)).bind fun t216 => (if t216 = 2 then (spec_l3Walk.j1 k x1 x5 x6 (x6 == (wrap64 ((x1.length : Int) - 1))) t216 (decide ((x5.length : Int) > 0))) else (spec_l3Walk.j1 k x1 x5 x6 (x6 == (wrap64 ((x1.length : Int) - 1))) t216 false))) else (none)) else (some x5)
def spec_l3Walk.j1 : Nat → List ByteArray → List ByteArray → Int → Bool → Int → Bool → Option (List ByteArray)
 | 0, _, _, _, _, _, _ => none
 | k + 1, x1, x5, x6, x7, x8, x34 => if x34 = true then (if 0 ≤ (wrap64 ((x5.length : Int) - 1)) then (if (wrap64 ((x5.length : Int) - 1)) ≤ (x5.length : Int) then (spec_l3Walk.j2 k x1 (x5.take ((wrap64 ((x5.length : Int) - 1)) : Int).toNat) x6 x7 x8) else (none)) else (none)) else (spec_l3Walk.j2 k x1 x5 x6 x7 x8)
def spec_l3Walk.j2 : Nat → List ByteArray → List ByteArray → Int → Bool → Int → Option (List ByteArray)
 | 0, _, _, _, _, _ => none
 | k + 1, x1, x5, x6, x7, x8 => if x8 = 0 then (if 0 ≤ x6 then (if x6 < (x1.length : Int) then ((spec_Encode.f k 1 (rdOf ByteArray.empty x1 x6)).bind fun t221 => (if x5.length < 8796093022208 then (spec_l3Walk.l0 k x1 (x5 ++ [t221]) (wrap64 (x6 + 1))) else (none))) else (none)) else (none)) else (if x7 = true then (if x5.length < 8796093022208 then (spec_l3Walk.l0 k x1 (x5 ++ [(⟨#[]⟩ : ByteArray)]) (wrap64 (x6 + 1))) else (none)) else (spec_l3Walk.l0 k x1 x5 (wrap64 (x6 + 1))))
end
def spec_l3Walk.f (k : Nat) (l0 : List ByteArray) (l1 : List ByteArray) : Option (List ByteArray) := (some (([] : List ByteArray) : List ByteArray)).bind fun y209 => (if y209.length + l0.length < 8796093022208 then (spec_l3Walk.l0 k l1 (y209 ++ l0) 0) else (none))
theorem spec_l3Walk.mono_l : ∀ k, (∀ y0 y1 y2, LeO (spec_l3Walk.l0 k y0 y1 y2) (spec_l3Walk.l0 (k + 1) y0 y1 y2)) ∧ (∀ y0 y1 y2 y3 y4 y5, LeO (spec_l3Walk.j1 k y0 y1 y2 y3 y4 y5) (spec_l3Walk.j1 (k + 1) y0 y1 y2 y3 y4 y5)) ∧ (∀ y0 y1 y2 y3 y4, LeO (spec_l3Walk.j2 k y0 y1 y2 y3 y4) (spec_l3Walk.j2 (k + 1) y0 y1 y2 y3 y4))
 | 0 => ⟨fun _ _ _ => LeO.none _, fun _ _ _ _ _ _ => LeO.none _, fun _ _ _ _ _ => LeO.none _⟩
 | k + 1 => by
  obtain ⟨ih0, ih1, ih2⟩ := spec_l3Walk.mono_l k
  have m0 := @spec_Encode.mono; have m1 := @spec_l3Dots.mono
  exact ⟨fun _ _ _ => by unfold spec_l3Walk.l0; exact lq, fun _ _ _ _ _ _ => by unfold spec_l3Walk.j1; exact lq, fun _ _ _ _ _ => by unfold spec_l3Walk.j2; exact lq⟩
theorem spec_l3Walk.mono : ∀ a0 a1 k, LeO (spec_l3Walk.f k a0 a1) (spec_l3Walk.f (k + 1) a0 a1) := by
 intro a0 a1 k; obtain ⟨ih0, ih1, ih2⟩ := spec_l3Walk.mono_l k; have m0 := @spec_Encode.mono; have m1 := @spec_l3Dots.mono; unfold spec_l3Walk.f; exact lq
theorem spec_l3Walk.calls (k : Nat) (A0 : Option Addr) (c0 : Nat) (l0 : List ByteArray) (A1 : Option Addr) (c1 : Nat) (l1 : List ByteArray) (r : List ByteArray) (w : World) (hr0 : Kd.C Kd.string w A0 l0.length l0) (hc0 : l0.length ≤ c0) (hr1 : Kd.C Kd.string w A1 l1.length l1) (hc1 : l1.length ≤ c1) (h : spec_l3Walk.f k l0 l1 = some r) :
  Calls Tryz.prog 164 #[.slice A0 l0.length c0, .slice A1 l1.length c1] w fun e w' => ∃ v0_ : Value, e = .returned (v0_) ∧ Kd.R Kd.string 9 w' w.heap.size (fun _ => True) v0_ r ∧ Below w.heap.size w w' := by
 have HR0 := Aside0.mk hr0; have HC0 := Aside0.mk hc0; clear hr0 hc0; have HR1 := Aside0.mk hr1; have HC1 := Aside0.mk hc1; clear hr1 hc1; have HB := Aside0.mk (Below.refl w.heap.size w); unfold spec_l3Walk.f at h; revert h; intro H; obtain ⟨y209, hy209⟩ : ∃ y_ : List ByteArray, y_ = (([] : List ByteArray)) := ⟨_, rfl⟩; replace H : (if y209.length + l0.length < 8796093022208 then (spec_l3Walk.l0 k l1 (y209 ++ l0) 0) else (none)) = some r := by first | (rw [hy209]; with_reducible exact H) | (have H2_ := (Option.bind_some _ _).symm.trans H; rw [hy209]; with_reducible exact H2_) | (have H2_ := (Option.bind_some _ _).symm.trans H; with_reducible exact H2_) | with_reducible exact H | (rw [hy209]; exact H) | exact H
 have Ny209 := Aside0.mk hy209; clear hy209; by_cases c3 : y209.length + l0.length < 8796093022208
 ·rw [if_pos c3] at H; have LMc3 := Aside0.mk c3; clear c3; obtain ⟨y212, hy212⟩ : ∃ y_ : List ByteArray, y_ = (y209 ++ l0) := ⟨_, rfl⟩; replace H : (spec_l3Walk.l0 k l1 y212 0) = some r := by first | (rw [hy212]; with_reducible exact H) | (have H2_ := (Option.bind_some _ _).symm.trans H; rw [hy212]; with_reducible exact H2_) | (have H2_ := (Option.bind_some _ _).symm.trans H; with_reducible exact H2_) | with_reducible exact H | (rw [hy212]; exact H) | exact H
  have Ny212 := Aside0.mk hy212; clear hy212; have H' := Aside0.mk H; clear H; go_enter Tryz.func164, Tryz.ntmps164; go_wp2_with (first | ((with_reducible refine gate_dst (N := 9) rfl ?_); (try (refine gate_guard (by rfl) ?_; dsimp only)); refine Kd.R_lit Kd.string _ 9 ?hg (N := 9) ?hd (xs := ([] : List ByteArray)) (inner := []) (ok := fun _ => True) (okp := fun _ => True) ?hr ?hp (fun _ hk => hk) trivial (Below.refl _ _) (Nat.le_refl _) (by simp) ?_; (case hd => rfl); (case hg => rfl); (case hr => first | (go_simp; done) | (go_simp; rfl)); (case hp => exact (Reps.none _ _)); intro v210 w4 ho5 hb hg_ hnew_; clear hg_ hnew_; (first | rw [← Ny209.out] at ho5 | (simp only [Int.reduceToNat] at ho5; rw [← Ny209.out] at ho5)); have HO211 := rlq (w := w) ho5; replace HB := Aside0.mk (below_step bq hb); clear hb ho5) | ((with_reducible refine gate_builtin (b := .append) (xs := #[.tmp 9, .tmp 10]) rfl ?_); (try (refine gate_guard (by rfl) ?_; dsimp only)); at_builtin; refine Kd.R_append_rows Kd.string (w0 := w) w.heap.size rfl (.tmp 9) (.tmp 10) 25 9 (.string ⟨#[]⟩) 16 rfl Tryz.underlying25 info9 rfl (by decide) (by omega) v210 y209 l0 _ _ _ (fun _ => True) (fun _ => False) rfl rfl ?aO ?aR (fun _ _ h => h) (fun _ h => h.elim) ?aF ?aB ?aS ?aL ?_; (case aR => repeat (first | exact (Kd.C_below HR0.out HB.out) | (with_reducible refine Kd.C_alloc ?_ _) | (with_reducible refine Kd.C_drewN ?_ _) | (with_reducible refine Kd.C_drew ?_))); (case aB => exact (bq)); (case aF => exact (fun _ _ => trivial)); (case aO => exact rq); (case aS => exact (below_size (bq))); (case aL => have := LMc3.out; omega); intro v213 w6 ho hb hg hat; rw [← Ny212.out] at ho; have HO214 := Aside0.mk (ho); replace HB := Aside0.mk (hb); clear HO211; clear ho hb)); go_loopg [5, 6] k (fun kq v5 v6 w' => ∃ (x5_1 : List ByteArray) (x6_1 : Int), v6 = .int .i64 x6_1 ∧ Aside0 (spec_l3Walk.l0 kq l1 x5_1 x6_1 = some r) ∧ Aside0 (kq ≤ k) ∧ Aside0 (Kd.R Kd.string 9 w' w.heap.size (fun _ => True) v5 x5_1) ∧ Aside0 (Below w.heap.size w w')); case atStart => exact ⟨(y212), (0), vq, H', ⟨oq⟩, ⟨rq⟩, ⟨bq⟩⟩
  clear H'; obtain ⟨x5_1, x6_1, rfl, HA, HK1, HO_5, HB⟩ := hrel; cases gk with | zero => exact zq HA | succ k1 => ?_
  have H := HA.out; clear HA; simp only [spec_l3Walk.l0] at H; revert H; refine iDq (fun c7b0 => ?_) fun c7b0 => ?_
  ·refine iDnq fun c8b0 => ?_; refine bnq fun t216 A9 => ?_; refine ahq fun HC10 => ?_; have p215 : 0 ≤ (x6_1 : Int) := of_decide_eq_true (by assumption); have q215 : x6_1 < (l1.length : Int) := of_decide_eq_true (by assumption); obtain ⟨ad215, e215, hx215_0⟩ := Kd.at_string HR1.out x6_1 p215 q215; cases e215; replace hx215_0 := (HB.out.cell (World.block_lt_of_cell? w _ hx215_0)).trans hx215_0; replace p215 := eq_true p215; replace q215 := eq_true q215; go_upto_region 7 with (first | (refine gcq (some 27) rfl Tryz.func184 (spec_l3Dots.calls k1 (rdOf ByteArray.empty l1 x6_1) t216 _ A9.out) ?_; rintro _ w11 ⟨rfl, hb⟩; refine ⟨_, rfl, ?_⟩; replace HO_5 := Aside0.mk (Kd.R_below rq hb); replace HB := Aside0.mk (below_step bq hb); clear hb)); (try simp only [Act.put, List.setIfInBounds_toArray, List.set_cons_zero, List.set_cons_succ]); go_cut [34] (fun v34 wc => ∃ (kq : Nat) (x34_9 : Bool), v34 = .bool x34_9 ∧ Aside0 (spec_l3Walk.j1 kq l1 x5_1 x6_1 (x6_1 == (wrap64 ((l1.length : Int) - 1))) t216 x34_9 = some r) ∧ Aside0 (kq ≤ k1) ∧ Aside0 (Kd.R Kd.string 9 wc w.heap.size (fun _ => True) u5 x5_1) ∧ Aside0 (Below w.heap.size w wc)); case first =>
    have H := HC10.out; clear HC10; revert H; refine iEq (fun c12b0 c12b1 => ?_) fun c12 c12b0 c12b1 => ?_
    ·intro H; (first | rw [c12b0] | (simp only [i64_w, i32_w]; rw [c12b0]) | skip); have H' := Aside0.mk H; clear H; obtain ⟨Ao13, co13, rfl⟩ := Kd.R_slice HO_5.out; go_wp2; go_meet; case rel => exact ⟨_, (decide ((x5_1.length : Int) > 0)), vq, H', ⟨oq⟩, ⟨rq⟩, ⟨bq⟩⟩
    intro H; (first | rw [c12b0] | (simp only [i64_w, i32_w]; rw [c12b0]) | skip); have H' := Aside0.mk H; clear H; go_wp2; go_meet; case rel => exact ⟨_, (false), vq, H', ⟨oq⟩, ⟨rq⟩, ⟨bq⟩⟩
   clear HC10; obtain ⟨kq, x34_9, rfl, HA, HJ9, HO_5, HB⟩ := hcut; cases kq with | zero => exact zq HA | succ kj9 => ?_
   have H := HA.out; clear HA; simp only [spec_l3Walk.j1] at H; have HC14 := Aside0.mk H; clear H; go_upto_if 34 with (fail); go_cut [5] (fun v5 wc => ∃ (kq : Nat) (x5_13 : List ByteArray), Aside0 (spec_l3Walk.j2 kq l1 x5_13 x6_1 (x6_1 == (wrap64 ((l1.length : Int) - 1))) t216 = some r) ∧ Aside0 (kq ≤ kj9) ∧ Aside0 (Kd.R Kd.string 9 wc w.heap.size (fun _ => True) v5 x5_13) ∧ Aside0 (Below w.heap.size w wc)); case first =>
    have H := HC14.out; clear HC14; revert H; cases x34_9
    ·refine bFq ?_; refine ahq fun H' => ?_; go_wp2; go_meet; case rel => exact ⟨_, (x5_1), H', ⟨oq⟩, ⟨rq⟩, ⟨bq⟩⟩
    refine bTq ?_; intro H; obtain ⟨ji16, hji16⟩ : ∃ j_ : Int, (wrap64 ((x5_1.length : Int) - 1)) = j_ := ⟨_, rfl⟩; (first | rw [hji16] at H | simp only [hji16] at H); have hji16w : (IntKind.i64.wrap ((x5_1.length : Int) - 1)) = ji16 := (i64_w _).trans hji16; revert H; refine iTnq fun c17b0 c17b1 => ?_; refine iTnq fun c18b0 c18b1 => ?_; intro H; obtain ⟨y217, hy217⟩ : ∃ y_ : List ByteArray, y_ = (x5_1.take ((ji16) : Int).toNat) := ⟨_, rfl⟩; replace H : (spec_l3Walk.j2 kj9 l1 y217 x6_1 (x6_1 == (wrap64 ((l1.length : Int) - 1))) t216) = some r := by first | (rw [hy217]; with_reducible exact H) | (have H2_ := (Option.bind_some _ _).symm.trans H; rw [hy217]; with_reducible exact H2_) | (have H2_ := (Option.bind_some _ _).symm.trans H; with_reducible exact H2_) | with_reducible exact H | (rw [hy217]; exact H) | exact H
    have Ny217 := Aside0.mk hy217; clear hy217; have H' := Aside0.mk H; clear H; obtain ⟨Ao19, co19, rfl⟩ := Kd.R_slice HO_5.out; have q20 : ((ji16) : Int) ≤ ((x5_1.length : Int) : Int) := of_decide_eq_true (by assumption); obtain ⟨i020, hi020, _, hsz20, _⟩ := info_parts info9; have hcut20 := cut_to (P := Tryz.prog) 25 9 .i64 Tryz.underlying25 hi020 Ao19 x5_1.length co19 (ji16) (of_decide_eq_true (by assumption)) q20 (Kd.R_reads' HO_5.out).2.1; have hr20 := Kd.R_take (m := ((ji16) : Int).toNat) HO_5.out (by omega); have hy20 : y217.length = ((ji16) : Int).toNat := (by rw [Ny217.out, List.length_take]; omega); rw [← Ny217.out] at hr20; rw [← hy20] at hr20 hcut20; clear hy20 hi020 hsz20 HO_5; have HO219 := Aside0.mk hr20; clear hr20; replace q20 := eq_true q20; go_wp2; go_meet; case rel => exact ⟨_, (y217), H', ⟨oq⟩, ⟨rq⟩, ⟨bq⟩⟩
   clear HC14; obtain ⟨kq, x5_13, HA, HJ13, HO_5, HB⟩ := hcut; cases kq with | zero => exact zq HA | succ kj13 => ?_
   have H := HA.out; clear HA; simp only [spec_l3Walk.j2] at H; revert H; refine iEq (fun c21b0 c21b1 => ?_) fun c21 c21b0 c21b1 => ?_
   ·refine iDnq fun c22b0 => ?_; refine iDnq fun c23b0 => ?_; refine bnq fun t221 A24 => ?_; intro H; by_cases c25 : x5_13.length < 8796093022208
    ·rw [if_pos c25] at H; have LMc25 := Aside0.mk c25; clear c25; obtain ⟨y222, hy222⟩ : ∃ y_ : List ByteArray, y_ = (x5_13 ++ [t221]) := ⟨_, rfl⟩; replace H : (spec_l3Walk.l0 kj13 l1 y222 (wrap64 (x6_1 + 1))) = some r := by first | (rw [hy222]; with_reducible exact H) | (have H2_ := (Option.bind_some _ _).symm.trans H; rw [hy222]; with_reducible exact H2_) | (have H2_ := (Option.bind_some _ _).symm.trans H; with_reducible exact H2_) | with_reducible exact H | (rw [hy222]; exact H) | exact H
     have Ny222 := Aside0.mk hy222; clear hy222; have H' := Aside0.mk H; clear H; have p220 : 0 ≤ (x6_1 : Int) := of_decide_eq_true (by assumption); have q220 : x6_1 < (l1.length : Int) := of_decide_eq_true (by assumption); obtain ⟨ad220, e220, hx220_0⟩ := Kd.at_string HR1.out x6_1 p220 q220; obtain rfl : ad215 = ad220 := (by injection e220); replace hx220_0 := (HB.out.cell (World.block_lt_of_cell? w _ hx220_0)).trans hx220_0; replace p220 := eq_true p220; replace q220 := eq_true q220; go_wp2_with (first | (refine gcq (some 47) rfl Tryz.func106 (spec_Encode.calls kj13 1 (rdOf ByteArray.empty l1 x6_1) t221 _ A24.out) ?_; rintro _ w26 ⟨rfl, hb⟩; refine ⟨_, rfl, ?_⟩; replace HO_5 := Aside0.mk (Kd.R_below rq hb); replace HB := Aside0.mk (below_step bq hb); clear hb) | ((with_reducible refine gate_builtin (b := .append) (xs := #[.tmp 42, .tmp 48]) rfl ?_); (try (refine gate_guard (by rfl) ?_; dsimp only)); at_builtin; refine Kd.R_append Kd.string (w0 := w) w.heap.size rfl (.tmp 42) (.tmp 48) 25 9 (.string ⟨#[]⟩) 16 rfl Tryz.underlying25 info9 rfl (by decide) (by omega) u5 x5_13 t221 [.string t221] (fun _ => True) (fun _ => False) rfl rfl ?aP (fun _ hk => hk.elim) ?aF ?aO ?aB ?aS ?aL ?_; (case aP => exact rfl); (case aB => exact (bq)); (case aF => exact (fun _ _ => trivial)); (case aO => exact rq); (case aS => exact (below_size (bq))); (case aL => have := LMc25.out; omega); intro v223 w27 ho hb hg hat; rw [← Ny222.out] at ho; have HO224 := Aside0.mk (ho); replace HB := Aside0.mk (hb); clear HO_5; clear ho hb)); go_roundg kj13; case measure => exact oq
     case rel => exact ⟨(y222), (wrap64 (x6_1 + 1)), vq, H', ⟨oq⟩, ⟨rq⟩, ⟨bq⟩⟩
    ·rw [if_neg c25] at H; exact absurd H (by simp)
   intro H; by_cases c28 : (x6_1 == (wrap64 ((l1.length : Int) - 1))) = true
   ·rw [if_pos c28] at H; have c28b0 : (x6_1 == (wrap64 ((l1.length : Int) - 1))) = true := c28; (try (have c28b1 : decide (x6_1 = (wrap64 ((l1.length : Int) - 1))) = true := by simpa using c28)); (try (have c28b2 : (x6_1 == (wrap64 ((l1.length : Int) - 1))) = true := by simpa using c28)); clear c28; by_cases c29 : x5_13.length < 8796093022208
    ·rw [if_pos c29] at H; have LMc29 := Aside0.mk c29; clear c29; obtain ⟨y225, hy225⟩ : ∃ y_ : List ByteArray, y_ = (x5_13 ++ [(⟨#[]⟩ : ByteArray)]) := ⟨_, rfl⟩; replace H : (spec_l3Walk.l0 kj13 l1 y225 (wrap64 (x6_1 + 1))) = some r := by first | (rw [hy225]; with_reducible exact H) | (have H2_ := (Option.bind_some _ _).symm.trans H; rw [hy225]; with_reducible exact H2_) | (have H2_ := (Option.bind_some _ _).symm.trans H; with_reducible exact H2_) | with_reducible exact H | (rw [hy225]; exact H) | exact H
     have Ny225 := Aside0.mk hy225; clear hy225; have H' := Aside0.mk H; clear H; go_wp2_with (first | ((with_reducible refine gate_builtin (b := .append) (xs := #[.tmp 51, .tmp 52]) rfl ?_); (try (refine gate_guard (by rfl) ?_; dsimp only)); at_builtin; refine Kd.R_append Kd.string (w0 := w) w.heap.size rfl (.tmp 51) (.tmp 52) 25 9 (.string ⟨#[]⟩) 16 rfl Tryz.underlying25 info9 rfl (by decide) (by omega) u5 x5_13 (⟨#[]⟩ : ByteArray) [.string (⟨#[]⟩ : ByteArray)] (fun _ => True) (fun _ => False) rfl rfl ?aP (fun _ hk => hk.elim) ?aF ?aO ?aB ?aS ?aL ?_; (case aP => exact rfl); (case aB => exact (bq)); (case aF => exact (fun _ _ => trivial)); (case aO => exact rq); (case aS => exact (below_size (bq))); (case aL => have := LMc29.out; omega); intro v226 w30 ho hb hg hat; rw [← Ny225.out] at ho; have HO227 := Aside0.mk (ho); replace HB := Aside0.mk (hb); clear HO_5; clear ho hb)); go_roundg kj13; case measure => exact oq
     case rel => exact ⟨(y225), (wrap64 (x6_1 + 1)), vq, H', ⟨oq⟩, ⟨rq⟩, ⟨bq⟩⟩
    ·rw [if_neg c29] at H; exact absurd H (by simp)
   ·rw [if_neg c28] at H; have c28b0 : (x6_1 == (wrap64 ((l1.length : Int) - 1))) = false := by simpa using c28
    (try (have c28b1 : decide (x6_1 = (wrap64 ((l1.length : Int) - 1))) = false := by simpa using c28)); (try (have c28b2 : (x6_1 == (wrap64 ((l1.length : Int) - 1))) = false := by simpa using c28)); (try (have c28b3 : ¬ (x6_1 = (wrap64 ((l1.length : Int) - 1))) := by simpa using c28)); clear c28; have H' := Aside0.mk H; clear H; go_wp2; go_roundg kj13; case measure => exact oq
    case rel => exact ⟨(x5_13), (wrap64 (x6_1 + 1)), vq, H', ⟨oq⟩, ⟨rq⟩, ⟨bq⟩⟩
  refine siq ?_; rintro rfl; go_wp2; go_ret; exact ⟨_, by first | rfl | (simp [errW_none, errW_some] <;> rfl) | (simp [*, errW_none, errW_some] <;> rfl) | (simp [nen, een]; done), rq, bq⟩
 ·rw [if_neg c3] at H; exact absurd H (by simp)
def spec_PathGet.j0 : Nat → ByteArray → Bool → Option (List ByteArray)
 | 0, _, _ => none
 | k + 1, x0, x19 => if x19 = true then (if 1 ≤ (x0.size : Int) then ((spec_l3Pieces.f (x0.extract 1 x0.size)).bind fun t234 => ((spec_l3Walk.f k (([] : List ByteArray)) t234).bind fun t237 => (some t237))) else (none)) else ((spec_l3Pieces.f x0).bind fun t243 => ((spec_l3Walk.f k (([] : List ByteArray)) t243).bind fun t246 => (some t246)))
def spec_PathGet.f (k : Nat) (a0 : ByteArray) : Option (List ByteArray) := if (a0.size : Int) > 200 then (some (([] : List ByteArray))) else (if (a0.size : Int) > 0 then (if 0 < (a0.size : Int) then (if (bt a0 0) = 47 then (spec_PathGet.j0 k a0 true) else (spec_PathGet.j0 k a0 ((bt a0 0) == 92))) else (none)) else (spec_PathGet.j0 k a0 false))
theorem spec_PathGet.mono_l : ∀ k, (∀ y0 y1, LeO (spec_PathGet.j0 k y0 y1) (spec_PathGet.j0 (k + 1) y0 y1))
 | 0 => fun _ _ => LeO.none _
 | k + 1 => by
  have ih0 := spec_PathGet.mono_l k
  have m0 := @spec_l3Walk.mono
  exact (fun _ _ => by unfold spec_PathGet.j0; exact lq)
theorem spec_PathGet.mono : ∀ a0 k, LeO (spec_PathGet.f k a0) (spec_PathGet.f (k + 1) a0) := by
 intro a0 k; have ih0 := spec_PathGet.mono_l k; have m0 := @spec_l3Walk.mono; unfold spec_PathGet.f; exact lq
theorem spec_PathGet.calls (k : Nat) (a0 : ByteArray) (r : List ByteArray) (w : World) (h : spec_PathGet.f k a0 = some r) :
  Calls Tryz.prog 140 #[.string a0] w fun e w' => ∃ v0_ : Value, e = .returned (v0_) ∧ Kd.R Kd.string 9 w' w.heap.size (fun _ => True) v0_ r ∧ Below w.heap.size w w' := by
 have HB := Aside0.mk (Below.refl w.heap.size w); unfold spec_PathGet.f at h; revert h; refine iFq (200 < a0.size) (fun c2b0 c2b1 => ?_) fun c2b0 c2b1 => ?_
 ·intro H; obtain ⟨y228, hy228⟩ : ∃ y_ : List ByteArray, y_ = (([] : List ByteArray)) := ⟨_, rfl⟩; replace H : (some y228) = some r := by first | (rw [hy228]; with_reducible exact H) | (have H2_ := (Option.bind_some _ _).symm.trans H; rw [hy228]; with_reducible exact H2_) | (have H2_ := (Option.bind_some _ _).symm.trans H; with_reducible exact H2_) | with_reducible exact H | (rw [hy228]; exact H) | exact H
  have Ny228 := Aside0.mk hy228; clear hy228; obtain rfl := Option.some.inj H; go_enter Tryz.func140, Tryz.ntmps140; go_wp2_with (first | ((with_reducible refine gate_dst (N := 6) rfl ?_); refine Kd.R_lit Kd.string _ 9 ?hg (N := 6) ?hd (xs := ([] : List ByteArray)) (inner := []) (ok := fun _ => True) (okp := fun _ => True) ?hr ?hp (fun _ hk => hk) trivial (Below.refl _ _) (Nat.le_refl _) (by simp) ?_; (case hd => rfl); (case hg => rfl); (case hr => first | (go_simp; done) | (go_simp; rfl)); (case hp => exact (Reps.none _ _)); intro v229 w3 ho4 hb hg_ hnew_; clear hg_ hnew_; (first | rw [← Ny228.out] at ho4 | (simp only [Int.reduceToNat] at ho4; rw [← Ny228.out] at ho4)); have HO230 := rlq (w := w) ho4; replace HB := Aside0.mk (below_step bq hb); clear hb ho4)); go_ret; exact ⟨_, by first | rfl | (simp [errW_none, errW_some] <;> rfl) | (simp [*, errW_none, errW_some] <;> rfl) | (simp [nen, een]; done), rq, bq⟩
 refine ahq fun HC5 => ?_; go_enter Tryz.func140, Tryz.ntmps140; go_upto_region 3 with (fail); go_cut [19] (fun v19 wc => ∃ (kq : Nat) (x19_4 : Bool), v19 = .bool x19_4 ∧ Aside0 (spec_PathGet.j0 kq a0 x19_4 = some r) ∧ Aside0 (kq ≤ k) ∧ Aside0 (Below w.heap.size w wc)); case first =>
  have H := HC5.out; clear HC5; revert H; refine iFq (0 < a0.size) (fun c6b0 c6b1 => ?_) fun c6b0 c6b1 => ?_
  ·intro H; (first | rw [c6b0] | (simp only [i64_w, i32_w]; rw [c6b0]) | skip); revert H; refine iFnq (0 < a0.size) fun c7b0 c7b1 => ?_; refine iEq (fun c9b0 c9b1 => ?_) fun c9 c9b0 c9b1 => ?_
   ·refine ahq fun H' => ?_; obtain ⟨hx8, qi8, q8⟩ := bt0q a0; go_wp2; go_meet; case rel => exact ⟨_, (true), vq, H', ⟨oq⟩, ⟨bq⟩⟩
   refine ahq fun H' => ?_; obtain ⟨hx8, qi8, q8⟩ := bt0q a0; obtain ⟨hx10, qi10, q10⟩ := bt0q a0; go_wp2; go_meet; case rel => exact ⟨_, (((bt a0 0) == 92)), vq, H', ⟨oq⟩, ⟨bq⟩⟩
  intro H; (first | rw [c6b0] | (simp only [i64_w, i32_w]; rw [c6b0]) | skip); have H' := Aside0.mk H; clear H; go_wp2; go_meet; case rel => exact ⟨_, (false), vq, H', ⟨oq⟩, ⟨bq⟩⟩
 clear HC5; obtain ⟨kq, x19_4, rfl, HA, HJ4, HB⟩ := hcut; cases kq with | zero => exact zq HA | succ kj4 => ?_
 have H := HA.out; clear HA; simp only [spec_PathGet.j0] at H; revert H; cases x19_4
 ·refine bFq ?_; intro H; obtain ⟨y240, hy240⟩ : ∃ y_ : List ByteArray, y_ = (([] : List ByteArray)) := ⟨_, rfl⟩; replace H : ((spec_l3Pieces.f a0).bind fun t243 => ((spec_l3Walk.f kj4 y240 t243).bind fun t246 => (some t246))) = some r := by first | (rw [hy240]; with_reducible exact H) | (have H2_ := (Option.bind_some _ _).symm.trans H; rw [hy240]; with_reducible exact H2_) | (have H2_ := (Option.bind_some _ _).symm.trans H; with_reducible exact H2_) | with_reducible exact H | (rw [hy240]; exact H) | exact H
  have Ny240 := Aside0.mk hy240; clear hy240; revert H; refine bnq fun t243 A21 => ?_; refine bnq fun t246 A22 => ?_; refine siq ?_; rintro rfl; go_wp2_with (first | ((with_reducible refine gate_dst (N := 22) rfl ?_); refine Kd.R_lit Kd.string _ 9 ?hg (N := 22) ?hd (xs := ([] : List ByteArray)) (inner := []) (ok := fun _ => True) (okp := fun _ => True) ?hr ?hp (fun _ hk => hk) trivial (Below.refl _ _) (Nat.le_refl _) (by simp) ?_; (case hd => rfl); (case hg => rfl); (case hr => first | (go_simp; done) | (go_simp; rfl)); (case hp => exact (Reps.none _ _)); intro v241 w23 ho24 hb hg_ hnew_; clear hg_ hnew_; (first | rw [← Ny240.out] at ho24 | (simp only [Int.reduceToNat] at ho24; rw [← Ny240.out] at ho24)); have HO242 := rlq (w := w) ho24; replace HB := Aside0.mk (below_step bq hb); clear hb ho24) | (refine gcq (some 24) rfl Tryz.func165 (spec_l3Pieces.calls a0 t243 _ A21.out) ?_; rintro _ w25 ⟨v244, rfl, ho0, hb⟩; refine ⟨_, rfl, ?_⟩; have n0_ := Aside0.mk (Kd.R_elder' rq (Kd.R_base ho0) hb); have n1_ := Aside0.mk (Kd.R_lower (Kd.R_new' ho0 (Kd.R_lt rq)) (below_size (bq))); have n2_ := Aside0.mk (below_step (bq) hb); clear HO242; clear HB; have HO242 := n0_; have HO245 := n1_; have HB := n2_; clear n0_ n1_ n2_; (try clear hb); (try clear hb2); (try clear hk); (try clear hi); (try clear ho0); obtain ⟨Ao26, co26, rfl⟩ := Kd.R_slice HO242.out; obtain ⟨Ao27, co27, rfl⟩ := Kd.R_slice HO245.out) | (refine gcq (some 25) rfl Tryz.func164 (spec_l3Walk.calls kj4 _ _ y240 _ _ t243 t246 _ (by repeat (first | exact (Kd.R_reads' HO242.out).2.2 | (with_reducible refine Kd.C_alloc ?_ _) | (with_reducible refine Kd.C_drewN ?_ _) | (with_reducible refine Kd.C_drew ?_))) ((Kd.R_reads' HO242.out).2.1) (by repeat (first | exact (Kd.R_reads' HO245.out).2.2 | (with_reducible refine Kd.C_alloc ?_ _) | (with_reducible refine Kd.C_drewN ?_ _) | (with_reducible refine Kd.C_drew ?_))) ((Kd.R_reads' HO245.out).2.1) A22.out) ?_; rintro _ w28 ⟨v247, rfl, ho0, hb⟩; refine ⟨_, rfl, ?_⟩; have n0_ := Aside0.mk (Kd.R_elder' rq (Kd.R_base ho0) hb); have n1_ := Aside0.mk (Kd.R_elder' rq (Kd.R_base ho0) hb); have n2_ := Aside0.mk (Kd.R_lower (Kd.R_new' (Kd.R_new' ho0 (Kd.R_lt rq)) (Kd.R_lt rq)) (below_size (bq))); have n3_ := Aside0.mk (below_step (bq) hb); clear HO242; clear HO245; clear HB; have HO242 := n0_; have HO245 := n1_; have HO248 := n2_; have HB := n3_; clear n0_ n1_ n2_ n3_; (try clear hb); (try clear hb2); (try clear hk); (try clear hi); (try clear ho0))); go_ret; exact ⟨_, by first | rfl | (simp [errW_none, errW_some] <;> rfl) | (simp [*, errW_none, errW_some] <;> rfl) | (simp [nen, een]; done), by (with_reducible repeat (first | apply Kd.R_alloc | apply Kd.R_drewN | apply Kd.R_drew)); exact Kd.R_mono HO248.out (fun _ hk => trivial), bq⟩
 refine bTq ?_; refine iTnq fun c12b0 c12b1 => ?_; intro H; obtain ⟨y231, hy231⟩ : ∃ y_ : List ByteArray, y_ = (([] : List ByteArray)) := ⟨_, rfl⟩; replace H : ((spec_l3Pieces.f (a0.extract 1 a0.size)).bind fun t234 => ((spec_l3Walk.f kj4 y231 t234).bind fun t237 => (some t237))) = some r := by first | (rw [hy231]; with_reducible exact H) | (have H2_ := (Option.bind_some _ _).symm.trans H; rw [hy231]; with_reducible exact H2_) | (have H2_ := (Option.bind_some _ _).symm.trans H; with_reducible exact H2_) | with_reducible exact H | (rw [hy231]; exact H) | exact H
 have Ny231 := Aside0.mk hy231; clear hy231; revert H; refine bnq fun t234 A13 => ?_; refine bnq fun t237 A14 => ?_; refine siq ?_; rintro rfl; go_wp2_with (first | ((with_reducible refine gate_dst (N := 22) rfl ?_); refine Kd.R_lit Kd.string _ 9 ?hg (N := 22) ?hd (xs := ([] : List ByteArray)) (inner := []) (ok := fun _ => True) (okp := fun _ => True) ?hr ?hp (fun _ hk => hk) trivial (Below.refl _ _) (Nat.le_refl _) (by simp) ?_; (case hd => rfl); (case hg => rfl); (case hr => first | (go_simp; done) | (go_simp; rfl)); (case hp => exact (Reps.none _ _)); intro v232 w15 ho16 hb hg_ hnew_; clear hg_ hnew_; (first | rw [← Ny231.out] at ho16 | (simp only [Int.reduceToNat] at ho16; rw [← Ny231.out] at ho16)); have HO233 := rlq (w := w) ho16; replace HB := Aside0.mk (below_step bq hb); clear hb ho16) | (refine gcq (some 24) rfl Tryz.func165 (spec_l3Pieces.calls (a0.extract 1 a0.size) t234 _ A13.out) ?_; rintro _ w17 ⟨v235, rfl, ho0, hb⟩; refine ⟨_, rfl, ?_⟩; have n0_ := Aside0.mk (Kd.R_elder' rq (Kd.R_base ho0) hb); have n1_ := Aside0.mk (Kd.R_lower (Kd.R_new' ho0 (Kd.R_lt rq)) (below_size (bq))); have n2_ := Aside0.mk (below_step (bq) hb); clear HO233; clear HB; have HO233 := n0_; have HO236 := n1_; have HB := n2_; clear n0_ n1_ n2_; (try clear hb); (try clear hb2); (try clear hk); (try clear hi); (try clear ho0); obtain ⟨Ao18, co18, rfl⟩ := Kd.R_slice HO233.out; obtain ⟨Ao19, co19, rfl⟩ := Kd.R_slice HO236.out) | (refine gcq (some 25) rfl Tryz.func164 (spec_l3Walk.calls kj4 _ _ y231 _ _ t234 t237 _ (by repeat (first | exact (Kd.R_reads' HO233.out).2.2 | (with_reducible refine Kd.C_alloc ?_ _) | (with_reducible refine Kd.C_drewN ?_ _) | (with_reducible refine Kd.C_drew ?_))) ((Kd.R_reads' HO233.out).2.1) (by repeat (first | exact (Kd.R_reads' HO236.out).2.2 | (with_reducible refine Kd.C_alloc ?_ _) | (with_reducible refine Kd.C_drewN ?_ _) | (with_reducible refine Kd.C_drew ?_))) ((Kd.R_reads' HO236.out).2.1) A14.out) ?_; rintro _ w20 ⟨v238, rfl, ho0, hb⟩; refine ⟨_, rfl, ?_⟩; have n0_ := Aside0.mk (Kd.R_elder' rq (Kd.R_base ho0) hb); have n1_ := Aside0.mk (Kd.R_elder' rq (Kd.R_base ho0) hb); have n2_ := Aside0.mk (Kd.R_lower (Kd.R_new' (Kd.R_new' ho0 (Kd.R_lt rq)) (Kd.R_lt rq)) (below_size (bq))); have n3_ := Aside0.mk (below_step (bq) hb); clear HO233; clear HO236; clear HB; have HO233 := n0_; have HO236 := n1_; have HO239 := n2_; have HB := n3_; clear n0_ n1_ n2_ n3_; (try clear hb); (try clear hb2); (try clear hk); (try clear hi); (try clear ho0))); go_ret; exact ⟨_, by first | rfl | (simp [errW_none, errW_some] <;> rfl) | (simp [*, errW_none, errW_some] <;> rfl) | (simp [nen, een]; done), by (with_reducible repeat (first | apply Kd.R_alloc | apply Kd.R_drewN | apply Kd.R_drew)); exact Kd.R_mono HO239.out (fun _ hk => trivial), bq⟩
def spec_PathPut.l0 : Nat → List ByteArray → ByteArray → Int → Option (ByteArray)
 | 0, _, _, _ => none
 | k + 1, x0, x3, x4 => if x4 < (x0.length : Int) then (if x3.size + 1 ≤ 9223372036854775807 then (if 0 ≤ x4 then (if (x3 ++ (⟨#[47]⟩ : ByteArray)).size + (rdOf ByteArray.empty x0 x4).size ≤ 9223372036854775807 then (spec_PathPut.l0 k x0 ((x3 ++ (⟨#[47]⟩ : ByteArray)) ++ (rdOf ByteArray.empty x0 x4)) (wrap64 (x4 + 1))) else (none)) else (none)) else (none)) else (some x3)
def spec_PathPut.f (k : Nat) (l0 : List ByteArray) : Option (ByteArray) := spec_PathPut.l0 k l0 (⟨#[]⟩ : ByteArray) 0
theorem spec_PathPut.mono_l : ∀ k, (∀ y0 y1 y2, LeO (spec_PathPut.l0 k y0 y1 y2) (spec_PathPut.l0 (k + 1) y0 y1 y2))
 | 0 => fun _ _ _ => LeO.none _
 | k + 1 => by
  have ih0 := spec_PathPut.mono_l k
  exact (fun _ _ _ => by unfold spec_PathPut.l0; exact lq)
theorem spec_PathPut.mono : ∀ a0 k, LeO (spec_PathPut.f k a0) (spec_PathPut.f (k + 1) a0) := by
 intro a0 k; have ih0 := spec_PathPut.mono_l k; unfold spec_PathPut.f; exact lq
theorem spec_PathPut.calls (k : Nat) (A0 : Option Addr) (c0 : Nat) (l0 : List ByteArray) (r : ByteArray) (w : World) (hr0 : Kd.C Kd.string w A0 l0.length l0) (hc0 : l0.length ≤ c0) (h : spec_PathPut.f k l0 = some r) :
  Calls Tryz.prog 73 #[.slice A0 l0.length c0] w fun e w' => e = .returned (.string r) ∧ Drawn0 w w' := by
 have HR0 := Aside0.mk hr0; have HC0 := Aside0.mk hc0; clear hr0 hc0; unfold spec_PathPut.f at h; revert h; refine ahq fun H' => ?_; go_enter Tryz.func73, Tryz.ntmps73; go_wp2; go_loopg [3, 4] k (fun kq v3 v4 w' => ∃ (x3_1 : ByteArray) (x4_1 : Int), v3 = .string x3_1 ∧ v4 = .int .i64 x4_1 ∧ Aside0 (spec_PathPut.l0 kq l0 x3_1 x4_1 = some r) ∧ Aside0 (kq ≤ k) ∧ Drawn0 w w'); case atStart => exact ⟨((⟨#[]⟩ : ByteArray)), (0), vq, vq, H', ⟨oq⟩, dq⟩
 clear H'; obtain ⟨x3_1, x4_1, rfl, rfl, HA, HK1, ⟨m1, rfl⟩⟩ := hrel; cases gk with | zero => exact zq HA | succ k1 => ?_
 have H := HA.out; clear HA; simp only [spec_PathPut.l0] at H; revert H; refine iDq (fun c2b0 => ?_) fun c2b0 => ?_
 ·intro H; by_cases c3 : x3_1.size + 1 ≤ 9223372036854775807
  ·rw [if_pos c3] at H; have c3b0 := eq_true c3; have c3b1 := decide_eq_true c3; try have c3b2 : (9223372036854775807 < x3_1.size + 1) = False := eq_false (Nat.not_lt.2 c3)
   revert H; refine iDnq fun c4b0 => ?_; intro H; by_cases c5 : (x3_1 ++ (⟨#[47]⟩ : ByteArray)).size + (rdOf ByteArray.empty l0 x4_1).size ≤ 9223372036854775807
   ·rw [if_pos c5] at H; have c5b0 := eq_true c5; have c5b1 := decide_eq_true c5; try have c5b2 : (9223372036854775807 < (x3_1 ++ (⟨#[47]⟩ : ByteArray)).size + (rdOf ByteArray.empty l0 x4_1).size) = False := eq_false (Nat.not_lt.2 c5)
    try have c5b3 : (9223372036854775807 < x3_1.size + 1 + (rdOf ByteArray.empty l0 x4_1).size) = False := eq_false (Nat.not_lt.2 (by have h_ := c5; simp only [ByteArray.size_append] at h_; exact h_))
    have H' := Aside0.mk H; clear H; have p249 : 0 ≤ (x4_1 : Int) := of_decide_eq_true (by assumption); have q249 : x4_1 < (l0.length : Int) := of_decide_eq_true (by assumption); obtain ⟨ad249, e249, hx249_0⟩ := Kd.at_string HR0.out x4_1 p249 q249; cases e249; replace p249 := eq_true p249; replace q249 := eq_true q249; go_wp2; go_roundg k1; case measure => exact oq
    case rel => exact ⟨((x3_1 ++ (⟨#[47]⟩ : ByteArray)) ++ (rdOf ByteArray.empty l0 x4_1)), (wrap64 (x4_1 + 1)), vq, vq, H', ⟨oq⟩, dq⟩
   ·rw [if_neg c5] at H; exact absurd H (by simp)
  ·rw [if_neg c3] at H; exact absurd H (by simp)
 refine siq ?_; rintro rfl; go_wp2; go_ret; exact ⟨vq, dq⟩
end Go.Proofs.YtopcpbokfngpeaaGreatDoor.Lh
set_option maxHeartbeats 8000000
set_option maxRecDepth 100000
namespace Go.Proofs.YtopcpbokfngpeaaGreatDoor.Lh
open Go.RowKit Go.Proofs.YtopcpbokfngpeaaGreatDoor.H Go.Proofs.YtopcpbokfngpeaaGreatDoorW.PrintWords Go.Proofs.YtopcpbokfngpeaaGreatDoorW.PrintLast Go.Proofs.YtopcpbokfngpeaaGreatDoorW.PrintMore Go.Proofs.YtopcpbokfngpeaaGreatDoor.Lp
attribute [local go_sem] max2_int min2_int max_two min_two max_three min_three max_four min_four   -- for this text's walks alone
set_option linter.unusedVariables false
set_option linter.unusedSimpArgs false
mutual
def spec_l1At.l0 : Nat → ByteArray → ByteArray → Int → Option (Int)
 | 0, _, _, _ => none
 | k + 1, x0, x1, x5 => if x5 < (x0.size : Int) then (spec_l1At.l1 k x0 x1 x5 0) else (some (x0.size : Int))
def spec_l1At.l1 : Nat → ByteArray → ByteArray → Int → Int → Option (Int)
 | 0, _, _, _, _ => none
 | k + 1, x0, x1, x5, x6 => if x6 < (x1.size : Int) then (if 0 ≤ x5 then (if x5 < (x0.size : Int) then (if 0 ≤ x6 then (if (bt x0 x5) = (bt x1 x6) then (some x5) else (spec_l1At.l1 k x0 x1 x5 (wrap64 (x6 + 1)))) else (none)) else (none)) else (none)) else (spec_l1At.l0 k x0 x1 (wrap64 (x5 + 1)))
end
def spec_l1At.f (k : Nat) (a0 : ByteArray) (a1 : ByteArray) : Option (Int) := spec_l1At.l0 k a0 a1 0
theorem spec_l1At.mono_l : ∀ k, (∀ y0 y1 y2, LeO (spec_l1At.l0 k y0 y1 y2) (spec_l1At.l0 (k + 1) y0 y1 y2)) ∧ (∀ y0 y1 y2 y3, LeO (spec_l1At.l1 k y0 y1 y2 y3) (spec_l1At.l1 (k + 1) y0 y1 y2 y3))
 | 0 => ⟨fun _ _ _ => LeO.none _, fun _ _ _ _ => LeO.none _⟩
 | k + 1 => by
  obtain ⟨ih0, ih1⟩ := spec_l1At.mono_l k
  exact ⟨fun _ _ _ => by unfold spec_l1At.l0; exact lq, fun _ _ _ _ => by unfold spec_l1At.l1; exact lq⟩
theorem spec_l1At.mono : ∀ a0 a1 k, LeO (spec_l1At.f k a0 a1) (spec_l1At.f (k + 1) a0 a1) := by
 intro a0 a1 k; obtain ⟨ih0, ih1⟩ := spec_l1At.mono_l k; unfold spec_l1At.f; exact lq
theorem spec_l1At.calls (k : Nat) (a0 : ByteArray) (a1 : ByteArray) (r : Int) (w : World) (h : spec_l1At.f k a0 a1 = some r) :
  Calls Tryz.prog 105 #[.string a0, .string a1] w fun e w' => e = .returned (.int .i64 r) ∧ Drawn0 w w' := by
 unfold spec_l1At.f at h; revert h; refine ahq fun H' => ?_; go_enter Tryz.func105, Tryz.ntmps105; go_wp2; repeat (go_quiet (fail); try go_wp2)
 go_loopg [5] k (fun kq v5 w' => ∃ (x5_1 : Int), v5 = .int .i64 x5_1 ∧ Aside0 (spec_l1At.l0 kq a0 a1 x5_1 = some r) ∧ Aside0 (kq ≤ k) ∧ Drawn0 w w'); case atStart => exact ⟨(0), vq, H', ⟨oq⟩, dq⟩
 clear H'; obtain ⟨x5_1, rfl, HA, HK1, ⟨m1, rfl⟩⟩ := hrel; cases gk with | zero => exact zq HA | succ k1 => ?_
 have H := HA.out; clear HA; simp only [spec_l1At.l0] at H; revert H; refine iDq (fun c3b0 => ?_) fun c3b0 => ?_
 ·refine ahq fun H' => ?_; go_wp2; repeat (go_quiet (fail); try go_wp2)
  go_loopg [6] k1 (fun kq v6 w' => ∃ (x6_2 : Int), v6 = .int .i64 x6_2 ∧ Aside0 (spec_l1At.l1 kq a0 a1 x5_1 x6_2 = some r) ∧ Aside0 (kq ≤ k1) ∧ Drawn0 w w'); case atStart => exact ⟨(0), vq, H', ⟨oq⟩, dq⟩
  clear H'; obtain ⟨x6_2, rfl, HA, HK2, ⟨m2, rfl⟩⟩ := hrel; cases gk with | zero => exact zq HA | succ k2 => ?_
  have H := HA.out; clear HA; simp only [spec_l1At.l1] at H; revert H; refine iDq (fun c4b0 => ?_) fun c4b0 => ?_
  ·refine iDnq fun c5b0 => ?_; refine iDnq fun c6b0 => ?_; refine iDnq fun c8b0 => ?_; refine iEq (fun c10b0 c10b1 => ?_) fun c10 c10b0 c10b1 => ?_
   ·refine siq ?_; rintro rfl; obtain ⟨hx7, p7, q7⟩ := btq a0 x5_1; obtain ⟨hx9, p9, q9⟩ := btq a1 x6_2; go_wp2; repeat (go_quiet (fail); try go_wp2)
    go_ret; exact ⟨vq, dq⟩
   refine ahq fun H' => ?_; obtain ⟨hx7, p7, q7⟩ := btq a0 x5_1; obtain ⟨hx9, p9, q9⟩ := btq a1 x6_2; go_wp2; repeat (go_quiet (fail); try go_wp2)
   go_roundg k2; case measure => exact oq
   case rel => exact ⟨(wrap64 (x6_2 + 1)), vq, H', ⟨oq⟩, dq⟩
  refine ahq fun H' => ?_; go_wp2; repeat (go_quiet (fail); try go_wp2)
  go_roundg k2; case measure => exact oq
  case rel => exact ⟨(wrap64 (x5_1 + 1)), vq, H', ⟨oq⟩, dq⟩
 refine siq ?_; rintro rfl; go_wp2; repeat (go_quiet (fail); try go_wp2)
 go_ret; exact ⟨vq, dq⟩
def impl_in.f (a0 : Int) (a1 : Int) (a2 : Int) : Option (Bool) := if a0 ≥ a1 then (some (decide (a0 ≤ a2))) else (some false)
theorem impl_in.calls (a0 : Int) (a1 : Int) (a2 : Int) (r : Bool) (w : World) (h : impl_in.f a0 a1 a2 = some r) :
  Calls Tryz.prog 52 #[.int .i64 a0, .int .i64 a1, .int .i64 a2] w fun e w' => e = .returned (.bool r) ∧ Drawn0 w w' := by
 unfold impl_in.f at h; revert h; refine iDq (fun c4b0 => ?_) fun c4b0 => ?_
 ·refine siq ?_; rintro rfl; go_enter Tryz.func52, Tryz.ntmps52; go_wp2; go_ret; exact ⟨vq, dq⟩
 refine siq ?_; rintro rfl; go_enter Tryz.func52, Tryz.ntmps52; go_wp2; go_ret; exact ⟨vq, dq⟩
def impl_labels.f (a0 : ByteArray) : Option (List ByteArray) := (strings_Split.f a0 (⟨#[46]⟩ : ByteArray)).bind fun t250 => (if (t250.length : Int) > 1 then (if 0 ≤ (wrap64 ((t250.length : Int) - 1)) then (if (wrap64 ((t250.length : Int) - 1)) < (t250.length : Int) then (if (rdOf ByteArray.empty t250 (wrap64 ((t250.length : Int) - 1))).toList = ([] : List UInt8) then (if (wrap64 ((t250.length : Int) - 1)) ≤ (t250.length : Int) then (some (t250.take ((wrap64 ((t250.length : Int) - 1)) : Int).toNat)) else (none)) else (some t250)) else (none)) else (none)) else (some t250))
theorem impl_labels.calls (a0 : ByteArray) (r : List ByteArray) (w : World) (hT : TabM w) (h : impl_labels.f a0 = some r) :
  Calls Tryz.prog 74 #[.string a0] w fun e w' => ∃ v0_ : Value, e = .returned (v0_) ∧ Kd.R Kd.string 9 w' w.heap.size (fun _ => True) v0_ r ∧ Below w.heap.size w w' := by
 have HTB := Aside0.mk hT; clear hT; have HB := Aside0.mk (Below.refl w.heap.size w); unfold impl_labels.f at h; revert h; refine bnq fun t250 A2 => ?_; refine iFq (1 < t250.length) (fun c3b0 c3b1 => ?_) fun c3b0 c3b1 => ?_
 ·intro H; obtain ⟨ji4, hji4⟩ : ∃ j_ : Int, (wrap64 ((t250.length : Int) - 1)) = j_ := ⟨_, rfl⟩; (first | rw [hji4] at H | simp only [hji4] at H); (try rw [hji4] at A2); have hji4w : (IntKind.i64.wrap ((t250.length : Int) - 1)) = ji4 := (i64_w _).trans hji4; revert H; refine iDnq fun c5b0 => ?_; refine iDnq fun c6b0 => ?_; refine iEq (fun c7b0 c7b1 => ?_) fun c7 c7b0 c7b1 => ?_
  ·refine iTnq fun c8b0 c8b1 => ?_; intro H; obtain ⟨y254, hy254⟩ : ∃ y_ : List ByteArray, y_ = (t250.take ((ji4) : Int).toNat) := ⟨_, rfl⟩; replace H : (some y254) = some r := by first | (rw [hy254]; with_reducible exact H) | (have H2_ := (Option.bind_some _ _).symm.trans H; rw [hy254]; with_reducible exact H2_) | (have H2_ := (Option.bind_some _ _).symm.trans H; with_reducible exact H2_) | with_reducible exact H | (rw [hy254]; exact H) | exact H
   have Ny254 := Aside0.mk hy254; clear hy254; obtain rfl := Option.some.inj H; go_enter Tryz.func74, Tryz.ntmps74; go_wp2_with (first | (refine gcq (some 6) rfl Tryz.func109 (strings_Split.calls a0 (⟨#[46]⟩ : ByteArray) t250 _ (TabM.below HTB.out (bq)) A2.out) ?_; rintro _ w9 ⟨v251, rfl, ho0, hb⟩; refine ⟨_, rfl, ?_⟩; have HO252 := rlq (w := w) ho0; replace HB := Aside0.mk (below_step bq hb); clear hb ho0; obtain ⟨Ao10, co10, rfl⟩ := Kd.R_slice HO252.out; obtain ⟨ad253, ⟨⟩, hx253_0, p253, q253⟩ := atq HO252 (ji4); have q11 : ((ji4) : Int) ≤ ((t250.length : Int) : Int) := of_decide_eq_true (by assumption); obtain ⟨i011, hi011, _, hsz11, _⟩ := info_parts info9; have hcut11 := cut_to (P := Tryz.prog) 25 9 .i64 Tryz.underlying25 hi011 (some ad253) t250.length co10 (ji4) (of_decide_eq_true (by assumption)) q11 (Kd.R_reads' HO252.out).2.1; have hr11 := Kd.R_take (m := ((ji4) : Int).toNat) HO252.out (by omega); have hy11 : y254.length = ((ji4) : Int).toNat := (by rw [Ny254.out, List.length_take]; omega); rw [← Ny254.out] at hr11; rw [← hy11] at hr11 hcut11; clear hy11 hi011 hsz11 HO252; have HO256 := Aside0.mk hr11; clear hr11; replace q11 := eq_true q11)); go_ret; exact ⟨_, by first | rfl | (simp [errW_none, errW_some] <;> rfl) | (simp only [← hji4]; first | rfl | (simp [errW_none, errW_some] <;> rfl)) | (simp [*, errW_none, errW_some] <;> rfl) | (simp [nen, een]; done), rq, bq⟩
  refine siq ?_; rintro rfl; go_enter Tryz.func74, Tryz.ntmps74; go_wp2_with (first | (refine gcq (some 6) rfl Tryz.func109 (strings_Split.calls a0 (⟨#[46]⟩ : ByteArray) t250 _ (TabM.below HTB.out (bq)) A2.out) ?_; rintro _ w12 ⟨v251, rfl, ho0, hb⟩; refine ⟨_, rfl, ?_⟩; have HO252 := rlq (w := w) ho0; replace HB := Aside0.mk (below_step bq hb); clear hb ho0; obtain ⟨Ao13, co13, rfl⟩ := Kd.R_slice HO252.out; obtain ⟨ad253, ⟨⟩, hx253_0, p253, q253⟩ := atq HO252 (ji4))); go_ret; exact ⟨_, by first | rfl | (simp [errW_none, errW_some] <;> rfl) | (simp only [← hji4]; first | rfl | (simp [errW_none, errW_some] <;> rfl)) | (simp [*, errW_none, errW_some] <;> rfl) | (simp [nen, een]; done), rq, bq⟩
 refine siq ?_; rintro rfl; go_enter Tryz.func74, Tryz.ntmps74; go_wp2_with (first | (refine gcq (some 6) rfl Tryz.func109 (strings_Split.calls a0 (⟨#[46]⟩ : ByteArray) t250 _ (TabM.below HTB.out (bq)) A2.out) ?_; rintro _ w14 ⟨v251, rfl, ho0, hb⟩; refine ⟨_, rfl, ?_⟩; have HO252 := rlq (w := w) ho0; replace HB := Aside0.mk (below_step bq hb); clear hb ho0; obtain ⟨Ao15, co15, rfl⟩ := Kd.R_slice HO252.out)); go_ret; exact ⟨_, by first | rfl | (simp [errW_none, errW_some] <;> rfl) | (simp [*, errW_none, errW_some] <;> rfl) | (simp [nen, een]; done), rq, bq⟩
def impl_isDigit.f (a0 : Int) : Option (Bool) := if a0 ≥ 48 then (some (decide (a0 ≤ 57))) else (some false)
theorem impl_isDigit.calls (a0 : Int) (r : Bool) (w : World) (h : impl_isDigit.f a0 = some r) :
  Calls Tryz.prog 119 #[.int .u8 a0] w fun e w' => e = .returned (.bool r) ∧ Drawn0 w w' := by
 unfold impl_isDigit.f at h; revert h; refine iDq (fun c2b0 => ?_) fun c2b0 => ?_
 ·refine siq ?_; rintro rfl; go_enter Tryz.func119, Tryz.ntmps119; go_wp2; go_ret; exact ⟨vq, dq⟩
 refine siq ?_; rintro rfl; go_enter Tryz.func119, Tryz.ntmps119; go_wp2; go_ret; exact ⟨vq, dq⟩
def slices_Index_string_string.l0 : Nat → List ByteArray → ByteArray → Int → Int → Option (Int)
 | 0, _, _, _, _ => none
 | k + 1, x0, x1, x7, x8 => if x8 < x7 then (if 0 ≤ x8 then (if x8 < (x0.length : Int) then (if x1.toList = (rdOf ByteArray.empty x0 x8).toList then (some x8) else (slices_Index_string_string.l0 k x0 x1 x7 (wrap64 (x8 + 1)))) else (none)) else (none)) else (some (-1))
def slices_Index_string_string.f (k : Nat) (l0 : List ByteArray) (a1 : ByteArray) : Option (Int) := slices_Index_string_string.l0 k l0 a1 (l0.length : Int) 0
theorem slices_Index_string_string.mono_l : ∀ k, (∀ y0 y1 y2 y3, LeO (slices_Index_string_string.l0 k y0 y1 y2 y3) (slices_Index_string_string.l0 (k + 1) y0 y1 y2 y3))
 | 0 => fun _ _ _ _ => LeO.none _
 | k + 1 => by
  have ih0 := slices_Index_string_string.mono_l k
  exact (fun _ _ _ _ => by unfold slices_Index_string_string.l0; exact lq)
theorem slices_Index_string_string.mono : ∀ a0 a1 k, LeO (slices_Index_string_string.f k a0 a1) (slices_Index_string_string.f (k + 1) a0 a1) := by
 intro a0 a1 k; have ih0 := slices_Index_string_string.mono_l k; unfold slices_Index_string_string.f; exact lq
theorem slices_Index_string_string.calls (k : Nat) (A0 : Option Addr) (c0 : Nat) (l0 : List ByteArray) (a1 : ByteArray) (r : Int) (w : World) (hr0 : Kd.C Kd.string w A0 l0.length l0) (hc0 : l0.length ≤ c0) (h : slices_Index_string_string.f k l0 a1 = some r) :
  Calls Tryz.prog 145 #[.slice A0 l0.length c0, .string a1] w fun e w' => e = .returned (.int .i64 r) ∧ Drawn0 w w' := by
 have HR0 := Aside0.mk hr0; have HC0 := Aside0.mk hc0; clear hr0 hc0; unfold slices_Index_string_string.f at h; revert h; refine ahq fun H' => ?_; go_enter Tryz.func145, Tryz.ntmps145; go_wp2; go_loopg [8] k (fun kq v8 w' => ∃ (x8_1 : Int), v8 = .int .i64 x8_1 ∧ Aside0 (slices_Index_string_string.l0 kq l0 a1 (l0.length : Int) x8_1 = some r) ∧ Aside0 (kq ≤ k) ∧ Drawn0 w w'); case atStart => exact ⟨(0), vq, H', ⟨oq⟩, dq⟩
 clear H'; obtain ⟨x8_1, rfl, HA, HK1, ⟨m1, rfl⟩⟩ := hrel; cases gk with | zero => exact zq HA | succ k1 => ?_
 have H := HA.out; clear HA; simp only [slices_Index_string_string.l0] at H; revert H; refine iDq (fun c3b0 => ?_) fun c3b0 => ?_
 ·refine iDnq fun c4b0 => ?_; refine iDnq fun c5b0 => ?_; refine iEq (fun c6b0 c6b1 => ?_) fun c6 c6b0 c6b1 => ?_
  ·refine siq ?_; rintro rfl; have p257 : 0 ≤ (x8_1 : Int) := of_decide_eq_true (by assumption); have q257 : x8_1 < (l0.length : Int) := of_decide_eq_true (by assumption); obtain ⟨ad257, e257, hx257_0⟩ := Kd.at_string HR0.out x8_1 p257 q257; cases e257; replace p257 := eq_true p257; replace q257 := eq_true q257; go_wp2; go_ret; exact ⟨vq, dq⟩
  refine ahq fun H' => ?_; have p257 : 0 ≤ (x8_1 : Int) := of_decide_eq_true (by assumption); have q257 : x8_1 < (l0.length : Int) := of_decide_eq_true (by assumption); obtain ⟨ad257, e257, hx257_0⟩ := Kd.at_string HR0.out x8_1 p257 q257; cases e257; replace p257 := eq_true p257; replace q257 := eq_true q257; go_wp2; go_roundg k1; case measure => exact oq
  case rel => exact ⟨(wrap64 (x8_1 + 1)), vq, H', ⟨oq⟩, dq⟩
 refine siq ?_; rintro rfl; go_wp2; go_ret; exact ⟨vq, dq⟩
def slices_Contains_string_string.f (k : Nat) (l0 : List ByteArray) (a1 : ByteArray) : Option (Bool) := (slices_Index_string_string.f k l0 a1).bind fun t258 => (some (decide (t258 ≥ 0)))
theorem slices_Contains_string_string.mono : ∀ a0 a1 k, LeO (slices_Contains_string_string.f k a0 a1) (slices_Contains_string_string.f (k + 1) a0 a1) := by
 intro a0 a1 k; have m0 := @slices_Index_string_string.mono; unfold slices_Contains_string_string.f; exact lq
theorem slices_Contains_string_string.calls (k : Nat) (A0 : Option Addr) (c0 : Nat) (l0 : List ByteArray) (a1 : ByteArray) (r : Bool) (w : World) (hr0 : Kd.C Kd.string w A0 l0.length l0) (hc0 : l0.length ≤ c0) (h : slices_Contains_string_string.f k l0 a1 = some r) :
  Calls Tryz.prog 120 #[.slice A0 l0.length c0, .string a1] w fun e w' => e = .returned (.bool r) ∧ Drawn0 w w' := by
 have HR0 := Aside0.mk hr0; have HC0 := Aside0.mk hc0; clear hr0 hc0; unfold slices_Contains_string_string.f at h; revert h; refine bnq fun t258 A3 => ?_; refine siq ?_; rintro rfl; go_enter Tryz.func120, Tryz.ntmps120; go_wp2_with (first | (refine gcq (some 7) rfl Tryz.func145 (slices_Index_string_string.calls k _ _ l0 a1 t258 _ (by repeat (first | exact HR0.out | (with_reducible refine Kd.C_alloc ?_ _) | (with_reducible refine Kd.C_drewN ?_ _) | (with_reducible refine Kd.C_drew ?_))) (HC0.out) A3.out) ?_; rintro _ w' ⟨rfl, ⟨nd, rfl⟩⟩; refine ⟨_, rfl, ?_⟩)); go_ret; exact ⟨vq, dq⟩
def impl_isHostName.l0 : Nat → ByteArray → Int → Int → Option (Bool)
 | 0, _, _, _ => none
 | k + 1, x0, x6, x7 => if x7 < x6 then (if 0 ≤ x7 then (if x7 < (x0.size : Int) then (if (bt x0 x7) < 97 then ((impl_isDigit.f (bt x0 x7)).bind fun t259 => (if t259 = true then (impl_isHostName.l0 k x0 x6 (wrap64 (x7 + 1))) else (if (bt x0 x7) = 45 then (impl_isHostName.l0 k x0 x6 (wrap64 (x7 + 1))) else (if (bt x0 x7) = 95 then (impl_isHostName.l0 k x0 x6 (wrap64 (x7 + 1))) else (if (bt x0 x7) = 46 then (impl_isHostName.l0 k x0 x6 (wrap64 (x7 + 1))) else (some false)))))) else (if (bt x0 x7) > 122 then ((impl_isDigit.f (bt x0 x7)).bind fun t260 => (if t260 = true then (impl_isHostName.l0 k x0 x6 (wrap64 (x7 + 1))) else (if (bt x0 x7) = 45 then (impl_isHostName.l0 k x0 x6 (wrap64 (x7 + 1))) else (if (bt x0 x7) = 95 then (impl_isHostName.l0 k x0 x6 (wrap64 (x7 + 1))) else (if (bt x0 x7) = 46 then (impl_isHostName.l0 k x0 x6 (wrap64 (x7 + 1))) else (some false)))))) else (impl_isHostName.l0 k x0 x6 (wrap64 (x7 + 1))))) else (none)) else (none)) else ((impl_in.f (x0.size : Int) 1 60).bind fun t261 => (if t261 = true then ((impl_labels.f x0).bind fun t262 => ((slices_Contains_string_string.f k t262 (⟨#[]⟩ : ByteArray)).bind fun t265 => (some (!t265)))) else (some false)))
def impl_isHostName.f (k : Nat) (a0 : ByteArray) : Option (Bool) := impl_isHostName.l0 k a0 (a0.size : Int) 0
theorem impl_isHostName.mono_l : ∀ k, (∀ y0 y1 y2, LeO (impl_isHostName.l0 k y0 y1 y2) (impl_isHostName.l0 (k + 1) y0 y1 y2))
 | 0 => fun _ _ _ => LeO.none _
 | k + 1 => by
  have ih0 := impl_isHostName.mono_l k
  have m0 := @slices_Contains_string_string.mono
  exact (fun _ _ _ => by unfold impl_isHostName.l0; exact lq)
theorem impl_isHostName.mono : ∀ a0 k, LeO (impl_isHostName.f k a0) (impl_isHostName.f (k + 1) a0) := by
 intro a0 k; have ih0 := impl_isHostName.mono_l k; have m0 := @slices_Contains_string_string.mono; unfold impl_isHostName.f; exact lq
theorem impl_isHostName.calls (k : Nat) (a0 : ByteArray) (r : Bool) (w : World) (hT : TabM w) (h : impl_isHostName.f k a0 = some r) :
  Calls Tryz.prog 83 #[.string a0] w fun e w' => e = .returned (.bool r) ∧ Below w.heap.size w w' := by
 have HTB := Aside0.mk hT; clear hT; have HB := Aside0.mk (Below.refl w.heap.size w); unfold impl_isHostName.f at h; revert h; refine ahq fun H' => ?_; go_enter Tryz.func83, Tryz.ntmps83; go_wp2; go_loopg [7] k (fun kq v7 w' => ∃ (x7_1 : Int), v7 = .int .i64 x7_1 ∧ Aside0 (impl_isHostName.l0 kq a0 (a0.size : Int) x7_1 = some r) ∧ Aside0 (kq ≤ k) ∧ Aside0 (Below w.heap.size w w')); case atStart => exact ⟨(0), vq, H', ⟨oq⟩, ⟨bq⟩⟩
 clear H'; obtain ⟨x7_1, rfl, HA, HK1, HB⟩ := hrel; cases gk with | zero => exact zq HA | succ k1 => ?_
 have H := HA.out; clear HA; simp only [impl_isHostName.l0] at H; revert H; refine iDq (fun c2b0 => ?_) fun c2b0 => ?_
 ·refine iDnq fun c3b0 => ?_; refine iDnq fun c4b0 => ?_; refine iDq (fun c6b0 => ?_) fun c6b0 => ?_
  ·refine bnq fun t259 A7 => ?_; cases t259
   ·refine bFq ?_; refine iEq (fun c9b0 c9b1 => ?_) fun c9 c9b0 c9b1 => ?_
    ·refine ahq fun H' => ?_; obtain ⟨hx5, p5, q5⟩ := btq a0 x7_1; go_wp2_with (first | (go_at_call 119; (with_reducible refine (impl_isDigit.calls (bt a0 x7_1) false _ A7.out).mono ?_); rintro e w' ⟨rfl, ⟨nd, rfl⟩⟩)); go_roundg k1; case measure => exact oq
     case rel => exact ⟨(wrap64 (x7_1 + 1)), vq, H', ⟨oq⟩, ⟨bq⟩⟩
    refine iEq (fun c10b0 c10b1 => ?_) fun c10 c10b0 c10b1 => ?_
    ·refine ahq fun H' => ?_; obtain ⟨hx5, p5, q5⟩ := btq a0 x7_1; go_wp2_with (first | (go_at_call 119; (with_reducible refine (impl_isDigit.calls (bt a0 x7_1) false _ A7.out).mono ?_); rintro e w' ⟨rfl, ⟨nd, rfl⟩⟩)); go_roundg k1; case measure => exact oq
     case rel => exact ⟨(wrap64 (x7_1 + 1)), vq, H', ⟨oq⟩, ⟨bq⟩⟩
    refine iEq (fun c11b0 c11b1 => ?_) fun c11 c11b0 c11b1 => ?_
    ·refine ahq fun H' => ?_; obtain ⟨hx5, p5, q5⟩ := btq a0 x7_1; go_wp2_with (first | (go_at_call 119; (with_reducible refine (impl_isDigit.calls (bt a0 x7_1) false _ A7.out).mono ?_); rintro e w' ⟨rfl, ⟨nd, rfl⟩⟩)); go_roundg k1; case measure => exact oq
     case rel => exact ⟨(wrap64 (x7_1 + 1)), vq, H', ⟨oq⟩, ⟨bq⟩⟩
    refine siq ?_; rintro rfl; obtain ⟨hx5, p5, q5⟩ := btq a0 x7_1; go_wp2_with (first | (go_at_call 119; (with_reducible refine (impl_isDigit.calls (bt a0 x7_1) false _ A7.out).mono ?_); rintro e w' ⟨rfl, ⟨nd, rfl⟩⟩)); go_ret; exact ⟨vq, bq⟩
   refine bTq ?_; refine ahq fun H' => ?_; obtain ⟨hx5, p5, q5⟩ := btq a0 x7_1; go_wp2_with (first | (go_at_call 119; (with_reducible refine (impl_isDigit.calls (bt a0 x7_1) true _ A7.out).mono ?_); rintro e w' ⟨rfl, ⟨nd, rfl⟩⟩)); go_roundg k1; case measure => exact oq
   case rel => exact ⟨(wrap64 (x7_1 + 1)), vq, H', ⟨oq⟩, ⟨bq⟩⟩
  refine iDq (fun c12b0 => ?_) fun c12b0 => ?_
  ·refine bnq fun t260 A13 => ?_; cases t260
   ·refine bFq ?_; refine iEq (fun c15b0 c15b1 => ?_) fun c15 c15b0 c15b1 => ?_
    ·refine ahq fun H' => ?_; obtain ⟨hx5, p5, q5⟩ := btq a0 x7_1; go_wp2_with (first | (go_at_call 119; (with_reducible refine (impl_isDigit.calls (bt a0 x7_1) false _ A13.out).mono ?_); rintro e w' ⟨rfl, ⟨nd, rfl⟩⟩)); go_roundg k1; case measure => exact oq
     case rel => exact ⟨(wrap64 (x7_1 + 1)), vq, H', ⟨oq⟩, ⟨bq⟩⟩
    refine iEq (fun c16b0 c16b1 => ?_) fun c16 c16b0 c16b1 => ?_
    ·refine ahq fun H' => ?_; obtain ⟨hx5, p5, q5⟩ := btq a0 x7_1; go_wp2_with (first | (go_at_call 119; (with_reducible refine (impl_isDigit.calls (bt a0 x7_1) false _ A13.out).mono ?_); rintro e w' ⟨rfl, ⟨nd, rfl⟩⟩)); go_roundg k1; case measure => exact oq
     case rel => exact ⟨(wrap64 (x7_1 + 1)), vq, H', ⟨oq⟩, ⟨bq⟩⟩
    refine iEq (fun c17b0 c17b1 => ?_) fun c17 c17b0 c17b1 => ?_
    ·refine ahq fun H' => ?_; obtain ⟨hx5, p5, q5⟩ := btq a0 x7_1; go_wp2_with (first | (go_at_call 119; (with_reducible refine (impl_isDigit.calls (bt a0 x7_1) false _ A13.out).mono ?_); rintro e w' ⟨rfl, ⟨nd, rfl⟩⟩)); go_roundg k1; case measure => exact oq
     case rel => exact ⟨(wrap64 (x7_1 + 1)), vq, H', ⟨oq⟩, ⟨bq⟩⟩
    refine siq ?_; rintro rfl; obtain ⟨hx5, p5, q5⟩ := btq a0 x7_1; go_wp2_with (first | (go_at_call 119; (with_reducible refine (impl_isDigit.calls (bt a0 x7_1) false _ A13.out).mono ?_); rintro e w' ⟨rfl, ⟨nd, rfl⟩⟩)); go_ret; exact ⟨vq, bq⟩
   refine bTq ?_; refine ahq fun H' => ?_; obtain ⟨hx5, p5, q5⟩ := btq a0 x7_1; go_wp2_with (first | (go_at_call 119; (with_reducible refine (impl_isDigit.calls (bt a0 x7_1) true _ A13.out).mono ?_); rintro e w' ⟨rfl, ⟨nd, rfl⟩⟩)); go_roundg k1; case measure => exact oq
   case rel => exact ⟨(wrap64 (x7_1 + 1)), vq, H', ⟨oq⟩, ⟨bq⟩⟩
  refine ahq fun H' => ?_; obtain ⟨hx5, p5, q5⟩ := btq a0 x7_1; go_wp2; go_roundg k1; case measure => exact oq
  case rel => exact ⟨(wrap64 (x7_1 + 1)), vq, H', ⟨oq⟩, ⟨bq⟩⟩
 refine bnq fun t261 A18 => ?_; cases t261
 ·refine bFq ?_; refine siq ?_; rintro rfl; go_wp2_with (first | (refine gcq (some 39) rfl Tryz.func52 (impl_in.calls (a0.size : Int) 1 60 false _ A18.out) ?_; rintro _ w' ⟨rfl, ⟨nd, rfl⟩⟩; refine ⟨_, rfl, ?_⟩)); go_ret; exact ⟨vq, bq⟩
 refine bTq ?_; refine bnq fun t262 A20 => ?_; refine bnq fun t265 A21 => ?_; refine siq ?_; rintro rfl; go_wp2_with (first | (refine gcq (some 39) rfl Tryz.func52 (impl_in.calls (a0.size : Int) 1 60 true _ A18.out) ?_; rintro _ w' ⟨rfl, ⟨nd, rfl⟩⟩; refine ⟨_, rfl, ?_⟩) | (go_at_call 74; (with_reducible refine (impl_labels.calls a0 t262 _ ?side1 A20.out).mono ?_); (case side1 => exact TabM.below HTB.out (bq)); rintro e w22 ⟨v263, rfl, ho0, hb⟩; have HO264 := rlq (w := w) ho0; replace HB := Aside0.mk (below_step bq hb); clear hb ho0; obtain ⟨Ao23, co23, rfl⟩ := Kd.R_slice HO264.out) | (go_at_call 120; (with_reducible refine (slices_Contains_string_string.calls k1 _ _ t262 (⟨#[]⟩ : ByteArray) t265 _ ?side1 ?side2 A21.out).mono ?_); (case side1 => repeat (first | exact (Kd.R_reads' HO264.out).2.2 | (with_reducible refine Kd.C_alloc ?_ _) | (with_reducible refine Kd.C_drewN ?_ _) | (with_reducible refine Kd.C_drew ?_))); (case side2 => exact (Kd.R_reads' HO264.out).2.1); rintro e w' ⟨rfl, ⟨nd, rfl⟩⟩)); go_ret; exact ⟨vq, bq⟩
def stringslite_HasPrefix.f (a0 : ByteArray) (a1 : ByteArray) : Option (Bool) := if (a0.size : Int) ≥ (a1.size : Int) then (if 0 ≤ (a1.size : Int) then (if (a1.size : Int) ≤ (a0.size : Int) then (some ((a0.extract 0 ((a1.size : Int) : Int).toNat).toList == a1.toList)) else (none)) else (none)) else (some false)
theorem stringslite_HasPrefix.calls (a0 : ByteArray) (a1 : ByteArray) (r : Bool) (w : World) (h : stringslite_HasPrefix.f a0 a1 = some r) :
  Calls Tryz.prog 146 #[.string a0, .string a1] w fun e w' => e = .returned (.bool r) ∧ Drawn0 w w' := by
 unfold stringslite_HasPrefix.f at h; revert h; intro H; by_cases c3 : (a0.size : Int) ≥ (a1.size : Int)
 ·rw [if_pos c3] at H; have c3b0 := decide_eq_true c3; have c3b1 : decide (a1.size ≤ a0.size) = true := decide_eq_true (Int.ofNat_le.mp c3); clear c3; revert H; refine iTnq fun c4b0 c4b1 => ?_; refine iTnq fun c5b0 c5b1 => ?_; refine siq ?_; rintro rfl; go_enter Tryz.func146, Tryz.ntmps146; go_wp2; go_ret; exact ⟨vq, dq⟩
 ·rw [if_neg c3] at H; have c3b0 := decide_eq_false c3; have c3b1 : decide (a1.size ≤ a0.size) = false := decide_eq_false (fun h => c3 (Int.ofNat_le.mpr h)); clear c3; obtain rfl := Option.some.inj H; go_enter Tryz.func146, Tryz.ntmps146; go_wp2; go_ret; exact ⟨vq, dq⟩
def strings_HasPrefix.f (a0 : ByteArray) (a1 : ByteArray) : Option (Bool) := (stringslite_HasPrefix.f a0 a1).bind fun t266 => (some t266)
theorem strings_HasPrefix.calls (a0 : ByteArray) (a1 : ByteArray) (r : Bool) (w : World) (h : strings_HasPrefix.f a0 a1 = some r) :
  Calls Tryz.prog 121 #[.string a0, .string a1] w fun e w' => e = .returned (.bool r) ∧ Drawn0 w w' := by
 unfold strings_HasPrefix.f at h; revert h; refine bnq fun t266 A3 => ?_; refine siq ?_; rintro rfl; go_enter Tryz.func121, Tryz.ntmps121; go_wp2_with (first | (refine gcq (some 7) rfl Tryz.func146 (stringslite_HasPrefix.calls a0 a1 t266 _ A3.out) ?_; rintro _ w' ⟨rfl, ⟨nd, rfl⟩⟩; refine ⟨_, rfl, ?_⟩)); go_ret; exact ⟨vq, dq⟩
end Go.Proofs.YtopcpbokfngpeaaGreatDoor.Lh
set_option maxHeartbeats 8000000
set_option maxRecDepth 100000
namespace Go.Proofs.YtopcpbokfngpeaaGreatDoor.Lh
open Go.RowKit Go.Proofs.YtopcpbokfngpeaaGreatDoor.H Go.Proofs.YtopcpbokfngpeaaGreatDoorW.PrintWords Go.Proofs.YtopcpbokfngpeaaGreatDoorW.PrintLast Go.Proofs.YtopcpbokfngpeaaGreatDoorW.PrintMore Go.Proofs.YtopcpbokfngpeaaGreatDoor.Lp
attribute [local go_sem] max2_int min2_int max_two min_two max_three min_three max_four min_four   -- for this text's walks alone
set_option linter.unusedVariables false
set_option linter.unusedSimpArgs false
mutual
def impl_hex.j0 : Nat → Int → Bool → Option (Int)
 | 0, _, _ => none
 | k + 1, x0, x3 => if x3 = true then (some ((x0 - 48) % 256)) else (if x0 ≥ 97 then (impl_hex.j1 k x0 (decide (x0 ≤ 102))) else (impl_hex.j1 k x0 false))
def impl_hex.j1 : Nat → Int → Bool → Option (Int)
 | 0, _, _ => none
 | k + 1, x0, x13 => if x13 = true then (some (((x0 - 97) % 256) + 10)) else (if x0 ≥ 65 then (if x0 ≤ 70 then (some (((x0 - 65) % 256) + 10)) else (some (-1))) else (some (-1)))
end
def impl_hex.f (k : Nat) (a0 : Int) : Option (Int) := if a0 ≥ 48 then (impl_hex.j0 k a0 (decide (a0 ≤ 57))) else (impl_hex.j0 k a0 false)
theorem impl_hex.mono_l : ∀ k, (∀ y0 y1, LeO (impl_hex.j0 k y0 y1) (impl_hex.j0 (k + 1) y0 y1)) ∧ (∀ y0 y1, LeO (impl_hex.j1 k y0 y1) (impl_hex.j1 (k + 1) y0 y1))
 | 0 => ⟨fun _ _ => LeO.none _, fun _ _ => LeO.none _⟩
 | k + 1 => by
  obtain ⟨ih0, ih1⟩ := impl_hex.mono_l k
  exact ⟨fun _ _ => by unfold impl_hex.j0; exact lq, fun _ _ => by unfold impl_hex.j1; exact lq⟩
theorem impl_hex.mono : ∀ a0 k, LeO (impl_hex.f k a0) (impl_hex.f (k + 1) a0) := by
 intro a0 k; obtain ⟨ih0, ih1⟩ := impl_hex.mono_l k; unfold impl_hex.f; exact lq
theorem impl_hex.calls (k : Nat) (a0 : Int) (r : Int) (w : World) (h : impl_hex.f k a0 = some r) :
  Calls Tryz.prog 147 #[.int .u8 a0] w fun e w' => e = .returned (.int .i64 r) ∧ Drawn0 w w' := by
 unfold impl_hex.f at h; revert h; refine ahq fun HC2 => ?_; go_enter Tryz.func147, Tryz.ntmps147; go_upto_region 1 with (fail); go_cut [3] (fun v3 wc => ∃ (kq : Nat) (x3_1 : Bool), v3 = .bool x3_1 ∧ Aside0 (impl_hex.j0 kq a0 x3_1 = some r) ∧ Aside0 (kq ≤ k) ∧ Drawn0 w wc); case first =>
  have H := HC2.out; clear HC2; revert H; refine iDq (fun c3b0 => ?_) fun c3b0 => ?_
  ·intro H; (first | rw [c3b0] | (simp only [i64_w, i32_w]; rw [c3b0]) | skip); have H' := Aside0.mk H; clear H; go_wp2; go_meet; case rel => exact ⟨_, (decide (a0 ≤ 57)), vq, H', ⟨oq⟩, dq⟩
  intro H; (first | rw [c3b0] | (simp only [i64_w, i32_w]; rw [c3b0]) | skip); have H' := Aside0.mk H; clear H; go_wp2; go_meet; case rel => exact ⟨_, (false), vq, H', ⟨oq⟩, dq⟩
 clear HC2; obtain ⟨kq, x3_1, rfl, HA, HJ1, ⟨mc1, rfl⟩⟩ := hcut; cases kq with | zero => exact zq HA | succ kj1 => ?_
 have H := HA.out; clear HA; simp only [impl_hex.j0] at H; revert H; cases x3_1
 ·refine bFq ?_; refine ahq fun HC5 => ?_; go_upto_region 3 with (fail); go_cut [13] (fun v13 wc => ∃ (kq : Nat) (x13_4 : Bool), v13 = .bool x13_4 ∧ Aside0 (impl_hex.j1 kq a0 x13_4 = some r) ∧ Aside0 (kq ≤ kj1) ∧ Drawn0 w wc); case first =>
   have H := HC5.out; clear HC5; revert H; refine iDq (fun c6b0 => ?_) fun c6b0 => ?_
   ·intro H; (first | rw [c6b0] | (simp only [i64_w, i32_w]; rw [c6b0]) | skip); have H' := Aside0.mk H; clear H; go_wp2; go_meet; case rel => exact ⟨_, (decide (a0 ≤ 102)), vq, H', ⟨oq⟩, dq⟩
   intro H; (first | rw [c6b0] | (simp only [i64_w, i32_w]; rw [c6b0]) | skip); have H' := Aside0.mk H; clear H; go_wp2; go_meet; case rel => exact ⟨_, (false), vq, H', ⟨oq⟩, dq⟩
  clear HC5; obtain ⟨kq, x13_4, rfl, HA, HJ4, ⟨mc4, rfl⟩⟩ := hcut; cases kq with | zero => exact zq HA | succ kj4 => ?_
  have H := HA.out; clear HA; simp only [impl_hex.j1] at H; revert H; cases x13_4
  ·refine bFq ?_; refine iDq (fun c8b0 => ?_) fun c8b0 => ?_
   ·refine iDq (fun c9b0 => ?_) fun c9b0 => ?_
    ·refine siq ?_; rintro rfl; go_wp2; go_ret; exact ⟨vq, dq⟩
    refine siq ?_; rintro rfl; go_wp2; go_ret; exact ⟨vq, dq⟩
   refine siq ?_; rintro rfl; go_wp2; go_ret; exact ⟨vq, dq⟩
  refine bTq ?_; refine siq ?_; rintro rfl; go_wp2; go_ret; exact ⟨vq, dq⟩
 refine bTq ?_; refine siq ?_; rintro rfl; go_wp2; go_ret; exact ⟨vq, dq⟩
mutual
def impl_labelNumber.j1 : Nat → ByteArray → Int → Option (Int × Bool)
 | 0, _, _ => none
 | k + 1, x0, x4 => impl_labelNumber.l0 k x0 x4 0 (x0.size : Int) 0
def impl_labelNumber.l0 : Nat → ByteArray → Int → Int → Int → Int → Option (Int × Bool)
 | 0, _, _, _, _, _ => none
 | k + 1, x0, x4, x5, x32, x33 => if x33 < x32 then (if 0 ≤ x33 then (if x33 < (x0.size : Int) then ((impl_hex.f k (bt x0 x33)).bind fun t269 => (if t269 < 0 then (some (0, false)) else (if t269 ≥ x4 then (some (0, false)) else (if x5 > 4294967295 then (some (0, false)) else (impl_labelNumber.l0 k x0 x4 (wrap64 ((wrap64 (x4 * x5)) + t269)) x32 (wrap64 (x33 + 1))))))) else (none)) else (none)) else (some (x5, true))
def impl_labelNumber.j0 : Nat → ByteArray → Int → Bool → Option (Int × Bool)
 | 0, _, _, _ => none
 | k + 1, x0, x4, x11 => if x11 = true then (if 2 ≤ (x0.size : Int) then (impl_labelNumber.j1 k (x0.extract 2 x0.size) 16) else (none)) else (if 0 < (x0.size : Int) then (if (bt x0 0) = 48 then (if (x0.size : Int) > 1 then (if 1 ≤ (x0.size : Int) then (impl_labelNumber.j1 k (x0.extract 1 x0.size) 8) else (none)) else (impl_labelNumber.j1 k x0 x4)) else (impl_labelNumber.j1 k x0 x4)) else (none))
end
def impl_labelNumber.f (k : Nat) (a0 : ByteArray) : Option (Int × Bool) := if a0.toList = ([] : List UInt8) then (some (0, false)) else ((strings_HasPrefix.f a0 (⟨#[48, 120]⟩ : ByteArray)).bind fun t267 => (if t267 = true then (impl_labelNumber.j0 k a0 10 true) else ((strings_HasPrefix.f a0 (⟨#[48, 88]⟩ : ByteArray)).bind fun t268 => (impl_labelNumber.j0 k a0 10 t268))))
theorem impl_labelNumber.mono_l : ∀ k, (∀ y0 y1, LeO (impl_labelNumber.j1 k y0 y1) (impl_labelNumber.j1 (k + 1) y0 y1)) ∧ (∀ y0 y1 y2 y3 y4, LeO (impl_labelNumber.l0 k y0 y1 y2 y3 y4) (impl_labelNumber.l0 (k + 1) y0 y1 y2 y3 y4)) ∧ (∀ y0 y1 y2, LeO (impl_labelNumber.j0 k y0 y1 y2) (impl_labelNumber.j0 (k + 1) y0 y1 y2))
 | 0 => ⟨fun _ _ => LeO.none _, fun _ _ _ _ _ => LeO.none _, fun _ _ _ => LeO.none _⟩
 | k + 1 => by
  obtain ⟨ih0, ih1, ih2⟩ := impl_labelNumber.mono_l k
  have m0 := @impl_hex.mono
  exact ⟨fun _ _ => by unfold impl_labelNumber.j1; exact lq, fun _ _ _ _ _ => by unfold impl_labelNumber.l0; exact lq, fun _ _ _ => by unfold impl_labelNumber.j0; exact lq⟩
theorem impl_labelNumber.mono : ∀ a0 k, LeO (impl_labelNumber.f k a0) (impl_labelNumber.f (k + 1) a0) := by
 intro a0 k; obtain ⟨ih0, ih1, ih2⟩ := impl_labelNumber.mono_l k; have m0 := @impl_hex.mono; unfold impl_labelNumber.f; exact lq
theorem impl_labelNumber.calls (k : Nat) (a0 : ByteArray) (r1 : Int) (r2 : Bool) (w : World) (h : impl_labelNumber.f k a0 = some (r1, r2)) :
  Calls Tryz.prog 122 #[.string a0] w fun e w' => e = .returned (.tuple #[.int .i64 r1, .bool r2]) ∧ Drawn0 w w' := by
 unfold impl_labelNumber.f at h; revert h; refine ahq fun HC2 => ?_; go_enter Tryz.func122, Tryz.ntmps122; go_upto_block 0 with (fail); repeat (go_quiet (fail); go_upto_block 0 with (fail))
 go_cut [0, 4] (fun v0 v4 wc => ∃ (kq : Nat) (x0_1 : ByteArray) (x4_1 : Int), v0 = .string x0_1 ∧ v4 = .int .i64 x4_1 ∧ Aside0 (impl_labelNumber.j1 kq x0_1 x4_1 = some (r1, r2)) ∧ Aside0 (kq ≤ k) ∧ Drawn0 w wc); case first =>
  have H := HC2.out; clear HC2; revert H; refine iEq (fun c3b0 c3b1 => ?_) fun c3 c3b0 c3b1 => ?_
  ·intro H; (first | rw [c3b0] | (simp only [i64_w, i32_w]; rw [c3b0]) | skip); simp only [Option.some.injEq, Prod.mk.injEq] at H; obtain ⟨rfl, rfl⟩ := H; go_wp2; repeat (go_quiet (fail); try go_wp2)
   go_ret2; exact ⟨vq, dq⟩
  intro H; (first | rw [c3b0] | (simp only [i64_w, i32_w]; rw [c3b0]) | skip); have HC4 := Aside0.mk H; clear H; go_upto_region 4 with (fail); repeat (go_quiet (fail); go_upto_region 4 with (fail))
  go_cut [11] (fun v11 wc => ∃ (kq : Nat) (x11_3 : Bool), v11 = .bool x11_3 ∧ Aside0 (impl_labelNumber.j0 kq a0 10 x11_3 = some (r1, r2)) ∧ Aside0 (kq ≤ k) ∧ Drawn0 w wc); case first =>
   have H := HC4.out; clear HC4; revert H; refine bnq fun t267 A5 => ?_; cases t267
   ·refine bFq ?_; refine bnq fun t268 A7 => ?_; refine ahq fun H' => ?_; go_wp2_with (first | (go_at_call 121; (with_reducible refine (strings_HasPrefix.calls a0 (⟨#[48, 120]⟩ : ByteArray) false _ A5.out).mono ?_); rintro e w' ⟨rfl, ⟨nd, rfl⟩⟩; (try exact xq)) | (go_at_call 121; (with_reducible refine (strings_HasPrefix.calls a0 (⟨#[48, 88]⟩ : ByteArray) t268 _ A7.out).mono ?_); rintro e w' ⟨rfl, ⟨nd, rfl⟩⟩; (try exact xq))); repeat (go_quiet (first | (go_at_call 121; (with_reducible refine (strings_HasPrefix.calls a0 (⟨#[48, 120]⟩ : ByteArray) false _ A5.out).mono ?_); rintro e w' ⟨rfl, ⟨nd, rfl⟩⟩; (try exact xq)) | (go_at_call 121; (with_reducible refine (strings_HasPrefix.calls a0 (⟨#[48, 88]⟩ : ByteArray) t268 _ A7.out).mono ?_); rintro e w' ⟨rfl, ⟨nd, rfl⟩⟩; (try exact xq))); try go_wp2_with (first | (go_at_call 121; (with_reducible refine (strings_HasPrefix.calls a0 (⟨#[48, 120]⟩ : ByteArray) false _ A5.out).mono ?_); rintro e w' ⟨rfl, ⟨nd, rfl⟩⟩; (try exact xq)) | (go_at_call 121; (with_reducible refine (strings_HasPrefix.calls a0 (⟨#[48, 88]⟩ : ByteArray) t268 _ A7.out).mono ?_); rintro e w' ⟨rfl, ⟨nd, rfl⟩⟩; (try exact xq))))
    go_meet; case rel => exact ⟨_, (t268), vq, H', ⟨oq⟩, dq⟩
   refine bTq ?_; refine ahq fun H' => ?_; go_wp2_with (first | (go_at_call 121; (with_reducible refine (strings_HasPrefix.calls a0 (⟨#[48, 120]⟩ : ByteArray) true _ A5.out).mono ?_); rintro e w' ⟨rfl, ⟨nd, rfl⟩⟩; (try exact xq))); repeat (go_quiet (first | (go_at_call 121; (with_reducible refine (strings_HasPrefix.calls a0 (⟨#[48, 120]⟩ : ByteArray) true _ A5.out).mono ?_); rintro e w' ⟨rfl, ⟨nd, rfl⟩⟩; (try exact xq))); try go_wp2_with (first | (go_at_call 121; (with_reducible refine (strings_HasPrefix.calls a0 (⟨#[48, 120]⟩ : ByteArray) true _ A5.out).mono ?_); rintro e w' ⟨rfl, ⟨nd, rfl⟩⟩; (try exact xq))))
   go_meet; case rel => exact ⟨_, (true), vq, H', ⟨oq⟩, dq⟩
  clear HC4; obtain ⟨kq, x11_3, rfl, HA, HJ3, ⟨mc3, rfl⟩⟩ := hcut; cases kq with | zero => exact zq HA | succ kj3 => ?_
  have H := HA.out; clear HA; simp only [impl_labelNumber.j0] at H; revert H; cases x11_3
  ·refine bFq ?_; refine iFnq (0 < a0.size) fun c10b0 c10b1 => ?_; refine iEq (fun c12b0 c12b1 => ?_) fun c12 c12b0 c12b1 => ?_
   ·refine iFq (1 < a0.size) (fun c13b0 c13b1 => ?_) fun c13b0 c13b1 => ?_
    ·refine iTnq fun c14b0 c14b1 => ?_; refine ahq fun H' => ?_; obtain ⟨hx11, qi11, q11⟩ := bt0q a0; go_wp2; repeat (go_quiet (fail); try go_wp2)
     go_meet; case rel => exact ⟨_, (a0.extract 1 a0.size), (8), vq, vq, H', ⟨oq⟩, dq⟩
    refine ahq fun H' => ?_; obtain ⟨hx11, qi11, q11⟩ := bt0q a0; go_wp2; repeat (go_quiet (fail); try go_wp2)
    go_meet; case rel => exact ⟨_, (a0), (10), vq, vq, H', ⟨oq⟩, dq⟩
   refine ahq fun H' => ?_; obtain ⟨hx11, qi11, q11⟩ := bt0q a0; go_wp2; repeat (go_quiet (fail); try go_wp2)
   go_meet; case rel => exact ⟨_, (a0), (10), vq, vq, H', ⟨oq⟩, dq⟩
  refine bTq ?_; refine iTnq fun c9b0 c9b1 => ?_; refine ahq fun H' => ?_; go_wp2; repeat (go_quiet (fail); try go_wp2)
  go_meet; case rel => exact ⟨_, (a0.extract 2 a0.size), (16), vq, vq, H', ⟨oq⟩, dq⟩
 clear HC2; obtain ⟨kq, x0_1, x4_1, rfl, rfl, HA, HJ1, ⟨mc1, rfl⟩⟩ := hcut; cases kq with | zero => exact zq HA | succ kj1 => ?_
 have H := HA.out; clear HA; simp only [impl_labelNumber.j1] at H; have H' := Aside0.mk H; clear H; go_wp2; repeat (go_quiet (fail); try go_wp2)
 go_loopg [5, 33] kj1 (fun kq v5 v33 w' => ∃ (x5_2 : Int) (x33_2 : Int), v5 = .int .i64 x5_2 ∧ v33 = .int .i64 x33_2 ∧ Aside0 (impl_labelNumber.l0 kq x0_1 x4_1 x5_2 (x0_1.size : Int) x33_2 = some (r1, r2)) ∧ Aside0 (kq ≤ kj1) ∧ Drawn0 w w'); case atStart => exact ⟨(0), (0), vq, vq, H', ⟨oq⟩, dq⟩
 clear H'; obtain ⟨x5_2, x33_2, rfl, rfl, HA, HK2, ⟨m2, rfl⟩⟩ := hrel; cases gk with | zero => exact zq HA | succ k2 => ?_
 have H := HA.out; clear HA; simp only [impl_labelNumber.l0] at H; revert H; refine iDq (fun c15b0 => ?_) fun c15b0 => ?_
 ·refine iDnq fun c16b0 => ?_; refine iDnq fun c17b0 => ?_; refine bnq fun t269 A19 => ?_; refine iDq (fun c20b0 => ?_) fun c20b0 => ?_
  ·refine s2q ?_; rintro rfl rfl; obtain ⟨hx18, p18, q18⟩ := btq x0_1 x33_2; go_wp2_with (first | (go_at_call 147; (with_reducible refine (impl_hex.calls k2 (bt x0_1 x33_2) t269 _ A19.out).mono ?_); rintro e w' ⟨rfl, ⟨nd, rfl⟩⟩; (try exact xq))); repeat (go_quiet (first | (go_at_call 147; (with_reducible refine (impl_hex.calls k2 (bt x0_1 x33_2) t269 _ A19.out).mono ?_); rintro e w' ⟨rfl, ⟨nd, rfl⟩⟩; (try exact xq))); try go_wp2_with (first | (go_at_call 147; (with_reducible refine (impl_hex.calls k2 (bt x0_1 x33_2) t269 _ A19.out).mono ?_); rintro e w' ⟨rfl, ⟨nd, rfl⟩⟩; (try exact xq))))
   go_ret2; exact ⟨vq, dq⟩
  refine iDq (fun c21b0 => ?_) fun c21b0 => ?_
  ·refine s2q ?_; rintro rfl rfl; obtain ⟨hx18, p18, q18⟩ := btq x0_1 x33_2; go_wp2_with (first | (go_at_call 147; (with_reducible refine (impl_hex.calls k2 (bt x0_1 x33_2) t269 _ A19.out).mono ?_); rintro e w' ⟨rfl, ⟨nd, rfl⟩⟩; (try exact xq))); repeat (go_quiet (first | (go_at_call 147; (with_reducible refine (impl_hex.calls k2 (bt x0_1 x33_2) t269 _ A19.out).mono ?_); rintro e w' ⟨rfl, ⟨nd, rfl⟩⟩; (try exact xq))); try go_wp2_with (first | (go_at_call 147; (with_reducible refine (impl_hex.calls k2 (bt x0_1 x33_2) t269 _ A19.out).mono ?_); rintro e w' ⟨rfl, ⟨nd, rfl⟩⟩; (try exact xq))))
   go_ret2; exact ⟨vq, dq⟩
  refine iDq (fun c22b0 => ?_) fun c22b0 => ?_
  ·refine s2q ?_; rintro rfl rfl; obtain ⟨hx18, p18, q18⟩ := btq x0_1 x33_2; go_wp2_with (first | (go_at_call 147; (with_reducible refine (impl_hex.calls k2 (bt x0_1 x33_2) t269 _ A19.out).mono ?_); rintro e w' ⟨rfl, ⟨nd, rfl⟩⟩; (try exact xq))); repeat (go_quiet (first | (go_at_call 147; (with_reducible refine (impl_hex.calls k2 (bt x0_1 x33_2) t269 _ A19.out).mono ?_); rintro e w' ⟨rfl, ⟨nd, rfl⟩⟩; (try exact xq))); try go_wp2_with (first | (go_at_call 147; (with_reducible refine (impl_hex.calls k2 (bt x0_1 x33_2) t269 _ A19.out).mono ?_); rintro e w' ⟨rfl, ⟨nd, rfl⟩⟩; (try exact xq))))
   go_ret2; exact ⟨vq, dq⟩
  refine ahq fun H' => ?_; obtain ⟨hx18, p18, q18⟩ := btq x0_1 x33_2; go_wp2_with (first | (go_at_call 147; (with_reducible refine (impl_hex.calls k2 (bt x0_1 x33_2) t269 _ A19.out).mono ?_); rintro e w' ⟨rfl, ⟨nd, rfl⟩⟩; (try exact xq))); repeat (go_quiet (first | (go_at_call 147; (with_reducible refine (impl_hex.calls k2 (bt x0_1 x33_2) t269 _ A19.out).mono ?_); rintro e w' ⟨rfl, ⟨nd, rfl⟩⟩; (try exact xq))); try go_wp2_with (first | (go_at_call 147; (with_reducible refine (impl_hex.calls k2 (bt x0_1 x33_2) t269 _ A19.out).mono ?_); rintro e w' ⟨rfl, ⟨nd, rfl⟩⟩; (try exact xq))))
  go_roundg k2; case measure => exact oq
  case rel => exact ⟨(wrap64 ((wrap64 (x4_1 * x5_2)) + t269)), (wrap64 (x33_2 + 1)), vq, vq, H', ⟨oq⟩, dq⟩
 refine s2q ?_; rintro rfl rfl; go_wp2; repeat (go_quiet (fail); try go_wp2)
 go_ret2; exact ⟨vq, dq⟩
end Go.Proofs.YtopcpbokfngpeaaGreatDoor.Lh
