/- Texts of this claim, joined: LUrlDOSame. Conditions: each theorem's own. -/
import Derived.Test.YtopcpbokfngpeaaGreatDoorA18
import Derived.Test.YtopcpbokfngpeaaGreatDoorA17
/- laws.FnOriginSame: the call comes to true, whatever the codes; the package-level variables read as their tables. -/
set_option linter.unusedVariables false
namespace Go.Proofs.YtopcpbokfngpeaaGreatDoor.H
open Go.RowKit Go.Proofs.YtopcpbokfngpeaaGreatDoorW.PrintWords Go.Proofs.YtopcpbokfngpeaaGreatDoor.Base Go.Proofs.YtopcpbokfngpeaaGreatDoor.Pure
attribute [local go_sem high] eqA_host
set_option maxHeartbeats 8000000 in
set_option maxRecDepth 100000 in
theorem FnOriginSame_walk (a0 : Option Addr) (len0 cap0 : Nat) (z0 : List Int) (a1 : Option Addr) (len1 cap1 : Nat) (z1 : List Int) (w : World) (w0 : CodeRow w a0 len0 cap0 z0) (y0 : len0 * 1 ≤ 140737488351232) (v1 : CodeRow w a1 len1 cap1 z1) (y1 : len1 * 1 ≤ 140737488351232) (hT : Tabs w) :
  Calls Tryz.prog 3 #[.slice a0 len0 cap0, .slice a1 len1 cap1] w fun e w' => e = .returned (.bool true) ∧ Below w.heap.size w w' := by
 have HDR := Lib.hid (code_DrawOriginSame a0 len0 cap0 z0 w w0)
 by_cases hbig : 1048576 < len0
 ·have hd : decide (1048576 < (len0 : Int)) = true := decide_eq_true (by omega)
  clear hT
  go_enter Tryz.func3, Tryz.ntmps3
  go_wp2
  go_ret
  exact ⟨rfl, Below.refl _ _⟩
 have hd : decide (1048576 < (len0 : Int)) = false := decide_eq_false (by omega)
 by_cases hbig1 : 1048576 < len1
 ·have hd1 : decide (1048576 < (len1 : Int)) = true := decide_eq_true (by omega)
  clear hT HDR
  go_enter Tryz.func3, Tryz.ntmps3
  go_wp2
  go_ret
  exact ⟨rfl, Below.refl _ _⟩
 have hd1 : decide (1048576 < (len1 : Int)) = false := decide_eq_false (by omega)
 have HDM := Lib.hid fun w1 (hb : Below w.heap.size w w1) => code_DrawOriginSame a1 len1 cap1 z1 w1 (v1.below hb)
 clear hbig hbig1 w0 y0 y1
 go_enter Tryz.func3, Tryz.ntmps3
 go_wp2_with fail
 refine HDR.out.mono ?_
 rintro e w1 ⟨a, b, pv, qv, rfl, fa, fb, hP, hQ, hb1⟩
 clear HDR
 have hPc := hP
 have hQc := hQ
 obtain ⟨A, c, rfl, _, _⟩ := hPc
 obtain ⟨A2, c2, rfl, _, _⟩ := hQc
 obtain ⟨Ka_2, Kb_2, hba⟩ := two_any w1 (uCells a (.slice A a.path.length c)) (uCells b (.slice A2 b.path.length c2))
 have hPa_2 := hP.below hba
 have hPb_2 := hQ.below hba
 have HB_2 := below_then hb1 hb1.size hba
 clear hP hQ hb1 hba
 unfold uCells at Ka_2 Kb_2 hPa_2 hPb_2 HB_2 ⊢
 go_upto_region 4 with fail
 generalize (w1.alloc _).alloc _ = w2 at Ka_2 Kb_2 hPa_2 hPb_2 HB_2 ⊢
 generalize w1.heap.size + 1 = gb at Kb_2 ⊢
 have HIab := Lib.hid fun w1 p q (hb : Below w.heap.size w w1) => implOriginSame_walk a b (.slice A a.path.length c) (.slice A2 b.path.length c2) w1 fa fb p q (hT.below hb)
 have HIba := Lib.hid fun w1 p q (hb : Below w.heap.size w w1) => implOriginSame_walk b a (.slice A2 b.path.length c2) (.slice A a.path.length c) w1 fb fa q p (hT.below hb)
 have HIaa := Lib.hid fun w1 p (hb : Below w.heap.size w w1) => implOriginSame_walk a a (.slice A a.path.length c) (.slice A a.path.length c) w1 fa fa p p (hT.below hb)
 have HSab := Lib.hid fun w1 p q => specOriginSame_walk a b (.slice A a.path.length c) (.slice A2 b.path.length c2) w1 fa fb p q
 have HOa := Lib.hid fun w1 p => specUrlOk_walk a (.slice A a.path.length c) w1 fa p
 have HOb := Lib.hid fun w1 p => specUrlOk_walk b (.slice A2 b.path.length c2) w1 fb p
 have HPa := Lib.hid fun w1 p (hb : Below w.heap.size w w1) => implPortOf_walk a (.slice A a.path.length c) w1 fa p (hT.below hb)
 have HPb := Lib.hid fun w1 p (hb : Below w.heap.size w w1) => implPortOf_walk b (.slice A2 b.path.length c2) w1 fb p (hT.below hb)
 rw [same_swap a b] at HIba
 have HSL : Hid (okU a = true → okU b = true → sameW a b = sameV a b) := Lib.hid (same_law a b)
 have HSO : Hid (okU a = true → sameV a a = decide (0 ≤ portU a)) := Lib.hid (same_own a)
 have HON := Lib.hid fun d : Ur => same_on a b d
 have HPU : Hid (okU a = true → portOfV a = portU a) := Lib.hid fun h => by unfold portOfV; rw [if_pos h]
 have HPV : Hid (okU b = true → portOfV b = portU b) := Lib.hid fun h => by unfold portOfV; rw [if_pos h]
 have HSW : Hid (sameW a b = (decide (0 ≤ portU a) && (a.sch == b.sch && ((a.hk == b.hk && (a.hn == b.hn && a.ha == b.ha)) && portU a == portU b)))) := Lib.hid rfl
 generalize hz : sameV a b = z at HIab HIba HSab HSL
 have HZ := Lib.hid hz
 generalize okU a = oka at HOa HSL HSO HPU
 generalize okU b = okb at HOb HSL HPV
 have hzz : (z != z) = false := by cases z <;> rfl
 have hze : (z == z) = true := by cases z <;> rfl
 clear hz
 have kca := Ka_2.cells.1
 have kcb := Kb_2.cells.1
 go_wp2_with fail
 refine (HIab.out _ hPa_2 hPb_2 HB_2).mono ?_
 rintro e w3 ⟨rfl, hb3⟩
 clear kca kcb
 have Ka_3 := Ka_2.below hb3
 have Kb_3 := Kb_2.below hb3
 have hPa_3 := hPa_2.below hb3
 have hPb_3 := hPb_2.below hb3
 have HB_3 := below_then HB_2 HB_2.size hb3
 clear Ka_2 Kb_2 hPa_2 hPb_2 HB_2 hb3
 have kca := Ka_3.cells.1
 have kcb := Kb_3.cells.1
 go_wp2_with fail
 refine (HSab.out _ hPa_3 hPb_3).mono ?_
 rintro e w4 ⟨rfl, hb4⟩
 clear kca kcb
 have Ka_4 := Ka_3.below hb4
 have Kb_4 := Kb_3.below hb4
 have hPa_4 := hPa_3.below hb4
 have hPb_4 := hPb_3.below hb4
 have HB_4 := below_then HB_3 HB_3.size hb4
 clear Ka_3 Kb_3 hPa_3 hPb_3 HB_3 hb4
 have kca := Ka_4.cells.1
 have kcb := Kb_4.cells.1
 go_wp2_with fail
 refine (HIba.out _ hPa_4 hPb_4 HB_4).mono ?_
 rintro e w5 ⟨rfl, hb5⟩
 clear kca kcb
 have Ka_5 := Ka_4.below hb5
 have Kb_5 := Kb_4.below hb5
 have hPa_5 := hPa_4.below hb5
 have hPb_5 := hPb_4.below hb5
 have HB_5 := below_then HB_4 HB_4.size hb5
 clear Ka_4 Kb_4 hPa_4 hPb_4 HB_4 hb5
 have kca := Ka_5.cells.1
 go_wp2_with fail
 refine (HOa.out _ hPa_5).mono ?_
 rintro e w6 ⟨rfl, hb6⟩
 clear kca
 have Ka_6 := Ka_5.below hb6
 have Kb_6 := Kb_5.below hb6
 have hPa_6 := hPa_5.below hb6
 have hPb_6 := hPb_5.below hb6
 have HB_6 := below_then HB_5 HB_5.size hb6
 clear Ka_5 Kb_5 hPa_5 hPb_5 HB_5 hb6
 cases oka with
 | false =>
  have kca := Ka_6.cells.1
  have kcb := Kb_6.cells.1
  go_wp2_with fail
  refine (HSab.out _ hPa_6 hPb_6).mono ?_
  rintro e w7 ⟨rfl, hb7⟩
  clear kca kcb
  have Ka_7 := Ka_6.below hb7
  have Kb_7 := Kb_6.below hb7
  have hPa_7 := hPa_6.below hb7
  have hPb_7 := hPb_6.below hb7
  have HB_7 := below_then HB_6 HB_6.size hb7
  clear Ka_6 Kb_6 hPa_6 hPb_6 HB_6 hb7
  have kca := Ka_7.cells.1
  have kcb := Kb_7.cells.1
  go_wp2_with fail
  refine (HIba.out _ hPa_7 hPb_7 HB_7).mono ?_
  rintro e w8 ⟨rfl, hb8⟩
  clear kca kcb
  have HBe := Lib.hid (below_then HB_7 HB_7.size hb8)
  clear hb8
  go_wp2
  go_ret
  exact ⟨rfl, HBe.out⟩
 | true =>
  have kcb := Kb_6.cells.1
  go_wp2_with fail
  refine (HOb.out _ hPb_6).mono ?_
  rintro e w7 ⟨rfl, hb7⟩
  clear kcb
  have Ka_7 := Ka_6.below hb7
  have Kb_7 := Kb_6.below hb7
  have hPa_7 := hPa_6.below hb7
  have hPb_7 := hPb_6.below hb7
  have HB_7 := below_then HB_6 HB_6.size hb7
  clear Ka_6 Kb_6 hPa_6 hPb_6 HB_6 hb7
  cases okb with
  | false =>
   have kca := Ka_7.cells.1
   have kcb := Kb_7.cells.1
   go_wp2_with fail
   refine (HSab.out _ hPa_7 hPb_7).mono ?_
   rintro e w8 ⟨rfl, hb8⟩
   clear kca kcb
   have Ka_8 := Ka_7.below hb8
   have Kb_8 := Kb_7.below hb8
   have hPa_8 := hPa_7.below hb8
   have hPb_8 := hPb_7.below hb8
   have HB_8 := below_then HB_7 HB_7.size hb8
   clear Ka_7 Kb_7 hPa_7 hPb_7 HB_7 hb8
   have kca := Ka_8.cells.1
   have kcb := Kb_8.cells.1
   go_wp2_with fail
   refine (HIba.out _ hPa_8 hPb_8 HB_8).mono ?_
   rintro e w9 ⟨rfl, hb9⟩
   clear kca kcb
   have HBe := Lib.hid (below_then HB_8 HB_8.size hb9)
   clear hb9
   go_wp2
   go_ret
   exact ⟨rfl, HBe.out⟩
  | true =>
   have hsl := HSL.out (by trivial) (by trivial)
   have hso := HSO.out (by trivial)
   have hpa := HPU.out (by trivial)
   have hpb := HPV.out (by trivial)
   rw [HSW.out] at hsl
   rw [hso] at HIaa
   rw [hpa] at HPa
   rw [hpb] at HPb
   clear hso hpa hpb HSL HSO HPU HPV HSW
   go_wp2_with fail
   refine (HDM.out _ HB_7).mono ?_
   rintro e w8 ⟨d, d2, rv, rv2, rfl, fd, fd2, hR, hR2, hb8⟩
   have Ka_8 := Ka_7.below hb8
   have Kb_8 := Kb_7.below hb8
   have hPa_8 := hPa_7.below hb8
   have hPb_8 := hPb_7.below hb8
   have HB_8 := below_then HB_7 HB_7.size hb8
   clear Ka_7 Kb_7 hPa_7 hPb_7 HB_7 hb8
   have hRc := hR
   obtain ⟨A3, c3, rfl, _, _⟩ := hRc
   have hRc := hR2
   obtain ⟨A4, c4, rfl, _, _⟩ := hRc
   obtain ⟨Kd_9, _, hba⟩ := two_any w8 (uCells d (.slice A3 d.path.length c3)) (uCells d2 (.slice A4 d2.path.length c4))
   have hPd_9 := hR.below hba
   have Ka_9 := Ka_8.below hba
   have Kb_9 := Kb_8.below hba
   have hPa_9 := hPa_8.below hba
   have hPb_9 := hPb_8.below hba
   have HB_9 := below_then HB_8 HB_8.size hba
   clear Ka_8 Kb_8 hPa_8 hPb_8 HB_8 hba
   clear hR hR2
   unfold uCells at Kd_9 Ka_9 Kb_9 hPd_9 hPa_9 hPb_9 HB_9 ⊢
   go_upto_region 8 with fail
   generalize (w8.alloc _).alloc _ = w9 at Kd_9 Ka_9 Kb_9 hPd_9 hPa_9 hPb_9 HB_9 ⊢
   generalize w8.heap.size = gd at Kd_9 ⊢
   have HIad := Lib.hid fun w1 p q (hb : Below w.heap.size w w1) => implOriginSame_walk a d (.slice A a.path.length c) (.slice A3 d.path.length c3) w1 fa fd p q (hT.below hb)
   have HIbd := Lib.hid fun w1 p q (hb : Below w.heap.size w w1) => implOriginSame_walk b d (.slice A2 b.path.length c2) (.slice A3 d.path.length c3) w1 fb fd p q (hT.below hb)
   have hon : z = true → sameV a d = sameV b d := fun q => HON.out d (by rw [HZ.out, q])
   have HON2 := Lib.hid hon
   clear hon HON HZ
   have kca := Ka_9.cells.1
   go_wp2_with fail
   refine (HPa.out _ hPa_9 HB_9).mono ?_
   rintro e w10 ⟨rfl, hb10⟩
   clear kca
   have Ka_10 := Ka_9.below hb10
   have Kb_10 := Kb_9.below hb10
   have Kd_10 := Kd_9.below hb10
   have hPa_10 := hPa_9.below hb10
   have hPb_10 := hPb_9.below hb10
   have hPd_10 := hPd_9.below hb10
   have HB_10 := below_then HB_9 HB_9.size hb10
   clear Ka_9 Kb_9 Kd_9 hPa_9 hPb_9 hPd_9 HB_9 hb10
   generalize portU a = na at HIaa HPa hsl ⊢
   generalize portU b = nb at HPb hsl
   unfold uCells at HIaa HPa HPb HIad HIbd
   go_upto_region 9 with fail
   by_cases hh : 0 ≤ na
   ·have h0 : decide (0 ≤ na) = true := decide_eq_true hh
    rw [h0, Bool.true_and] at hsl
    have h0c := h0
    rw [h0] at HIaa
    rcases dec1 a.sch b.sch with hs | hs
    ·have hs1 : (a.sch == b.sch) = true := by rw [hs]; simp
     rw [hs1, Bool.true_and] at hsl
     clear hs
     rcases dec3 a.hk b.hk a.hn b.hn a.ha b.ha with hv | hv
     ·have hv1 : (a.hk == b.hk && (a.hn == b.hn && a.ha == b.ha)) = true := by rw [hv.1, hv.2.1, hv.2.2]; simp
      have hv2 : (a.hk == b.hk) = true := by rw [hv.1]; simp
      have hv3 : (a.hn == b.hn) = true := by rw [hv.2.1]; simp
      have hv4 : (a.ha == b.ha) = true := by rw [hv.2.2]; simp
      rw [hv1, Bool.true_and] at hsl
      clear hv
      subst hsl
      obtain ⟨z, hpe⟩ : ∃ z, z = (na == nb) := ⟨_, rfl⟩
      rw [← hpe] at HON2 hzz hze ⊢
      have hpe2 := hpe.symm
      clear hpe
      refine wp_region_below (by kernel_rfl) (by kernel_rfl) ?_
      repeat (with_reducible refine wpQuiet_step (fun K hK => ?_); go_simp; first | (refine hK _ ?_; clear hK K) | (refine ⟨_, fun _ _ => rfl, hK _ ?_⟩; clear hK K) | (rw [if_neg (by decide)]; refine hK _ ?_; clear hK K) | (apply Exists.intro; refine ⟨fun wq hq => ?_, hK _ ?_⟩; (first | (go_at_call 12; with_reducible refine (HPa.out _ (hPa_10.below hq) (below_then HB_10 HB_10.size hq)).mono ?_; rintro e w3 ⟨rfl, hb3⟩; exact ⟨rfl, below_then hq hq.size hb3⟩) | (go_at_call 12; with_reducible refine (HPb.out _ (hPb_10.below hq) (below_then HB_10 HB_10.size hq)).mono ?_; rintro e w3 ⟨rfl, hb3⟩; exact ⟨rfl, below_then hq hq.size hb3⟩) | (go_at_call 9; with_reducible refine (HIaa.out _ (hPa_10.below hq) (below_then HB_10 HB_10.size hq)).mono ?_; rintro e w3 ⟨rfl, hb3⟩; exact ⟨rfl, below_then hq hq.size hb3⟩) | (have kk0 := (Ka_10.below hq).cells.1; have kk1 := (Kb_10.below hq).cells.1; go_simp; with_reducible rfl)); clear hK K))
      with_reducible refine wpQuiet_nil ?_
      intro w11 hb11
      have Ka_11 := Ka_10.below hb11
      have Kb_11 := Kb_10.below hb11
      have Kd_11 := Kd_10.below hb11
      have hPa_11 := hPa_10.below hb11
      have hPb_11 := hPb_10.below hb11
      have hPd_11 := hPd_10.below hb11
      have HB_11 := below_then HB_10 HB_10.size hb11
      clear Ka_10 Kb_10 Kd_10 hPa_10 hPb_10 hPd_10 HB_10 hb11
      cases z with
      | false =>
       go_upto_region 11 with fail
       refine wp_region_below (by kernel_rfl) (by kernel_rfl) ?_
       repeat (with_reducible refine wpQuiet_step (fun K hK => ?_); go_simp; first | (refine hK _ ?_; clear hK K) | (refine ⟨_, fun _ _ => rfl, hK _ ?_⟩; clear hK K) | (rw [if_neg (by decide)]; refine hK _ ?_; clear hK K) | (apply Exists.intro; refine ⟨fun wq hq => ?_, hK _ ?_⟩; (first | (have kk0 := (Ka_11.below hq).cells.1; go_simp; with_reducible rfl)); clear hK K))
       with_reducible refine wpQuiet_nil ?_
       intro w12 hb12
       have HBe := Lib.hid (below_then HB_11 HB_11.size hb12)
       clear hb12
       go_wp2
       go_ret
       exact ⟨rfl, HBe.out⟩
      | true =>
       have hon := HON2.out (by trivial)
       rw [hon] at HIad
       generalize sameV b d = y at HIad HIbd
       have hyy : (y == y) = true := by cases y <;> rfl
       clear hon HON2
       go_upto_region 11 with fail
       refine wp_region_below (by kernel_rfl) (by kernel_rfl) ?_
       repeat (with_reducible refine wpQuiet_step (fun K hK => ?_); go_simp; first | (refine hK _ ?_; clear hK K) | (refine ⟨_, fun _ _ => rfl, hK _ ?_⟩; clear hK K) | (rw [if_neg (by decide)]; refine hK _ ?_; clear hK K) | (apply Exists.intro; refine ⟨fun wq hq => ?_, hK _ ?_⟩; (first | (go_at_call 9; with_reducible refine (HIad.out _ (hPa_11.below hq) (hPd_11.below hq) (below_then HB_11 HB_11.size hq)).mono ?_; rintro e w3 ⟨rfl, hb3⟩; exact ⟨rfl, below_then hq hq.size hb3⟩) | (go_at_call 9; with_reducible refine (HIbd.out _ (hPb_11.below hq) (hPd_11.below hq) (below_then HB_11 HB_11.size hq)).mono ?_; rintro e w3 ⟨rfl, hb3⟩; exact ⟨rfl, below_then hq hq.size hb3⟩) | (have kk0 := (Ka_11.below hq).cells.1; have kk1 := (Kb_11.below hq).cells.1; have kk2 := (Kd_11.below hq).cells.1; go_simp; with_reducible rfl)); clear hK K))
       with_reducible refine wpQuiet_nil ?_
       intro w12 hb12
       have HBe := Lib.hid (below_then HB_11 HB_11.size hb12)
       clear hb12
       go_wp2
       go_ret
       exact ⟨rfl, HBe.out⟩
     ·rw [hv, Bool.false_and] at hsl
      subst hsl
      refine wp_region_below (by kernel_rfl) (by kernel_rfl) ?_
      repeat (with_reducible refine wpQuiet_step (fun K hK => ?_); go_simp; first | (refine hK _ ?_; clear hK K) | (refine ⟨_, fun _ _ => rfl, hK _ ?_⟩; clear hK K) | (rw [if_neg (by decide)]; refine hK _ ?_; clear hK K) | (apply Exists.intro; refine ⟨fun wq hq => ?_, hK _ ?_⟩; (first | (go_at_call 12; with_reducible refine (HPa.out _ (hPa_10.below hq) (below_then HB_10 HB_10.size hq)).mono ?_; rintro e w3 ⟨rfl, hb3⟩; exact ⟨rfl, below_then hq hq.size hb3⟩) | (go_at_call 12; with_reducible refine (HPb.out _ (hPb_10.below hq) (below_then HB_10 HB_10.size hq)).mono ?_; rintro e w3 ⟨rfl, hb3⟩; exact ⟨rfl, below_then hq hq.size hb3⟩) | (go_at_call 9; with_reducible refine (HIaa.out _ (hPa_10.below hq) (below_then HB_10 HB_10.size hq)).mono ?_; rintro e w3 ⟨rfl, hb3⟩; exact ⟨rfl, below_then hq hq.size hb3⟩) | (have kk0 := (Ka_10.below hq).cells.1; have kk1 := (Kb_10.below hq).cells.1; go_simp; with_reducible rfl)); clear hK K))
      with_reducible refine wpQuiet_nil ?_
      intro w11 hb11
      have Ka_11 := Ka_10.below hb11
      have Kb_11 := Kb_10.below hb11
      have Kd_11 := Kd_10.below hb11
      have hPa_11 := hPa_10.below hb11
      have hPb_11 := hPb_10.below hb11
      have hPd_11 := hPd_10.below hb11
      have HB_11 := below_then HB_10 HB_10.size hb11
      clear Ka_10 Kb_10 Kd_10 hPa_10 hPb_10 hPd_10 HB_10 hb11
      go_upto_region 11 with fail
      refine wp_region_below (by kernel_rfl) (by kernel_rfl) ?_
      repeat (with_reducible refine wpQuiet_step (fun K hK => ?_); go_simp; first | (refine hK _ ?_; clear hK K) | (refine ⟨_, fun _ _ => rfl, hK _ ?_⟩; clear hK K) | (rw [if_neg (by decide)]; refine hK _ ?_; clear hK K) | (apply Exists.intro; refine ⟨fun wq hq => ?_, hK _ ?_⟩; (first | (have kk0 := (Ka_11.below hq).cells.1; go_simp; with_reducible rfl)); clear hK K))
      with_reducible refine wpQuiet_nil ?_
      intro w12 hb12
      have HBe := Lib.hid (below_then HB_11 HB_11.size hb12)
      clear hb12
      go_wp2
      go_ret
      exact ⟨rfl, HBe.out⟩
    ·rw [hs, Bool.false_and] at hsl
     subst hsl
     refine wp_region_below (by kernel_rfl) (by kernel_rfl) ?_
     repeat (with_reducible refine wpQuiet_step (fun K hK => ?_); go_simp; first | (refine hK _ ?_; clear hK K) | (refine ⟨_, fun _ _ => rfl, hK _ ?_⟩; clear hK K) | (rw [if_neg (by decide)]; refine hK _ ?_; clear hK K) | (apply Exists.intro; refine ⟨fun wq hq => ?_, hK _ ?_⟩; (first | (go_at_call 12; with_reducible refine (HPa.out _ (hPa_10.below hq) (below_then HB_10 HB_10.size hq)).mono ?_; rintro e w3 ⟨rfl, hb3⟩; exact ⟨rfl, below_then hq hq.size hb3⟩) | (go_at_call 12; with_reducible refine (HPb.out _ (hPb_10.below hq) (below_then HB_10 HB_10.size hq)).mono ?_; rintro e w3 ⟨rfl, hb3⟩; exact ⟨rfl, below_then hq hq.size hb3⟩) | (go_at_call 9; with_reducible refine (HIaa.out _ (hPa_10.below hq) (below_then HB_10 HB_10.size hq)).mono ?_; rintro e w3 ⟨rfl, hb3⟩; exact ⟨rfl, below_then hq hq.size hb3⟩) | (have kk0 := (Ka_10.below hq).cells.1; have kk1 := (Kb_10.below hq).cells.1; go_simp; with_reducible rfl)); clear hK K))
     with_reducible refine wpQuiet_nil ?_
     intro w11 hb11
     have Ka_11 := Ka_10.below hb11
     have Kb_11 := Kb_10.below hb11
     have Kd_11 := Kd_10.below hb11
     have hPa_11 := hPa_10.below hb11
     have hPb_11 := hPb_10.below hb11
     have hPd_11 := hPd_10.below hb11
     have HB_11 := below_then HB_10 HB_10.size hb11
     clear Ka_10 Kb_10 Kd_10 hPa_10 hPb_10 hPd_10 HB_10 hb11
     go_upto_region 11 with fail
     refine wp_region_below (by kernel_rfl) (by kernel_rfl) ?_
     repeat (with_reducible refine wpQuiet_step (fun K hK => ?_); go_simp; first | (refine hK _ ?_; clear hK K) | (refine ⟨_, fun _ _ => rfl, hK _ ?_⟩; clear hK K) | (rw [if_neg (by decide)]; refine hK _ ?_; clear hK K) | (apply Exists.intro; refine ⟨fun wq hq => ?_, hK _ ?_⟩; (first | (have kk0 := (Ka_11.below hq).cells.1; go_simp; with_reducible rfl)); clear hK K))
     with_reducible refine wpQuiet_nil ?_
     intro w12 hb12
     have HBe := Lib.hid (below_then HB_11 HB_11.size hb12)
     clear hb12
     go_wp2
     go_ret
     exact ⟨rfl, HBe.out⟩
   ·have h0 : decide (0 ≤ na) = false := decide_eq_false hh
    rw [h0, Bool.false_and] at hsl
    rw [h0] at HIaa
    subst hsl
    refine wp_region_below (by kernel_rfl) (by kernel_rfl) ?_
    repeat (with_reducible refine wpQuiet_step (fun K hK => ?_); go_simp; first | (refine hK _ ?_; clear hK K) | (refine ⟨_, fun _ _ => rfl, hK _ ?_⟩; clear hK K) | (rw [if_neg (by decide)]; refine hK _ ?_; clear hK K) | (apply Exists.intro; refine ⟨fun wq hq => ?_, hK _ ?_⟩; (first | (go_at_call 12; with_reducible refine (HPa.out _ (hPa_10.below hq) (below_then HB_10 HB_10.size hq)).mono ?_; rintro e w3 ⟨rfl, hb3⟩; exact ⟨rfl, below_then hq hq.size hb3⟩) | (go_at_call 12; with_reducible refine (HPb.out _ (hPb_10.below hq) (below_then HB_10 HB_10.size hq)).mono ?_; rintro e w3 ⟨rfl, hb3⟩; exact ⟨rfl, below_then hq hq.size hb3⟩) | (go_at_call 9; with_reducible refine (HIaa.out _ (hPa_10.below hq) (below_then HB_10 HB_10.size hq)).mono ?_; rintro e w3 ⟨rfl, hb3⟩; exact ⟨rfl, below_then hq hq.size hb3⟩) | (have kk0 := (Ka_10.below hq).cells.1; have kk1 := (Kb_10.below hq).cells.1; go_simp; with_reducible rfl)); clear hK K))
    with_reducible refine wpQuiet_nil ?_
    intro w11 hb11
    have Ka_11 := Ka_10.below hb11
    have Kb_11 := Kb_10.below hb11
    have Kd_11 := Kd_10.below hb11
    have hPa_11 := hPa_10.below hb11
    have hPb_11 := hPb_10.below hb11
    have hPd_11 := hPd_10.below hb11
    have HB_11 := below_then HB_10 HB_10.size hb11
    clear Ka_10 Kb_10 Kd_10 hPa_10 hPb_10 hPd_10 HB_10 hb11
    go_upto_region 11 with fail
    refine wp_region_below (by kernel_rfl) (by kernel_rfl) ?_
    repeat (with_reducible refine wpQuiet_step (fun K hK => ?_); go_simp; first | (refine hK _ ?_; clear hK K) | (refine ⟨_, fun _ _ => rfl, hK _ ?_⟩; clear hK K) | (rw [if_neg (by decide)]; refine hK _ ?_; clear hK K) | (apply Exists.intro; refine ⟨fun wq hq => ?_, hK _ ?_⟩; (first | (have kk0 := (Ka_11.below hq).cells.1; go_simp; with_reducible rfl)); clear hK K))
    with_reducible refine wpQuiet_nil ?_
    intro w12 hb12
    have HBe := Lib.hid (below_then HB_11 HB_11.size hb12)
    clear hb12
    go_wp2
    go_ret
    exact ⟨rfl, HBe.out⟩
end Go.Proofs.YtopcpbokfngpeaaGreatDoor.H
