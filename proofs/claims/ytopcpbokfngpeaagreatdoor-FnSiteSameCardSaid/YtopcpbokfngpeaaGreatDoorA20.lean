/- Texts of this claim, joined: LUrlDSSame. Conditions: each theorem's own. -/
import Derived.Test.YtopcpbokfngpeaaGreatDoorA18
import Derived.Test.YtopcpbokfngpeaaGreatDoorA17
/- laws.FnSiteSame: the call comes to true, whatever the code; the package-level variables read as their tables. -/
set_option linter.unusedVariables false
namespace Go.Proofs.YtopcpbokfngpeaaGreatDoor.H
open Go.RowKit Go.Proofs.YtopcpbokfngpeaaGreatDoorW.PrintWords Go.Proofs.YtopcpbokfngpeaaGreatDoor.Base Go.Proofs.YtopcpbokfngpeaaGreatDoor.Pure
set_option maxHeartbeats 8000000 in
set_option maxRecDepth 100000 in
theorem FnSiteSame_walk (a0 : Option Addr) (len0 cap0 : Nat) (z0 : List Int) (w : World) (w0 : CodeRow w a0 len0 cap0 z0) (y0 : len0 * 1 ≤ 140737488351232) (hT : Tabs w) :
  Calls Tryz.prog 4 #[.slice a0 len0 cap0] w fun e w' => e = .returned (.bool true) ∧ Below w.heap.size w w' := by
 have HDR := Lib.hid (code_DrawSiteSame a0 len0 cap0 z0 w w0)
 by_cases hbig : 1048576 < len0
 ·have hd : decide (1048576 < (len0 : Int)) = true := decide_eq_true (by omega)
  clear hT
  go_enter Tryz.func4, Tryz.ntmps4
  go_wp2
  go_ret
  exact ⟨rfl, Below.refl _ _⟩
 have hd : decide (1048576 < (len0 : Int)) = false := decide_eq_false (by omega)
 clear hbig w0 y0
 go_enter Tryz.func4, Tryz.ntmps4
 go_wp2_with fail
 refine HDR.out.mono ?_
 rintro e w1 ⟨a, b, pv, qv, rfl, fa, fb, hP, hQ, hb1⟩
 clear HDR
 have hPc := hP
 have hQc := hQ
 obtain ⟨A, c, rfl, _, _⟩ := hPc
 obtain ⟨A2, c2, rfl, _, _⟩ := hQc
 obtain ⟨Ka_2, Kb_2, hba⟩ := two_any w1 (uCells a (.slice A a.path.length c)) (uCells b (.slice A2 b.path.length c2))
 have hPa_2 := hP.below hba
 have hPb_2 := hQ.below hba
 have HB_2 := below_then hb1 hb1.size hba
 clear hP hQ hb1 hba
 unfold uCells at Ka_2 Kb_2 hPa_2 hPb_2 HB_2 ⊢
 go_upto_region 4 with fail
 generalize (w1.alloc _).alloc _ = w2 at Ka_2 Kb_2 hPa_2 hPb_2 HB_2 ⊢
 have hab : w1.heap.size ≠ w1.heap.size + 1 := by omega
 generalize w1.heap.size + 1 = gb at Kb_2 hab ⊢
 generalize w1.heap.size = ga at Ka_2 hab ⊢
 have e1 : ∀ p q : Ur, siteSameV p q (siteF p.hk p.hn p.ha) (siteF q.hk q.hn q.ha) = siteV p q := fun _ _ => rfl
 have fx : FitP { a with port := 8123 } := ⟨⟨fa.fit.s, fa.fit.us, fa.fit.ps, fa.fit.hn, fa.fit.o, fa.fit.q, fa.fit.f, fa.fit.p, fa.fit.pl, by show (-9223372036854775808 : Int) ≤ 8123 ∧ (8123 : Int) ≤ 9223372036854775807; omega⟩, fa.pp⟩
 have HIab := Lib.hid fun w1 p q (hb : Below w.heap.size w w1) => implSiteSame_walk a b _ _ (.slice A a.path.length c) (.slice A2 b.path.length c2) w1 fa fb (site_f a fa) (site_f b fb) p q (hT.below hb)
 have HIba := Lib.hid fun w1 p q (hb : Below w.heap.size w w1) => implSiteSame_walk b a _ _ (.slice A2 b.path.length c2) (.slice A a.path.length c) w1 fb fa (site_f b fb) (site_f a fa) q p (hT.below hb)
 have HSab := Lib.hid fun w1 p q => specSiteSame_walk a b _ _ (.slice A a.path.length c) (.slice A2 b.path.length c2) w1 fa fb (site_f a fa) (site_f b fb) p q
 have HIxb := Lib.hid fun w1 (p : PathAt w1 (.slice A a.path.length c) a.path) q (hb : Below w.heap.size w w1) => implSiteSame_walk { a with port := 8123 } b _ _ (.slice A a.path.length c) (.slice A2 b.path.length c2) w1 fx fb (site_f { a with port := 8123 } fx) (site_f b fb) p q (hT.below hb)
 have HOx := Lib.hid fun w1 (p : PathAt w1 (.slice A a.path.length c) a.path) (hb : Below w.heap.size w w1) => implUrlOk_walk { a with port := 8123 } (.slice A a.path.length c) w1 fx p (hT.below hb)
 have HOab := Lib.hid fun w1 p q (hb : Below w.heap.size w w1) => implOriginSame_walk a b (.slice A a.path.length c) (.slice A2 b.path.length c2) w1 fa fb p q (hT.below hb)
 rw [e1 a b] at HIab HSab
 rw [e1 b a, site_swap a b] at HIba
 rw [e1 { a with port := 8123 } b] at HIxb
 have HL1 : Hid (sameV a b = true → siteV a b = true) := Lib.hid (site_of_same a b)
 have HL2 : Hid (siteV a b = true → okU { a with port := 8123 } = true → siteV { a with port := 8123 } b = true) := Lib.hid (site_port a b 8123)
 generalize siteV a b = z at HIab HIba HSab HL1 HL2
 generalize sameV a b = o at HOab HL1
 generalize okU { a with port := 8123 } = ox at HOx HL2
 generalize siteV { a with port := 8123 } b = zx at HIxb HL2
 have hzz : (z != z) = false := by cases z <;> rfl
 clear e1 fx fa fb
 have kca := Ka_2.cells.1
 have kcb := Kb_2.cells.1
 go_wp2_with fail
 refine (HIab.out _ hPa_2 hPb_2 HB_2).mono ?_
 rintro e w3 ⟨rfl, hb3⟩
 clear kca kcb
 have Ka_3 := Ka_2.below hb3
 have Kb_3 := Kb_2.below hb3
 have hPa_3 := hPa_2.below hb3
 have hPb_3 := hPb_2.below hb3
 have HB_3 := below_then HB_2 HB_2.size hb3
 clear Ka_2 Kb_2 hPa_2 hPb_2 HB_2 hb3
 have kca := Ka_3.cells.1
 have kcb := Kb_3.cells.1
 go_wp2_with fail
 refine (HSab.out _ hPa_3 hPb_3).mono ?_
 rintro e w4 ⟨rfl, hb4⟩
 clear kca kcb
 have Ka_4 := Ka_3.below hb4
 have Kb_4 := Kb_3.below hb4
 have hPa_4 := hPa_3.below hb4
 have hPb_4 := hPb_3.below hb4
 have HB_4 := below_then HB_3 HB_3.size hb4
 clear Ka_3 Kb_3 hPa_3 hPb_3 HB_3 hb4
 have kca := Ka_4.cells.1
 have kcb := Kb_4.cells.1
 go_wp2_with fail
 refine (HIba.out _ hPa_4 hPb_4 HB_4).mono ?_
 rintro e w5 ⟨rfl, hb5⟩
 clear kca kcb
 have Ka_5 := Ka_4.below hb5
 have Kb_5 := Kb_4.below hb5
 have hPa_5 := hPa_4.below hb5
 have hPb_5 := hPb_4.below hb5
 have HB_5 := below_then HB_4 HB_4.size hb5
 clear Ka_4 Kb_4 hPa_4 hPb_4 HB_4 hb5
 have kca := Ka_5.cells.1
 go_upto_region 7 with fail
 obtain ⟨Kx_6, hba⟩ := u_new w5 #[.string (B a.sch), .string (B a.usr), .string (B a.pas), .int .i64 a.hk, .string (B a.hn), .int .i64 a.ha, .int .i64 a.port, (.slice A a.path.length c), .string (B a.opq), .bool a.hq, .string (B a.qry), .bool a.hf, .string (B a.frg)]
 have Ka_6 := Ka_5.below hba
 have Kb_6 := Kb_5.below hba
 have HB_6 := below_then HB_5 HB_5.size hba
 have nxa : ga ≠ w5.heap.size := Nat.ne_of_lt Ka_5.lt
 have nxb : gb ≠ w5.heap.size := Nat.ne_of_lt Kb_5.lt
 have hge := HB_5.size
 go_upto_region 8 with fail
 clear kca Ka_5 Kb_5 HB_5
 generalize w5.alloc _ = w6 at Kx_6 Ka_6 Kb_6 hba HB_6 ⊢
 generalize hgx : w5.heap.size = gx at Kx_6 nxa nxb hge ⊢
 have kcx := Kx_6.cells
 go_upto_region 9 with fail
 have Kx_7 : Blk (w6.setCell ⟨gx, 6, none⟩ (.int .i64 8123)) gx #[.string (B a.sch), .string (B a.usr), .string (B a.pas), .int .i64 a.hk, .string (B a.hn), .int .i64 a.ha, .int .i64 8123, (.slice A a.path.length c), .string (B a.opq), .bool a.hq, .string (B a.qry), .bool a.hf, .string (B a.frg)] := Kx_6.put 6 _
 have Ka_7 := Blk.far (p := ⟨gx, 6, none⟩) Ka_6 nxa (.int .i64 8123)
 have Kb_7 := Blk.far (p := ⟨gx, 6, none⟩) Kb_6 nxb (.int .i64 8123)
 have hb57 := Below.setCell (p := ⟨gx, 6, none⟩) hba (by show w5.heap.size ≤ gx; omega) (.int .i64 8123)
 have hPa_7 := hPa_5.below hb57
 have hPb_7 := hPb_5.below hb57
 have HB_7 := Below.setCell (p := ⟨gx, 6, none⟩) HB_6 hge (.int .i64 8123)
 clear hb57 hba
 generalize w6.setCell _ _ = w7 at Kx_7 Ka_7 Kb_7 hPa_7 hPb_7 HB_7 ⊢
 clear kcx Kx_6 Ka_6 Kb_6 hPa_5 hPb_5 HB_6
 have kca := Ka_7.cells.1
 have kcb := Kb_7.cells.1
 go_wp2_with fail
 refine (HOab.out _ hPa_7 hPb_7 HB_7).mono ?_
 rintro e w8 ⟨rfl, hb8⟩
 clear kca kcb
 have Ka_8 := Ka_7.below hb8
 have Kb_8 := Kb_7.below hb8
 have Kx_8 := Kx_7.below hb8
 have hPa_8 := hPa_7.below hb8
 have hPb_8 := hPb_7.below hb8
 have HB_8 := below_then HB_7 HB_7.size hb8
 clear Ka_7 Kb_7 Kx_7 hPa_7 hPb_7 HB_7 hb8
 cases z with
 | false =>
  have ho : o = false := by cases o with | false => rfl | true => exact absurd (HL1.out rfl) (by decide)
  subst ho
  clear HL1 HL2
  have HBe := Lib.hid HB_8
  go_wp2
  go_ret
  exact ⟨rfl, HBe.out⟩
 | true =>
  cases ox with
  | false =>
   cases o
   all_goals
    have kcx := Kx_8.cells.1
    go_wp2_with fail
    refine (HOx.out _ hPa_8 HB_8).mono ?_
    rintro e w9 ⟨rfl, hb9⟩
    clear kcx
    have HBe := Lib.hid (below_then HB_8 HB_8.size hb9)
    clear hb9
    go_wp2
    go_ret
    exact ⟨rfl, HBe.out⟩
  | true =>
   have hzx : zx = true := HL2.out (by trivial) (by trivial)
   subst hzx
   cases o
   all_goals
    have kcx := Kx_8.cells.1
    go_wp2_with fail
    refine (HOx.out _ hPa_8 HB_8).mono ?_
    rintro e w9 ⟨rfl, hb9⟩
    clear kcx
    have Ka_9 := Ka_8.below hb9
    have Kb_9 := Kb_8.below hb9
    have Kx_9 := Kx_8.below hb9
    have hPa_9 := hPa_8.below hb9
    have hPb_9 := hPb_8.below hb9
    have HB_9 := below_then HB_8 HB_8.size hb9
    clear Ka_8 Kb_8 Kx_8 hPa_8 hPb_8 HB_8 hb9
    have kcx := Kx_9.cells.1
    have kcb := Kb_9.cells.1
    go_wp2_with fail
    refine (HIxb.out _ hPa_9 hPb_9 HB_9).mono ?_
    rintro e w10 ⟨rfl, hb10⟩
    clear kcx kcb
    have HBe := Lib.hid (below_then HB_9 HB_9.size hb10)
    clear hb10
    go_wp2
    go_ret
    exact ⟨rfl, HBe.out⟩
end Go.Proofs.YtopcpbokfngpeaaGreatDoor.H
