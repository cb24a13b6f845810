/- Texts of this claim, joined: LUrlDParts. Conditions: each theorem's own. -/
import Derived.Test.YtkfieoembkiopaaGreatDoorA16
import Derived.Test.YtkfieoembkiopaaGreatDoorA13
/- laws.FnUrlParts: the call comes to true, whatever the code; the package-level variables read as their tables. -/
set_option linter.unusedVariables false
namespace Go.Proofs.YtkfieoembkiopaaGreatDoor.H
open Go.RowKit Go.Proofs.YtkfieoembkiopaaGreatDoorW.PrintWords Go.Proofs.YtkfieoembkiopaaGreatDoor.Base Go.Proofs.YtkfieoembkiopaaGreatDoor.Pure
theorem urlPutV_len (u : Ur) (h : FitP u) : (urlPutV u).length ≤ 20000000 := by
 have := putU_len u h
 unfold urlPutV
 split
 ·exact this
 ·exact Nat.zero_le _
set_option maxHeartbeats 8000000 in
set_option maxRecDepth 100000 in
theorem FnUrlParts_walk (a0 : Option Addr) (len0 cap0 : Nat) (z0 : List Int) (w : World) (w0 : CodeRow w a0 len0 cap0 z0) (y0 : len0 * 1 ≤ 140737488351232) (hT : Tabs w) :
  Calls Tryz.prog 5 #[.slice a0 len0 cap0] w fun e w' => e = .returned (.bool true) ∧ Below w.heap.size w w' := by
 have HDR := Lib.hid (code_DrawUrlPut a0 len0 cap0 z0 w w0)
 by_cases hbig : 1048576 < len0
 ·have hd : decide (1048576 < (len0 : Int)) = true := decide_eq_true (by omega)
  clear hT
  go_enter Tryz.func5, Tryz.ntmps5
  go_wp2
  go_ret
  exact ⟨rfl, Below.refl _ _⟩
 have hd : decide (1048576 < (len0 : Int)) = false := decide_eq_false (by omega)
 clear hbig w0 y0
 go_enter Tryz.func5, Tryz.ntmps5
 go_wp2_with fail
 refine HDR.out.mono ?_
 rintro e w1 ⟨u, pv, rfl, fit, hP, hb1⟩
 clear HDR
 have hPc := hP
 obtain ⟨A, c, rfl, _, _⟩ := hPc
 obtain ⟨K3, hba⟩ := u_new w1 (uCells u (.slice A u.path.length c))
 have hP2 := hP.below hba
 have HB2 := below_then hb1 hb1.size hba
 clear hP hb1 hba
 unfold uCells at K3 hP2 HB2 ⊢
 go_upto_region 4 with fail
 generalize w1.alloc _ = w2 at K3 hP2 HB2 ⊢
 generalize w1.heap.size = g3 at K3 ⊢
 have K3_2 := K3
 have hPu_2 := hP2
 have HB_2 := HB2
 clear K3 hP2 HB2
 have HIP := Lib.hid fun w1 hp (hb : Below w.heap.size w w1) => implUrlPut_walk u (.slice A u.path.length c) w1 fit hp (hT.below hb)
 have HSP := Lib.hid fun w1 hp => specUrlPut_walk u (.slice A u.path.length c) w1 fit hp
 have HLAW : Hid (urlPutV u ≠ [] → (urlPutV u).length ≤ 150 → okU (partsU u) = true ∧ urlG (urlPutV (partsU u)) = (partsU u, true)) := Lib.hid fun h1 h2 => by
  have ho : okU u = true := by
   cases q : okU u with
   | true => rfl
   | false => exact absurd (by unfold urlPutV; rw [q]; rfl) h1
  refine parts_law u ho ?_
  unfold urlPutV at h2
  rw [if_pos ho] at h2; exact h2
 generalize urlPutV u = s at HIP HSP HLAW
 have hss : (s != s) = false := by simp
 have hse : (s == s) = true := by simp
 have kc3 := K3_2.cells.1
 go_wp2_with fail
 refine (HIP.out _ hPu_2 HB_2).mono ?_
 rintro e w3 ⟨rfl, hb3⟩
 clear kc3
 have K3_3 := K3_2.below hb3
 have hPu_3 := hPu_2.below hb3
 have HB_3 := below_then HB_2 HB_2.size hb3
 clear K3_2 hPu_2 HB_2 hb3
 have kc3 := K3_3.cells.1
 go_wp2_with fail
 refine (HSP.out _ hPu_3).mono ?_
 rintro e w4 ⟨rfl, hb4⟩
 clear kc3
 have K3_4 := K3_3.below hb4
 have hPu_4 := hPu_3.below hb4
 have HB_4 := below_then HB_3 HB_3.size hb4
 clear K3_3 hPu_3 HB_3 hb4
 cases hem : s.isEmpty with
 | true =>
  have he1 : (s == []) = true := by rw [List.isEmpty_iff.1 hem]; rfl
  clear HIP HLAW
  have kc3 := K3_4.cells.1
  go_wp2_with fail
  refine (HSP.out _ hPu_4).mono ?_
  rintro e w5 ⟨rfl, hb5⟩
  clear kc3
  have HBe := Lib.hid (below_then HB_4 HB_4.size hb5)
  clear hb5
  go_wp2
  go_ret
  exact ⟨rfl, HBe.out⟩
 | false =>
  have he0 : s ≠ [] := fun q => by rw [q] at hem; cases hem
  have he1 : (s == []) = false := by simpa using he0
  by_cases hl : 150 < s.length
  ·have hd1 : decide (150 < (s.length : Int)) = true := decide_eq_true (by omega)
   clear HIP HLAW hl he0
   have kc3 := K3_4.cells.1
   go_wp2_with fail
   refine (HSP.out _ hPu_4).mono ?_
   rintro e w5 ⟨rfl, hb5⟩
   clear kc3
   have HBe := Lib.hid (below_then HB_4 HB_4.size hb5)
   clear hb5
   go_wp2
   go_ret
   exact ⟨rfl, HBe.out⟩
  ·have hd1 : decide (150 < (s.length : Int)) = false := decide_eq_false (by omega)
   obtain ⟨l1, l2⟩ := HLAW.out he0 (by omega)
   have fx : FitP (partsU u) := ⟨⟨fit.fit.s, fit.fit.us, fit.fit.ps, fit.fit.hn, fit.fit.o, by show ([111, 116, 104, 101, 114] : Bs).length ≤ _; decide, by show ([101, 110, 100] : Bs).length ≤ _; decide, fit.fit.p, fit.fit.pl, fit.fit.port⟩, fit.pp⟩
   have HIX := Lib.hid fun w1 (hp : PathAt w1 (.slice A u.path.length c) u.path) (hb : Below w.heap.size w w1) => implUrlPut_walk (partsU u) (.slice A u.path.length c) w1 fx hp (hT.below hb)
   have HIO := Lib.hid fun w1 (hp : PathAt w1 (.slice A u.path.length c) u.path) (hb : Below w.heap.size w w1) => implUrlOk_walk (partsU u) (.slice A u.path.length c) w1 fx hp (hT.below hb)
   rw [l1] at HIO
   have HIG : Hid (∀ w1, Below w.heap.size w w1 → Calls Tryz.prog 15 #[.string (B (urlPutV (partsU u)))] w1 fun e w' => ∃ pv, e = .returned (.tuple #[.agg #[.string (B u.sch), .string (B u.usr), .string (B u.pas), .int .i64 u.hk, .string (B u.hn), .int .i64 u.ha, .int .i64 u.port, pv, .string (B u.opq), .bool true, .string (B [111, 116, 104, 101, 114]), .bool true, .string (B [101, 110, 100])], .bool true]) ∧ QRow w' w1.heap.size 9 1 pv u.path.length (strV u.path) ∧ Below w1.heap.size w1 w') := Lib.hid fun w1 hb => by
    have q := implUrlGet_walk (urlPutV (partsU u)) w1 (by have := urlPutV_len _ fx; omega) (hT.s.below hb) (hT.m.below hb) (hT.i.below hb)
    rw [l2] at q; exact q
   have HGU := Lib.hid fun pv qv w1 (hp : PathAt w1 pv u.path) (hq : PathAt w1 qv u.path) => guUrl_walk (partsU u) pv qv w1 hp hq fit.fit.pl
   have HGT := Lib.hid fun pv qv w1 (hp : PathAt w1 pv u.path) (hq : PathAt w1 qv u.path) => guTexts_walk pv qv u.path w1 hp hq fit.fit.pl
   generalize urlPutV (partsU u) = s2 at HIX HIG
   clear l1 l2 HLAW HIP HSP fx fit he0 hl
   have ku : #[.string (B u.sch), .string (B u.usr), .string (B u.pas), .int .i64 u.hk, .string (B u.hn), .int .i64 u.ha, .int .i64 u.port, (.slice A u.path.length c), .string (B u.opq), .bool true, .string (B [111, 116, 104, 101, 114]), .bool true, .string (B [101, 110, 100])] = uCells (partsU u) (.slice A u.path.length c) := rfl
   have kc3 := K3_4.cells.1
   go_upto_region 7 with fail
   obtain ⟨K5_5, hba⟩ := u_new w4 #[.string (B u.sch), .string (B u.usr), .string (B u.pas), .int .i64 u.hk, .string (B u.hn), .int .i64 u.ha, .int .i64 u.port, (.slice A u.path.length c), .string (B u.opq), .bool u.hq, .string (B u.qry), .bool u.hf, .string (B u.frg)]
   have K3_5 := K3_4.below hba
   have HB_5 := below_then HB_4 HB_4.size hba
   have hne : g3 ≠ w4.heap.size := Nat.ne_of_lt K3_4.lt
   have hge := HB_4.size
   go_upto_region 8 with fail
   clear kc3 K3_4 HB_4
   generalize w4.alloc _ = w5 at K5_5 K3_5 hba HB_5 ⊢
   generalize hg5 : w4.heap.size = g5 at K5_5 hne hge ⊢
   have hg : w4.heap.size ≤ g5 := by omega
   have kc5 := K5_5.cells
   go_upto_region 12 with fail
   have K5_6 : Blk ((((w5.setCell ⟨g5, 9, none⟩ (.bool true)).setCell ⟨g5, 10, none⟩ (.string ⟨#[111, 116, 104, 101, 114]⟩)).setCell ⟨g5, 11, none⟩ (.bool true)).setCell ⟨g5, 12, none⟩ (.string ⟨#[101, 110, 100]⟩)) g5 #[.string (B u.sch), .string (B u.usr), .string (B u.pas), .int .i64 u.hk, .string (B u.hn), .int .i64 u.ha, .int .i64 u.port, (.slice A u.path.length c), .string (B u.opq), .bool true, .string (B [111, 116, 104, 101, 114]), .bool true, .string (B [101, 110, 100])] := (((K5_5.put 9 (.bool true)).put 10 (.string ⟨#[111, 116, 104, 101, 114]⟩)).put 11 (.bool true)).put 12 (.string ⟨#[101, 110, 100]⟩)
   have K3_6 := Blk.far (p := ⟨g5, 12, none⟩) (Blk.far (p := ⟨g5, 11, none⟩) (Blk.far (p := ⟨g5, 10, none⟩) (Blk.far (p := ⟨g5, 9, none⟩) K3_5 hne (.bool true)) hne (.string ⟨#[111, 116, 104, 101, 114]⟩)) hne (.bool true)) hne (.string ⟨#[101, 110, 100]⟩)
   have hPu_6 : PathAt ((((w5.setCell ⟨g5, 9, none⟩ (.bool true)).setCell ⟨g5, 10, none⟩ (.string ⟨#[111, 116, 104, 101, 114]⟩)).setCell ⟨g5, 11, none⟩ (.bool true)).setCell ⟨g5, 12, none⟩ (.string ⟨#[101, 110, 100]⟩)) (.slice A u.path.length c) u.path := hPu_4.below (Below.setCell (p := ⟨g5, 12, none⟩) (Below.setCell (p := ⟨g5, 11, none⟩) (Below.setCell (p := ⟨g5, 10, none⟩) (Below.setCell (p := ⟨g5, 9, none⟩) hba hg _) hg _) hg _) hg _)
   have HB_6 := Below.setCell (p := ⟨g5, 12, none⟩) (Below.setCell (p := ⟨g5, 11, none⟩) (Below.setCell (p := ⟨g5, 10, none⟩) (Below.setCell (p := ⟨g5, 9, none⟩) HB_5 hge (.bool true)) hge (.string ⟨#[111, 116, 104, 101, 114]⟩)) hge (.bool true)) hge (.string ⟨#[101, 110, 100]⟩)
   generalize ((((w5.setCell ⟨g5, 9, none⟩ (.bool true)).setCell ⟨g5, 10, none⟩ (.string ⟨#[111, 116, 104, 101, 114]⟩)).setCell ⟨g5, 11, none⟩ (.bool true)).setCell ⟨g5, 12, none⟩ (.string ⟨#[101, 110, 100]⟩)) = w6 at K5_6 K3_6 hPu_6 HB_6 ⊢
   clear kc5 K5_5 K3_5 hPu_4 HB_5 hba
   have kc5 := K5_6.cells.1
   go_wp2_with fail
   refine (HIX.out _ hPu_6 HB_6).mono ?_
   rintro e w7 ⟨rfl, hb7⟩
   clear kc5
   have K3_7 := K3_6.below hb7
   have K5_7 := K5_6.below hb7
   have hPu_7 := hPu_6.below hb7
   have HB_7 := below_then HB_6 HB_6.size hb7
   clear K3_6 K5_6 hPu_6 HB_6 hb7
   go_wp2_with fail
   refine (HIG.out _ HB_7).mono ?_
   rintro e w8 ⟨p3, rfl, hq3, hb8⟩
   obtain ⟨A3, c3, rfl, _⟩ := q_slice hq3
   have K3_8 := K3_7.below hb8
   have K5_8 := K5_7.below hb8
   have hPu_8 := hPu_7.below hb8
   have HB_8 := below_then HB_7 HB_7.size hb8
   clear K3_7 K5_7 hPu_7 HB_7 hb8
   have hq3 : QRow w8 w7.heap.size 9 1 (.slice A3 u.path.length c3) u.path.length (strV u.path) := hq3
   obtain ⟨K6_9, hba⟩ := u_new w8 #[.string (B u.sch), .string (B u.usr), .string (B u.pas), .int .i64 u.hk, .string (B u.hn), .int .i64 u.ha, .int .i64 u.port, (.slice A3 u.path.length c3), .string (B u.opq), .bool true, .string (B [111, 116, 104, 101, 114]), .bool true, .string (B [101, 110, 100])]
   have hPy_9 := pathAt_q (q_below hq3 hba)
   clear hq3
   have K3_9 := K3_8.below hba
   have K5_9 := K5_8.below hba
   have hPu_9 := hPu_8.below hba
   have HB_9 := below_then HB_8 HB_8.size hba
   clear K3_8 K5_8 hPu_8 HB_8 hba
   go_upto_region 13 with fail
   generalize w8.alloc _ = w9 at K6_9 K3_9 K5_9 hPu_9 hPy_9 HB_9 ⊢
   generalize w8.heap.size = g6 at K6_9 ⊢
   have kc5 := K5_9.cells.1
   go_wp2_with fail
   refine (HIO.out _ hPu_9 HB_9).mono ?_
   rintro e w10 ⟨rfl, hb10⟩
   clear kc5
   have K3_10 := K3_9.below hb10
   have K5_10 := K5_9.below hb10
   have K6_10 := K6_9.below hb10
   have hPu_10 := hPu_9.below hb10
   have hPy_10 := hPy_9.below hb10
   have HB_10 := below_then HB_9 HB_9.size hb10
   clear K3_9 K5_9 K6_9 hPu_9 hPy_9 HB_9 hb10
   have kc6 := K6_10.cells.1
   have kc5 := K5_10.cells.1
   go_wp2_with fail
   refine (HGU.out _ _ _ hPy_10 hPu_10).mono ?_
   rintro e w11 ⟨rfl, hb11⟩
   clear kc6 kc5
   have K3_11 := K3_10.below hb11
   have K5_11 := K5_10.below hb11
   have K6_11 := K6_10.below hb11
   have hPu_11 := hPu_10.below hb11
   have hPy_11 := hPy_10.below hb11
   have HB_11 := below_then HB_10 HB_10.size hb11
   clear K3_10 K5_10 K6_10 hPu_10 hPy_10 HB_10 hb11
   have kc6 := K6_11.cells.1
   have kc3 := K3_11.cells.1
   go_wp2_with fail
   refine (HGT.out _ _ _ hPy_11 hPu_11).mono ?_
   rintro e w12 ⟨rfl, hb12⟩
   clear kc6 kc3
   have K3_12 := K3_11.below hb12
   have K5_12 := K5_11.below hb12
   have K6_12 := K6_11.below hb12
   have hPu_12 := hPu_11.below hb12
   have hPy_12 := hPy_11.below hb12
   have HB_12 := below_then HB_11 HB_11.size hb12
   clear K3_11 K5_11 K6_11 hPu_11 hPy_11 HB_11 hb12
   have kc6 := K6_12.cells.1
   have kc3 := K3_12.cells.1
   have HBe := Lib.hid HB_12
   go_wp2
   go_ret
   exact ⟨rfl, HBe.out⟩
end Go.Proofs.YtkfieoembkiopaaGreatDoor.H
