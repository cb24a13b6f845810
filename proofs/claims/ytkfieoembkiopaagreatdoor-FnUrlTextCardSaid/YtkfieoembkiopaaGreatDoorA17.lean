/- Texts of this claim, joined: LUrlDPort. Conditions: each theorem's own. -/
import Derived.Test.YtkfieoembkiopaaGreatDoorA16
import Derived.Test.YtkfieoembkiopaaGreatDoorA13
/- laws.FnPortOf: the call comes to true, whatever the code; the package-level variables read as their tables. -/
set_option linter.unusedVariables false
namespace Go.Proofs.YtkfieoembkiopaaGreatDoor.H
open Go.RowKit Go.Proofs.YtkfieoembkiopaaGreatDoorW.PrintWords Go.Proofs.YtkfieoembkiopaaGreatDoor.Base Go.Proofs.YtkfieoembkiopaaGreatDoor.Pure
set_option maxHeartbeats 8000000 in
set_option maxRecDepth 100000 in
theorem FnPortOf_walk (a0 : Option Addr) (len0 cap0 : Nat) (z0 : List Int) (w : World) (w0 : CodeRow w a0 len0 cap0 z0) (y0 : len0 * 1 ≤ 140737488351232) (hT : Tabs w) :
  Calls Tryz.prog 4 #[.slice a0 len0 cap0] w fun e w' => e = .returned (.bool true) ∧ Below w.heap.size w w' := by
 have HDR := Lib.hid (code_DrawPortOf a0 len0 cap0 z0 w w0)
 by_cases hbig : 1048576 < len0
 ·have hd : decide (1048576 < (len0 : Int)) = true := decide_eq_true (by omega)
  clear hT
  go_enter Tryz.func4, Tryz.ntmps4
  go_wp2
  go_ret
  exact ⟨rfl, Below.refl _ _⟩
 have hd : decide (1048576 < (len0 : Int)) = false := decide_eq_false (by omega)
 clear hbig w0 y0
 go_enter Tryz.func4, Tryz.ntmps4
 go_wp2_with fail
 refine HDR.out.mono ?_
 rintro e w1 ⟨u, pv, rfl, fit, hP, hb1⟩
 clear HDR
 have hPc := hP
 obtain ⟨A, c, rfl, _, _⟩ := hPc
 obtain ⟨K3, hba⟩ := u_new w1 (uCells u (.slice A u.path.length c))
 have hP2 := hP.below hba
 have HB2 := below_then hb1 hb1.size hba
 clear hP hb1 hba
 unfold uCells at K3 hP2 HB2 ⊢
 go_upto_region 4 with fail
 generalize w1.alloc _ = w2 at K3 hP2 HB2 ⊢
 generalize w1.heap.size = g3 at K3 ⊢
 have HIM := Lib.hid fun w1 hp (hb : Below w.heap.size w w1) => implPortOf_walk u (.slice A u.path.length c) w1 fit hp (hT.below hb)
 have HSP := Lib.hid fun w1 hp => specPortOf_walk u (.slice A u.path.length c) w1 fit hp
 have HOK := Lib.hid fun w1 hp => specUrlOk_walk u (.slice A u.path.length c) w1 fit hp
 have HN : Hid (okU u = true → portOfV u = portU u) := Lib.hid fun h => by unfold portOfV; rw [if_pos h]
 have HPL : Hid (okU u = true → 0 ≤ portU u → portU u ≤ 65535 ∧ ownB u = decide (u.port = -1) ∧ okU { u with port := portU u } = !ownB u) := Lib.hid (port_law u)
 have HGH : Hid (okU u = true → 0 ≤ portU u → GoodH u) := Lib.hid fun h1 h2 => (ok_hosted u h1 h2).1
 have HOB : Hid (ownB u = ((decide (portU u = 80) && u.sch == [104, 116, 116, 112]) || (decide (portU u = 443) && u.sch == [104, 116, 116, 112, 115]))) := Lib.hid rfl
 generalize hn : portOfV u = n at HIM HSP HN
 have HEN := Lib.hid hn
 clear hn
 generalize okU u = ok at HOK HN HPL HGH
 have hnn : (n != n) = false := by simp
 have hnn2 : (n == n) = true := by simp
 have kc3 := K3.cells.1
 go_wp2_with fail
 refine (HIM.out _ hP2 HB2).mono ?_
 rintro e w3 ⟨rfl, hb3⟩
 have K33 := K3.below hb3
 have hP3 := hP2.below hb3
 have HB3 := below_then HB2 HB2.size hb3
 clear kc3 K3 hP2 HB2 hb3
 have kc3 := K33.cells.1
 go_wp2_with fail
 refine (HSP.out _ hP3).mono ?_
 rintro e w4 ⟨rfl, hb4⟩
 have K34 := K33.below hb4
 have hP4 := hP3.below hb4
 have HB4 := below_then HB3 HB3.size hb4
 clear kc3 K33 hP3 HB3 hb4
 have kc3 := K34.cells.1
 go_wp2_with fail
 refine (HOK.out _ hP4).mono ?_
 rintro e w5 ⟨rfl, hb5⟩
 have K35 := K34.below hb5
 have hP5 := hP4.below hb5
 have HB5 := below_then HB4 HB4.size hb5
 clear kc3 K34 hP4 HB4 hb5
 cases ok with
 | false =>
  have kc3 := K35.cells.1
  go_wp2_with fail
  refine (HSP.out _ hP5).mono ?_
  rintro e w6 ⟨rfl, hb6⟩
  have HB6 := Lib.hid (below_then HB5 HB5.size hb6)
  clear hb6 kc3
  go_wp2
  go_ret
  exact ⟨rfl, HB6.out⟩
 | true =>
  by_cases hneg : n < 0
  ·have hd0 : decide (n < 0) = true := decide_eq_true hneg
   have kc3 := K35.cells.1
   go_wp2_with fail
   refine (HSP.out _ hP5).mono ?_
   rintro e w6 ⟨rfl, hb6⟩
   have HB6 := Lib.hid (below_then HB5 HB5.size hb6)
   clear hb6 kc3
   go_wp2
   go_ret
   exact ⟨rfl, HB6.out⟩
  ·have hd0 : decide (n < 0) = false := decide_eq_false hneg
   have hnp : n = portU u := HN.out rfl
   have hpl := HPL.out rfl (by omega)
   have hgh := (HGH.out rfl (by omega)).s
   have HOB2 := HOB.out
   rw [← hnp] at hpl HOB2
   obtain ⟨p1, p2, p3⟩ := hpl
   have fx : FitP { u with port := n } := ⟨⟨fit.fit.s, fit.fit.us, fit.fit.ps, fit.fit.hn, fit.fit.o, fit.fit.q, fit.fit.f, fit.fit.p, fit.fit.pl, by show _ ≤ n ∧ n ≤ _; omega⟩, fit.pp⟩
   have HIO := Lib.hid fun w1 (hp : PathAt w1 (.slice A u.path.length c) u.path) (hb : Below w.heap.size w w1) => implUrlOk_walk { u with port := n } (.slice A u.path.length c) w1 fx hp (hT.below hb)
   rw [p3] at HIO
   generalize ownB u = ob at HIO p2 HOB2
   have q1 : decide (n ≤ 65535) = true := decide_eq_true p1
   have q2 : (ob == (u.port == -1)) = true := by rw [p2]; by_cases q : u.port = -1 <;> simp [q]
   have q3 : ((!ob) == !ob) = true := by cases ob <;> rfl
   have HOX := Lib.hid HOB2
   have HGS := Lib.hid hgh
   have HP1 := Lib.hid p1
   have HNG := Lib.hid hneg
   clear hnp p2 p3 HOB2 hgh p1 hneg fx HEN HN HPL HGH HOB HIM HSP HOK
   have kc3 := K35.cells.1
   go_upto_region 7 with fail
   obtain ⟨K55, hba⟩ := u_new w5 #[.string (B u.sch), .string (B u.usr), .string (B u.pas), .int .i64 u.hk, .string (B u.hn), .int .i64 u.ha, .int .i64 u.port, (.slice A u.path.length c), .string (B u.opq), .bool u.hq, .string (B u.qry), .bool u.hf, .string (B u.frg)]
   have K37 := K35.below hba
   have HB7 := below_then HB5 HB5.size hba
   have hne : g3 ≠ w5.heap.size := Nat.ne_of_lt K35.lt
   have hge := HB5.size
   go_upto_region 8 with fail
   clear kc3 K35 HB5
   generalize w5.alloc _ = w7 at K55 K37 hba HB7 ⊢
   generalize hg5 : w5.heap.size = g5 at K55 hne hge ⊢
   have kc5 := K55.cells
   go_upto_region 9 with fail
   have K58 : Blk (w7.setCell ⟨g5, 6, none⟩ (.int .i64 n)) g5 #[.string (B u.sch), .string (B u.usr), .string (B u.pas), .int .i64 u.hk, .string (B u.hn), .int .i64 u.ha, .int .i64 n, (.slice A u.path.length c), .string (B u.opq), .bool u.hq, .string (B u.qry), .bool u.hf, .string (B u.frg)] := K55.put 6 _
   have K38 := Blk.far (p := ⟨g5, 6, none⟩) K37 hne (.int .i64 n)
   have hP8 : PathAt (w7.setCell ⟨g5, 6, none⟩ (.int .i64 n)) (.slice A u.path.length c) u.path := hP5.below (Below.setCell (p := ⟨g5, 6, none⟩) hba (by show w5.heap.size ≤ g5; omega) _)
   have HB8 := Below.setCell (p := ⟨g5, 6, none⟩) HB7 hge (.int .i64 n)
   generalize w7.setCell _ _ = w8 at K58 K38 hP8 HB8 ⊢
   clear kc5 K55 K37 hP5 hba HB7
   have kc3 := K38.cells.1
   go_cut [6] (fun v wc => v = .bool ob ∧ w8 = wc)
   case first =>
    rcases HGS.out with hs | hs
    ·have b1 : (u.sch == [104, 116, 116, 112]) = true := by rw [hs]; rfl
     have b2 : (u.sch == [104, 116, 116, 112, 115]) = false := by rw [hs]; rfl
     have HX : Hid (ob = (decide (n = 80) && true || decide (n = 443) && false)) := Lib.hid (by rw [HOX.out, b1, b2])
     clear hs
     by_cases h80 : n = 80
     ·have a1 : (n == 80) = true := by simpa using h80
      have HX2 : Hid (ob = true) := Lib.hid (by rw [HX.out, h80]; rfl)
      clear h80
      go_wp2
      go_meet
      case rel => exact ⟨by rw [HX2.out], rfl⟩
     ·have a1 : (n == 80) = false := by simpa using h80
      have HX2 : Hid (ob = false) := Lib.hid (by rw [HX.out, decide_eq_false h80]; simp)
      clear h80
      cases a2 : (n == 443)
      all_goals
       go_wp2
       go_meet
       case rel => exact ⟨by rw [HX2.out], rfl⟩
    ·have b1 : (u.sch == [104, 116, 116, 112]) = false := by rw [hs]; rfl
     have b2 : (u.sch == [104, 116, 116, 112, 115]) = true := by rw [hs]; rfl
     have HX : Hid (ob = (decide (n = 80) && false || decide (n = 443) && true)) := Lib.hid (by rw [HOX.out, b1, b2])
     clear hs
     by_cases h443 : n = 443
     ·have a2 : (n == 443) = true := by simpa using h443
      have a1 : (n == 80) = false := by rw [h443]; rfl
      have HX2 : Hid (ob = true) := Lib.hid (by rw [HX.out, h443]; rfl)
      clear h443
      go_wp2
      go_meet
      case rel => exact ⟨by rw [HX2.out], rfl⟩
     ·have a2 : (n == 443) = false := by simpa using h443
      have HX2 : Hid (ob = false) := Lib.hid (by rw [HX.out, decide_eq_false h443]; simp)
      clear h443
      cases a1 : (n == 80)
      all_goals
       go_wp2
       go_meet
       case rel => exact ⟨by rw [HX2.out], rfl⟩
   case rest =>
    obtain ⟨rfl, rfl⟩ := hcut
    have kc5 := K58.cells.1
    go_wp2_with fail
    refine (HIO.out _ hP8 HB8).mono ?_
    rintro e w9 ⟨rfl, hb9⟩
    have HB9 := Lib.hid (below_then HB8 HB8.size hb9)
    clear hb9 kc3 kc5
    go_wp2
    go_ret
    exact ⟨rfl, HB9.out⟩
end Go.Proofs.YtkfieoembkiopaaGreatDoor.H
