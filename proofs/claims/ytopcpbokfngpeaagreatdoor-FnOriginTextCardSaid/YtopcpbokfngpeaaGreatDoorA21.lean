/- Texts of this claim, joined: HUrlZ, DUrlQ, DUrlO, LUrlDOText. Conditions: each theorem's own. -/
import Derived.Test.YtopcpbokfngpeaaGreatDoorA16
import Derived.Test.YtopcpbokfngpeaaGreatDoorA17
/- OriginPut of both sides: what the calls come to. Conditions: each theorem's own. -/
set_option linter.unusedVariables false
namespace Go.Proofs.YtopcpbokfngpeaaGreatDoor.H
open Go.RowKit Go.Proofs.YtopcpbokfngpeaaGreatDoor.Lh Go.Proofs.YtopcpbokfngpeaaGreatDoorW.PrintWords Go.Proofs.YtopcpbokfngpeaaGreatDoor.Base Go.Proofs.YtopcpbokfngpeaaGreatDoor.Pure Go.Proofs.YtopcpbokfngpeaaGreatDoor.Lp
def nullB : Bs := [110, 117, 108, 108]
def originT (s : Bs) (n1 : Int) (l : Bs) (n3 n4 : Int) : Bs := if ownP s < 0 then nullB else if hostOkV n1 l n3 = true then (if 0 ≤ n4 ∧ n4 ≤ 65535 then (if n4 = ownP s then s ++ [58, 47, 47] ++ hostPV n1 l n3 else s ++ [58, 47, 47] ++ hostPV n1 l n3 ++ 58 :: Lib.decDigits n4.toNat) else nullB) else nullB
def oText (o : Og) : Bs := originT o.sch o.hk o.hn o.ha o.port
theorem specHostOk_walk (a : Int) (l : Bs) (b : Int) (w : World) (hl : l.length ≤ 1048576) : Calls Tryz.prog 55 #[.agg #[.int .i64 a, .string (B l), .int .i64 b]] w fun e w' => e = .returned (.bool (hostOkV a l b)) ∧ Below w.heap.size w w' := by
 obtain ⟨k, hk⟩ := (hostOk_val a b l hl).1.rounds
 exact spec_HostOk.calls k _ _ _ _ w hk
theorem implHostOk_walk (a : Int) (l : Bs) (b : Int) (w : World) (hT : TabM w) (hl : l.length ≤ 1048576) : Calls Tryz.prog 51 #[.agg #[.int .i64 a, .string (B l), .int .i64 b]] w fun e w' => e = .returned (.bool (hostOkV a l b)) ∧ Below w.heap.size w w' := by
 obtain ⟨k, hk⟩ := (hostOk_val a b l hl).2.rounds
 exact impl_HostOk.calls k _ _ _ _ w hT hk
theorem specInP_walk (a b c : Int) (w : World) : Calls Tryz.prog 56 #[.int .i64 a, .int .i64 b, .int .i64 c] w fun e w' => e = .returned (.bool (decide (b ≤ a ∧ a ≤ c))) ∧ Below w.heap.size w w' :=
 (spec_l1In.calls a b c _ w (In_f a b c)).mono fun e w' hh => ⟨hh.1, hh.2.below⟩
theorem implInP_walk (a b c : Int) (w : World) : Calls Tryz.prog 52 #[.int .i64 a, .int .i64 b, .int .i64 c] w fun e w' => e = .returned (.bool (decide (b ≤ a ∧ a ≤ c))) ∧ Below w.heap.size w w' :=
 (impl_in.calls a b c _ w (in_f a b c)).mono fun e w' hh => ⟨hh.1, hh.2.below⟩
theorem og_new (w : World) (cs : Array Value) : (w.alloc (.cells cs 36)).heap[w.heap.size]? = some (.cells cs 36 (0, 0)) ∧ Below w.heap.size w (w.alloc (.cells cs 36)) := ⟨blk_new w _, below_alloc (Below.refl _ _) _⟩
set_option maxHeartbeats 2000000 in
set_option maxRecDepth 100000 in
theorem implOriginPut_walk (o : Og) (w : World) (hT : Tabs w) (hs : o.sch.length ≤ 1048576) (hl : o.hn.length ≤ 1048576) :
  Calls Tryz.prog 18 #[.agg (oCells o)] w fun e w' => e = .returned (.string (B (oText o))) ∧ Below w.heap.size w w' := by
 have HC := Lib.hid (special_walk o.sch)
 have HOK := Lib.hid fun w1 (hb : Below w.heap.size w w1) => implHostOk_walk o.hk o.hn o.ha w1 (hT.m.below hb) hl
 have HIN := Lib.hid fun w1 => implInP_walk o.port 0 65535 w1
 have HPU := Lib.hid fun w1 (hb : Below w.heap.size w w1) => implHostPut_walk o.hk o.hn o.ha w1 ⟨hT.m.below hb, hT.i.below hb⟩ hl
 have HIT := Lib.hid fun w1 (hb : Below w.heap.size w w1) (h0 : 0 ≤ o.port) (h1 : o.port ≤ 65535) => itoaB o.port h0 (by omega) w1 (hT.i.below hb)
 have f7 := hostPV_len o.hk o.ha o.hn hl
 have f9 := fun h1 : o.port ≤ 65535 => dec_len19 o.port (by omega)
 have HX : Hid (oText o = if ownP o.sch < 0 then nullB else if hostOkV o.hk o.hn o.ha = true then (if 0 ≤ o.port ∧ o.port ≤ 65535 then (if o.port = ownP o.sch then o.sch ++ [58, 47, 47] ++ hostPV o.hk o.hn o.ha else o.sch ++ [58, 47, 47] ++ hostPV o.hk o.hn o.ha ++ 58 :: Lib.decDigits o.port.toNat) else nullB) else nullB) := Lib.hid rfl
 obtain ⟨K1, HB⟩ := og_new w (oCells o)
 generalize oText o = x at HX ⊢
 unfold oCells at *
 obtain ⟨sch, hk, hn, ha, port⟩ := o
 dsimp only at *
 generalize hostPV hk hn ha = hp at HX HPU f7
 generalize hostOkV hk hn ha = ok at HX HOK
 generalize Lib.decDigits port.toNat = dp at HX HIT f9
 have eap := bapp
 have e58 : (⟨#[58]⟩ : ByteArray) = B [58] := rfl
 have e3 : (⟨#[58, 47, 47]⟩ : ByteArray) = B [58, 47, 47] := rfl
 have F9 := Lib.hid f9
 clear hT hl f9
 go_enter Tryz.func18, Tryz.ntmps18
 go_upto_region 1 with fail
 generalize w.alloc _ = w1 at K1 HB ⊢
 have kc := (cells5 K1).1
 go_wp2_with fail
 refine (HC.out _).mono ?_
 rintro e w2 ⟨rfl, hw2⟩
 subst w2
 by_cases ho : ownP sch < 0
 ·have hd : decide (0 ≤ ownP sch) = false := decide_eq_false (by omega)
  have HX2 : Hid (x = nullB) := Lib.hid (by rw [HX.out, if_pos ho])
  rw [hd]
  clear ho
  go_wp2
  go_ret
  exact ⟨by rw [HX2.out]; rfl, HB⟩
 have hd : decide (0 ≤ ownP sch) = true := decide_eq_true (by omega)
 have HX2 := Lib.hid (HX.out.trans (if_neg ho))
 have HO := Lib.hid ho
 rw [hd]
 clear ho HX
 go_wp2_with fail
 refine (HOK.out _ HB).mono ?_
 rintro e w2 ⟨rfl, hb2⟩
 have K2 := blk_below K1 hb2
 have HB2 := below_then HB HB.size hb2
 clear kc K1 HB hb2
 have kc := (cells5 K2).1
 cases ok with
 | false =>
  have HX3 : Hid (x = nullB) := Lib.hid (by rw [HX2.out]; rfl)
  go_wp2
  go_ret
  exact ⟨by rw [HX3.out]; rfl, HB2⟩
 | true =>
  have HX3 := Lib.hid (HX2.out.trans (if_pos rfl))
  clear HX2
  go_wp2_with fail
  refine (HIN.out _).mono ?_
  rintro e w3 ⟨rfl, hb3⟩
  have K3 := blk_below K2 hb3
  have HB3 := below_then HB2 HB2.size hb3
  clear kc K2 HB2 hb3
  have kc := (cells5 K3).1
  by_cases hi : 0 ≤ port ∧ port ≤ 65535
  ·have hid : decide (0 ≤ port ∧ port ≤ 65535) = true := decide_eq_true hi
   have HX4 := Lib.hid (HX3.out.trans (if_pos hi))
   have HI := Lib.hid hi
   have f9 := F9.out hi.2
   have k1 : ¬ 9223372036854775807 < sch.length + 3 := by omega
   have k2 : ¬ 9223372036854775807 < sch.length + 3 + hp.length := by omega
   have k3 : ¬ 9223372036854775807 < 1 + dp.length := by omega
   have k4 : ¬ 9223372036854775807 < dp.length + 1 := by omega
   have k5 : ¬ 9223372036854775807 < sch.length + (hp.length + 3) + (dp.length + 1) := by omega
   rw [hid]
   clear hi HX3
   go_upto_region 4 with fail
   have HB4 := Lib.hid (below_drew HB3)
   have D1 : w3.drew.heap[w.heap.size]? = _ := K3
   have kd1 := (cells5 D1).1
   clear kc HB3
   go_region_with ((go_at_call 53; refine (HPU.out _ HB4.out).mono ?_; rintro e w4 ⟨rfl, hb4⟩; have K5 := blk_below D1 hb4; have kz1 := (cells5 K5).1))
   all_goals
    have HB5 := below_then HB4.out HB4.out.size hb4
    clear hb4 HB4
    by_cases he : port = ownP sch
    ·have hne : (port != ownP sch) = false := by rw [he]; simp
     have HX5 := Lib.hid (HX4.out.trans (if_pos he))
     clear he HX4
     go_wp2
     go_ret
     exact ⟨by rw [HX5.out]; simp, HB5⟩
    ·have hne : (port != ownP sch) = true := by rw [bne_iff_ne]; exact he
     have HX5 := Lib.hid (HX4.out.trans (if_neg he))
     clear he HX4
     go_wp2_with fail
     refine (HIT.out _ HB5 HI.out.1 HI.out.2).mono ?_
     rintro e w5 ⟨rfl, hb5⟩
     have HB6 := Lib.hid (below_then HB5 HB5.size hb5)
     clear hb5 HB5
     go_wp2
     go_ret
     exact ⟨by rw [HX5.out]; simp, HB6.out⟩
  ·have hid : decide (0 ≤ port ∧ port ≤ 65535) = false := decide_eq_false hi
   have HX4 : Hid (x = nullB) := Lib.hid (by rw [HX3.out, if_neg hi])
   rw [hid]
   clear hi
   go_wp2
   go_ret
   exact ⟨by rw [HX4.out]; rfl, HB3⟩
set_option maxHeartbeats 2000000 in
set_option maxRecDepth 100000 in
theorem specOriginPut_walk (o : Og) (w : World) (hs : o.sch.length ≤ 1048576) (hl : o.hn.length ≤ 1048576) :
  Calls Tryz.prog 19 #[.agg (oCells o)] w fun e w' => e = .returned (.string (B (oText o))) ∧ Below w.heap.size w w' := by
 have HC := Lib.hid fun w1 => specOwn_walk o.sch w1
 have HOK := Lib.hid fun w1 => specHostOk_walk o.hk o.hn o.ha w1 hl
 have HIN := Lib.hid fun w1 => specInP_walk o.port 0 65535 w1
 have HPU := Lib.hid fun w1 => specHostPut_walk o.hk o.hn o.ha w1 hl
 have HIT := Lib.hid fun w1 (h0 : 0 ≤ o.port) (h1 : o.port ≤ 65535) => specDec_walk o.port h0 (by omega) w1
 have f7 := hostPV_len o.hk o.ha o.hn hl
 have f9 := fun h1 : o.port ≤ 65535 => dec_len19 o.port (by omega)
 have HX : Hid (oText o = if ownP o.sch < 0 then nullB else if hostOkV o.hk o.hn o.ha = true then (if 0 ≤ o.port ∧ o.port ≤ 65535 then (if o.port = ownP o.sch then o.sch ++ [58, 47, 47] ++ hostPV o.hk o.hn o.ha else o.sch ++ [58, 47, 47] ++ hostPV o.hk o.hn o.ha ++ 58 :: Lib.decDigits o.port.toNat) else nullB) else nullB) := Lib.hid rfl
 obtain ⟨K1, HB⟩ := og_new w (oCells o)
 generalize oText o = x at HX ⊢
 unfold oCells at *
 obtain ⟨sch, hk, hn, ha, port⟩ := o
 dsimp only at *
 generalize hostPV hk hn ha = hp at HX HPU f7
 generalize hostOkV hk hn ha = ok at HX HOK
 generalize Lib.decDigits port.toNat = dp at HX HIT f9
 have eap := bapp
 have e58 : (⟨#[58]⟩ : ByteArray) = B [58] := rfl
 have e3 : (⟨#[58, 47, 47]⟩ : ByteArray) = B [58, 47, 47] := rfl
 have F9 := Lib.hid f9
 clear hl f9
 go_enter Tryz.func19, Tryz.ntmps19
 go_upto_region 1 with fail
 generalize w.alloc _ = w1 at K1 HB ⊢
 have kc := (cells5 K1).1
 go_wp2_with fail
 refine (HC.out _).mono ?_
 rintro e w2 ⟨rfl, hw2⟩
 subst w2
 by_cases ho : ownP sch < 0
 ·have hd : decide (ownP sch < 0) = true := decide_eq_true ho
  have HX2 : Hid (x = nullB) := Lib.hid (by rw [HX.out, if_pos ho])
  clear ho
  go_wp2
  go_ret
  exact ⟨by rw [HX2.out]; rfl, HB⟩
 have hd : decide (ownP sch < 0) = false := decide_eq_false ho
 have HX2 := Lib.hid (HX.out.trans (if_neg ho))
 have HO := Lib.hid ho
 clear ho HX
 go_wp2_with fail
 refine (HOK.out _).mono ?_
 rintro e w2 ⟨rfl, hb2⟩
 have K2 := blk_below K1 hb2
 have HB2 := below_then HB HB.size hb2
 clear kc K1 HB hb2
 have kc := (cells5 K2).1
 cases ok with
 | false =>
  have HX3 : Hid (x = nullB) := Lib.hid (by rw [HX2.out]; rfl)
  go_wp2
  go_ret
  exact ⟨by rw [HX3.out]; rfl, HB2⟩
 | true =>
  have HX3 := Lib.hid (HX2.out.trans (if_pos rfl))
  clear HX2
  go_wp2_with fail
  refine (HIN.out _).mono ?_
  rintro e w3 ⟨rfl, hb3⟩
  have K3 := blk_below K2 hb3
  have HB3 := below_then HB2 HB2.size hb3
  clear kc K2 HB2 hb3
  have kc := (cells5 K3).1
  by_cases hi : 0 ≤ port ∧ port ≤ 65535
  ·have hid : decide (0 ≤ port ∧ port ≤ 65535) = true := decide_eq_true hi
   have HX4 := Lib.hid (HX3.out.trans (if_pos hi))
   have HI := Lib.hid hi
   have f9 := F9.out hi.2
   have k1 : ¬ 9223372036854775807 < sch.length + 3 := by omega
   have k2 : ¬ 9223372036854775807 < sch.length + 3 + hp.length := by omega
   have k3 : ¬ 9223372036854775807 < sch.length + (hp.length + 3) + 1 := by omega
   have k4 : ¬ 9223372036854775807 < sch.length + (hp.length + 3 + 1) + dp.length := by omega
   rw [hid]
   clear hi HX3
   go_upto_region 3 with fail
   have HB4 := Lib.hid (below_drew HB3)
   have D1 : w3.drew.heap[w.heap.size]? = _ := K3
   have kd1 := (cells5 D1).1
   clear kc HB3
   go_region_with ((go_at_call 57; refine (HPU.out _).mono ?_; rintro e w4 ⟨rfl, hb4⟩; have K5 := blk_below D1 hb4; have kz1 := (cells5 K5).1))
   all_goals
    have HB5 := below_then HB4.out HB4.out.size hb4
    clear hb4 HB4
    have K6 : w4.drew.heap[w.heap.size]? = _ := K5
    have HB6 := below_drew HB5
    have kz6 := (cells5 K6).1
    clear HB5
    by_cases he : port = ownP sch
    ·have hne : (port != ownP sch) = false := by rw [he]; simp
     have HX5 := Lib.hid (HX4.out.trans (if_pos he))
     clear he HX4
     go_upto_region 4 with fail
     go_region_with ((go_at_call 41; refine (HC.out _).mono ?_; rintro e w5 ⟨rfl, hw5⟩; subst w5))
     all_goals
      go_wp2
      go_ret
      exact ⟨by rw [HX5.out]; simp, HB6⟩
    ·have hne : (port != ownP sch) = true := by rw [bne_iff_ne]; exact he
     have HX5 := Lib.hid (HX4.out.trans (if_neg he))
     clear he HX4
     go_upto_region 4 with fail
     go_region_with ((go_at_call 41; refine (HC.out _).mono ?_; rintro e w5 ⟨rfl, hw5⟩; subst w5))
     all_goals
      go_wp2_with fail
      refine (HIT.out _ HI.out.1 HI.out.2).mono ?_
      rintro e w7 ⟨rfl, hb7⟩
      have HB7 := Lib.hid (below_then HB6 HB6.size hb7)
      clear hb7 HB6
      go_wp2
      go_ret
      exact ⟨by rw [HX5.out]; simp, HB7.out⟩
  ·have hid : decide (0 ≤ port ∧ port ≤ 65535) = false := decide_eq_false hi
   have HX4 : Hid (x = nullB) := Lib.hid (by rw [HX3.out, if_neg hi])
   rw [hid]
   clear hi
   go_wp2
   go_ret
   exact ⟨by rw [HX4.out]; rfl, HB3⟩
end Go.Proofs.YtopcpbokfngpeaaGreatDoor.H
/- spec.DrawOriginPut: a code that reads as bytes gives an origin whose texts are not too long. Conditions: each theorem's own. -/
set_option linter.unusedVariables false
namespace Go.Proofs.YtopcpbokfngpeaaGreatDoor.H
open Go.RowKit Go.Proofs.YtopcpbokfngpeaaGreatDoorW.PrintWords Go.Proofs.YtopcpbokfngpeaaGreatDoor.Base Go.Proofs.YtopcpbokfngpeaaGreatDoor.Pure
theorem originV_len (u : Ur) (h : FitP u) : (originV u).sch.length ≤ 1048576 ∧ (originV u).hn.length ≤ 1048576 := by
 unfold originV originU
 split
 ·split
  ·exact ⟨Nat.zero_le _, Nat.zero_le _⟩
  ·exact ⟨h.fit.s, h.fit.hn⟩
 ·exact ⟨Nat.zero_le _, Nat.zero_le _⟩
set_option maxHeartbeats 4000000 in
set_option maxRecDepth 100000 in
theorem code_DrawOriginPut (a0 : Option Addr) (len0 cap0 : Nat) (z0 : List Int) (w : World) (w0 : CodeRow w a0 len0 cap0 z0) :
  Calls Tryz.prog 17 #[.slice a0 len0 cap0] w fun e w' => ∃ o, e = .returned (.agg (oCells o)) ∧ o.sch.length ≤ 1048576 ∧ o.hn.length ≤ 1048576 ∧ Below w.heap.size w w' := by
 obtain ⟨K2, hb1⟩ := og_new w #[.string ⟨#[]⟩, .int .i64 0, .string ⟨#[]⟩, .int .i64 0, .int .i64 0]
 have w1 := w0.below hb1
 clear w0
 go_enter Tryz.func17, Tryz.ntmps17
 go_upto_region 1 with fail
 generalize w.alloc _ = w1' at K2 hb1 w1 ⊢
 have hlt := blk_lt K2
 go_wp2_with fail
 refine (open_draw a0 len0 cap0 z0 w1' w1).mono ?_
 rintro e w2 ⟨g, rfl, hg, D2, hb2⟩
 have K22 := blk_below K2 hb2
 clear K2 w1
 go_wp2_with fail
 refine (url_draw g 1000 w1' w2 (D2.less (by omega))).mono ?_
 rintro e w3 ⟨u, pv, rfl, sm, hq, D3⟩
 have K23 := D3.k.blk K22 (by omega) (by simp)
 have fit := sm.fit
 obtain ⟨ol, om⟩ := originV_len u fit
 clear D2 hb2 K22
 go_wp2_with fail
 refine (specOriginOf_walk u pv w3 fit (pathAt_q hq)).mono ?_
 rintro e w4 ⟨rfl, hb4⟩
 have K24 := blk_below K23 hb4
 have D4 := D3.below hb4
 clear D3 hb4 K23 hq fit sm
 generalize originV u = o at ol om ⊢
 obtain ⟨sch, hk, hn, ha, port⟩ := o
 dsimp only at ol om
 obtain ⟨K45, hba⟩ := og_new w4 (oCells ⟨sch, hk, hn, ha, port⟩)
 have K25 := blk_below K24 hba
 have D5 := D4.below hba
 have hg4 : w.heap.size < w4.heap.size := blk_lt K24
 have hgg : g < w4.heap.size := D4.rd.lt
 clear D4 K24 hba
 unfold oCells at K45 D5 K25 ⊢
 go_upto_region 3 with fail
 generalize w4.alloc _ = w5 at K45 K25 D5 ⊢
 generalize w4.heap.size = g4 at K45 hg4 hgg ⊢
 go_wp2_with fail
 refine (pick_draw g 999 8 w1' w5 w5 (D5.at.less (by omega)) (by omega) (by omega)).mono ?_
 rintro e w6 ⟨r, rfl, hr, D56⟩
 have K46 := D56.k.blk K45 (by omega) (by simp)
 have K26 := D56.k.blk K25 (by omega) (by simp)
 have D6 := D5.trans D56
 clear D5 D56 K45 K25
 have n4 : w.heap.size ≠ g4 := by omega
 have n4g : g4 ≠ g := by omega
 have n2g : w.heap.size ≠ g := by omega
 by_cases c0 : r = 0
 ·have d0 : ((r : Int) == 0) = true := by rw [beq_iff_eq]; omega
  go_wp2_with fail
  refine (one_lit g 998 3 (-1) 65536 w1' w6 w6 _ _ D6.at (by rfl) (by rfl) (by omega) (by omega)).mono ?_
  rintro e w7 ⟨x, rfl, hx, D67⟩
  have K47 := D67.k.blk K46 n4g (by simp)
  have K27 := D67.k.blk K26 n2g (by simp)
  have HB7 := below_then hb1 hb1.size D67.b
  clear D67 D6 K46 K26
  have kc4 := cells5 K47
  go_upto_region 10 with fail
  have K48 : (w7.setCell ⟨g4, 4, none⟩ (.int .i64 x)).heap[g4]? = some (.cells #[.string (B sch), .int .i64 hk, .string (B hn), .int .i64 ha, .int .i64 x] 36 (0, 0)) := (blk_set K47 4 (.int .i64 x))
  have K28 := (blk_far (p := ⟨g4, 4, none⟩) K27 n4 (.int .i64 x))
  have HB8 := Lib.hid (Below.setCell (p := ⟨g4, 4, none⟩) HB7 (Nat.le_of_lt hg4) (.int .i64 x))
  generalize (w7.setCell ⟨g4, 4, none⟩ (.int .i64 x)) = w8 at K48 K28 HB8 ⊢
  clear kc4 K47 K27 HB7
  have kc4 := cells5 K48
  have kc2 := cells5 K28
  go_wp2
  exact bodyPost_ret (results_cell_row rfl _ _ w.heap.size 36 _ (0, 0) _ rfl (put5 K28) Tryz.underlying36 rfl (by kernel_rfl)) rfl ⟨⟨sch, hk, hn, ha, x⟩, rfl, ol, om, below5 HB8.out (Nat.le_refl _)⟩
 have d0 : ((r : Int) == 0) = false := by rw [beq_eq_false_iff_ne]; omega
 by_cases c1 : r = 1
 ·have d1 : ((r : Int) == 1) = true := by rw [beq_iff_eq]; omega
  go_wp2_with fail
  refine (host_draw g 900 w1' w6 (D6.at.less (by omega))).mono ?_
  rintro e w7 ⟨hk2, hn2, ha2, rfl, hx, D67⟩
  have K47 := D67.k.blk K46 n4g (by simp)
  have K27 := D67.k.blk K26 n2g (by simp)
  have HB7 := below_then hb1 hb1.size D67.b
  clear D67 D6 K46 K26
  have kc4 := cells5 K47
  go_upto_region 10 with fail
  have K48 : (((w7.setCell ⟨g4, 1, none⟩ (.int .i64 hk2)).setCell ⟨g4, 2, none⟩ (.string (B hn2))).setCell ⟨g4, 3, none⟩ (.int .i64 ha2)).heap[g4]? = some (.cells #[.string (B sch), .int .i64 hk2, .string (B hn2), .int .i64 ha2, .int .i64 port] 36 (0, 0)) := (blk_set (blk_set (blk_set K47 1 (.int .i64 hk2)) 2 (.string (B hn2))) 3 (.int .i64 ha2))
  have K28 := (blk_far (p := ⟨g4, 3, none⟩) (blk_far (p := ⟨g4, 2, none⟩) (blk_far (p := ⟨g4, 1, none⟩) K27 n4 (.int .i64 hk2)) n4 (.string (B hn2))) n4 (.int .i64 ha2))
  have HB8 := Lib.hid (Below.setCell (p := ⟨g4, 3, none⟩) (Below.setCell (p := ⟨g4, 2, none⟩) (Below.setCell (p := ⟨g4, 1, none⟩) HB7 (Nat.le_of_lt hg4) (.int .i64 hk2)) (Nat.le_of_lt hg4) (.string (B hn2))) (Nat.le_of_lt hg4) (.int .i64 ha2))
  generalize (((w7.setCell ⟨g4, 1, none⟩ (.int .i64 hk2)).setCell ⟨g4, 2, none⟩ (.string (B hn2))).setCell ⟨g4, 3, none⟩ (.int .i64 ha2)) = w8 at K48 K28 HB8 ⊢
  clear kc4 K47 K27 HB7
  have kc4 := cells5 K48
  have kc2 := cells5 K28
  go_wp2
  exact bodyPost_ret (results_cell_row rfl _ _ w.heap.size 36 _ (0, 0) _ rfl (put5 K28) Tryz.underlying36 rfl (by kernel_rfl)) rfl ⟨⟨sch, hk2, hn2, ha2, port⟩, rfl, ol, by show hn2.length ≤ _; omega, below5 HB8.out (Nat.le_refl _)⟩
 have d1 : ((r : Int) == 1) = false := by rw [beq_eq_false_iff_ne]; omega
 by_cases c2 : r = 2
 ·have d2 : ((r : Int) == 2) = true := by rw [beq_iff_eq]; omega
  go_wp2_with fail
  refine (of_lit g 998 5 3 w1' w6 w6 _ _ D6.at (by rfl) (by rfl) (by omega) (by omega)).mono ?_
  rintro e w7 ⟨x, rfl, hx, D67⟩
  have K47 := D67.k.blk K46 n4g (by simp)
  have K27 := D67.k.blk K26 n2g (by simp)
  have HB7 := below_then hb1 hb1.size D67.b
  clear D67 D6 K46 K26
  have kc4 := cells5 K47
  go_upto_region 10 with fail
  have K48 : (w7.setCell ⟨g4, 0, none⟩ (.string (B x))).heap[g4]? = some (.cells #[.string (B x), .int .i64 hk, .string (B hn), .int .i64 ha, .int .i64 port] 36 (0, 0)) := (blk_set K47 0 (.string (B x)))
  have K28 := (blk_far (p := ⟨g4, 0, none⟩) K27 n4 (.string (B x)))
  have HB8 := Lib.hid (Below.setCell (p := ⟨g4, 0, none⟩) HB7 (Nat.le_of_lt hg4) (.string (B x)))
  generalize (w7.setCell ⟨g4, 0, none⟩ (.string (B x))) = w8 at K48 K28 HB8 ⊢
  clear kc4 K47 K27 HB7
  have kc4 := cells5 K48
  have kc2 := cells5 K28
  go_wp2
  exact bodyPost_ret (results_cell_row rfl _ _ w.heap.size 36 _ (0, 0) _ rfl (put5 K28) Tryz.underlying36 rfl (by kernel_rfl)) rfl ⟨⟨x, hk, hn, ha, port⟩, rfl, by show x.length ≤ _; omega, om, below5 HB8.out (Nat.le_refl _)⟩
 have d2 : ((r : Int) == 2) = false := by rw [beq_eq_false_iff_ne]; omega
 have HB8 := Lib.hid (below_then hb1 hb1.size D6.b)
 have K28 := K26
 have kc4 := cells5 K46
 have kc2 := cells5 K28
 clear D6 K26
 go_wp2
 exact bodyPost_ret (results_cell_row rfl _ _ w.heap.size 36 _ (0, 0) _ rfl (put5 K28) Tryz.underlying36 rfl (by kernel_rfl)) rfl ⟨⟨sch, hk, hn, ha, port⟩, rfl, ol, om, below5 HB8.out (Nat.le_refl _)⟩
end Go.Proofs.YtopcpbokfngpeaaGreatDoor.H
/- Of no program: an origin that is written is read as an address of that origin. Conditions: each theorem's own. -/
set_option linter.unusedVariables false
namespace Go.Proofs.YtopcpbokfngpeaaGreatDoor.H
open Go.RowKit Go.Proofs.YtopcpbokfngpeaaGreatDoorW.PrintWords Go.Proofs.YtopcpbokfngpeaaGreatDoor.Base Go.Proofs.YtopcpbokfngpeaaGreatDoor.Pure
def orgU (u : Ur) : Ur := { baseU u.sch with hk := u.hk, hn := u.hn, ha := u.ha, port := u.port, path := [[]] }
theorem org_good (u : Ur) (g : GoodH u) : GoodH (orgU u) :=
 ⟨g.s, ⟨rfl, rfl, g.a.host, g.a.port⟩, by unfold orgU; simp, fun e he => by
  have : e = [] := by simpa [orgU] using he
  subst this
  exact ⟨dots_nil, rfl, by simp, by simp⟩, by unfold orgU; simp, rfl, ⟨fun _ => rfl, fun _ => rfl, rfl, rfl⟩⟩
theorem port_len (n : Int) (h : n = -1 ∨ 0 ≤ n ∧ n ≤ 65535) : (portB n).length ≤ 6 := by
 unfold portB
 rcases h with h | ⟨h0, h1⟩
 ·rw [if_neg (by omega)]; simp
 ·rw [if_pos h0]
  have := dec_le 5 n.toNat (by omega) (by omega)
  simp only [List.length_cons]; omega
theorem org_text (u : Ur) (h : okU u = true) (hn : 0 ≤ portU u) : urlG (originT u.sch u.hk u.hn u.ha (portU u)) = (orgU u, true) ∧ okU (orgU u) = true ∧ originU (orgU u) = originU u ∧ sameV (orgU u) u = true := by
 obtain ⟨g, hl⟩ := ok_hosted u h hn
 obtain ⟨s1, s2, s3⟩ := http_sch _ g.s
 have gv := org_good u g
 obtain ⟨p1, _, _⟩ := port_law u h hn
 have hpl : (portB u.port).length ≤ 6 := port_len _ (by rcases g.a.port with e | ⟨q0, q1, _⟩; exact .inl e; exact .inr ⟨q0, q1⟩)
 have hhl := g.a.host.put
 have hsl : u.sch.length ≤ 5 := by rcases g.s with q | q <;> (rw [q]; decide)
 have ea : authB (orgU u) = hostPV u.hk u.hn u.ha ++ portB u.port := by
  have : userB (orgU u) = [] := rfl
  unfold authB
  rw [this]; rfl
 have et : tailB (orgU u) = [] := rfl
 have ep : pathPut (orgU u).path = [47] := rfl
 have hpu : (putU (orgU u)).length ≤ 200 := by
  rw [putU_H (orgU u) s3, ea, et, ep]
  show (u.sch ++ _).length ≤ 200
  simp only [List.length_append, List.length_cons, List.length_nil]
  omega
 have hho : hostOkV u.hk u.hn u.ha = true := by
  have := g.a.host.ne
  unfold hostPV at this
  cases q : hostOkV u.hk u.hn u.ha with
  | true => rfl
  | false => rw [q] at this; exact absurd rfl this
 have hto : originT u.sch u.hk u.hn u.ha (portU u) = u.sch ++ 58 :: (47 :: 47 :: (authB (orgU u) ++ ([] ++ tailB (orgU u)))) := by
  have s3' : ¬ ownP u.sch < 0 := by omega
  rw [ea, et]
  unfold originT
  rw [if_neg s3', if_pos hho, if_pos ⟨hn, p1⟩]
  rcases g.a.port with e | ⟨q0, q1, q2⟩
  ·have e1 : portU u = ownP u.sch := by unfold portU; rw [if_neg (by omega)]
   have e2 : portB u.port = [] := by unfold portB; rw [if_neg (by omega)]
   rw [if_pos e1, e2]; simp
  ·have e1 : portU u = u.port := by unfold portU; rw [if_pos q0]
   have e2 : portB u.port = 58 :: Lib.decDigits u.port.toNat := by unfold portB; rw [if_pos q0]
   have e3 : ¬ u.port = ownP u.sch := q2
   rw [e1, if_neg e3, e2]; simp
 have hpe : pathB (setB 1) [] = (orgU u).path := by
  rw [← pathB_self (orgU u) gv hpu, ep]
  unfold pathB
  rw [if_pos (by simp), if_pos (by simp)]
  rfl
 have hv := (okU_iff (orgU u)).2 (goodH_back (orgU u) gv hpu)
 have ho : originU (orgU u) = originU u := by
  unfold originU
  rfl
 refine ⟨?_, hv, ho, ?_⟩
 ·rw [hto]
  refine goodH_any (orgU u) gv (by omega) u.sch s1 s2 47 (.inl rfl) [] (.inl rfl) (fun c hc => by cases hc) Seen.nil hpe ?_
  rw [ea, et]
  simp only [List.length_append, List.length_cons, List.length_nil]
  omega
 ·rw [same_iff]
  exact ⟨hv, h, s3, rfl, ⟨rfl, rfl, rfl⟩, rfl⟩
theorem org_none (u : Ur) (h : okU u = true) (hn : portU u < 0) : originU u = Og.zero := by
 unfold originU
 rw [if_pos]
 have := ok_own u h
 omega
theorem null_text : oText Og.zero = [110, 117, 108, 108] := rfl
end Go.Proofs.YtopcpbokfngpeaaGreatDoor.H
/- laws.FnOriginText: the call comes to true, whatever the codes; the package-level variables read as their tables. -/
set_option linter.unusedVariables false
namespace Go.Proofs.YtopcpbokfngpeaaGreatDoor.H
open Go.RowKit Go.Proofs.YtopcpbokfngpeaaGreatDoorW.PrintWords Go.Proofs.YtopcpbokfngpeaaGreatDoor.Base Go.Proofs.YtopcpbokfngpeaaGreatDoor.Pure
def Ob (w : World) (g : Nat) (o : Og) : Prop := w.heap[g]? = some (.cells #[.string (B o.sch), .int .i64 o.hk, .string (B o.hn), .int .i64 o.ha, .int .i64 o.port] 36 (0, 0))
theorem Ob.below {w w1 : World} {g : Nat} {o : Og} (h : Ob w g o) (hb : Below w.heap.size w w1) : Ob w1 g o := blk_below h hb
theorem Ob.cells {w : World} {g : Nat} {o : Og} (h : Ob w g o) : (w.cell? ⟨g, 0, none⟩ = some (.string (B o.sch)) ∧ w.cell? ⟨g, 1, none⟩ = some (.int .i64 o.hk) ∧ w.cell? ⟨g, 2, none⟩ = some (.string (B o.hn)) ∧ w.cell? ⟨g, 3, none⟩ = some (.int .i64 o.ha) ∧ w.cell? ⟨g, 4, none⟩ = some (.int .i64 o.port)) ∧ True := ⟨(cells5 h).1, trivial⟩
theorem ob_new (w : World) (o : Og) : Ob (w.alloc (.cells #[.string (B o.sch), .int .i64 o.hk, .string (B o.hn), .int .i64 o.ha, .int .i64 o.port] 36)) w.heap.size o ∧ Below w.heap.size w (w.alloc (.cells #[.string (B o.sch), .int .i64 o.hk, .string (B o.hn), .int .i64 o.ha, .int .i64 o.port] 36)) := ⟨blk_new w _, below_alloc (Below.refl _ _) _⟩
theorem oText_len (o : Og) (hs : o.sch.length ≤ 1048576) (hl : o.hn.length ≤ 1048576) : (oText o).length ≤ 3000000 := by
 have h1 := hostPV_len o.hk o.ha o.hn hl
 have h2 := fun q : o.port ≤ 9223372036854775807 => dec_len19 o.port q
 unfold oText originT nullB
 split
 ·simp
 ·split
  ·split
   ·rename_i hp
    have := h2 (by omega)
    split
    ·simp only [List.length_append, List.length_cons, List.length_nil]; omega
    ·simp only [List.length_append, List.length_cons, List.length_nil]; omega
   ·simp
  ·simp
theorem origin_own (u : Ur) (h : okU u = true) (hn : 0 ≤ portU u) : originV u = ⟨u.sch, u.hk, u.hn, u.ha, portU u⟩ := by
 have := (ok_own u h).1 hn
 unfold originV originU
 rw [if_pos h, if_neg (by omega)]
theorem otext_law (u : Ur) (h : okU u = true) (hn : 0 ≤ portU u) : urlG (oText (originV u)) = (orgU u, true) ∧ originV (orgU u) = originV u ∧ sameV (orgU u) u = true := by
 obtain ⟨e1, e2, e3, e4⟩ := org_text u h hn
 have eo : originV u = originU u := by unfold originV; rw [if_pos h]
 refine ⟨?_, ?_, e4⟩
 ·rw [origin_own u h hn]; exact e1
 ·rw [eo, ← e3]; unfold originV; rw [if_pos e2]
theorem otext_null (u : Ur) (h : okU u = true) (hn : portU u < 0) : oText (originV u) = nullB := by
 have : originV u = Og.zero := by unfold originV; rw [if_pos h]; exact org_none u h hn
 rw [this]; exact null_text
theorem ogB_own (o : Og) : ogB o o = true := by unfold ogB; simp
theorem eqA_own (d : Nat) (w : World) (o : Og) : (Op.equalIn (d + 3) 36 (.agg #[.string (B o.sch), .int .i64 o.hk, .string (B o.hn), .int .i64 o.ha, .int .i64 o.port]) (.agg #[.string (B o.sch), .int .i64 o.hk, .string (B o.hn), .int .i64 o.ha, .int .i64 o.port])).run Tryz.prog w = .ok true w := by
 have := eqA_og d w o o
 rw [ogB_own] at this; exact this
attribute [local go_sem high] eqA_own
set_option maxHeartbeats 8000000 in
set_option maxRecDepth 100000 in
theorem FnOriginText_walk (a0 : Option Addr) (len0 cap0 : Nat) (z0 : List Int) (a1 : Option Addr) (len1 cap1 : Nat) (z1 : List Int) (w : World) (w0 : CodeRow w a0 len0 cap0 z0) (y0 : len0 * 1 ≤ 140737488351232) (v1 : CodeRow w a1 len1 cap1 z1) (y1 : len1 * 1 ≤ 140737488351232) (hT : Tabs w) :
  Calls Tryz.prog 5 #[.slice a0 len0 cap0, .slice a1 len1 cap1] w fun e w' => e = .returned (.bool true) ∧ Below w.heap.size w w' := by
 have HDR := Lib.hid (code_DrawOriginPut a0 len0 cap0 z0 w w0)
 by_cases hbig : 1048576 < len0
 ·have hd : decide (1048576 < (len0 : Int)) = true := decide_eq_true (by omega)
  clear hT
  go_enter Tryz.func5, Tryz.ntmps5
  go_wp2
  go_ret
  exact ⟨rfl, Below.refl _ _⟩
 have hd : decide (1048576 < (len0 : Int)) = false := decide_eq_false (by omega)
 by_cases hbig1 : 1048576 < len1
 ·have hd1 : decide (1048576 < (len1 : Int)) = true := decide_eq_true (by omega)
  clear hT HDR
  go_enter Tryz.func5, Tryz.ntmps5
  go_wp2
  go_ret
  exact ⟨rfl, Below.refl _ _⟩
 have hd1 : decide (1048576 < (len1 : Int)) = false := decide_eq_false (by omega)
 have HDM := Lib.hid fun w1 (hb : Below w.heap.size w w1) => code_DrawOriginOf a1 len1 cap1 z1 w1 (v1.below hb)
 clear hbig hbig1 w0 y0 y1
 go_enter Tryz.func5, Tryz.ntmps5
 go_wp2_with fail
 refine HDR.out.mono ?_
 rintro e w1 ⟨o, rfl, ol, om, hb1⟩
 clear HDR
 obtain ⟨Ko_2, hba⟩ := ob_new w1 o
 have HB_2 := below_then hb1 hb1.size hba
 clear hb1 hba
 have HIP := Lib.hid fun w1 (hb : Below w.heap.size w w1) => implOriginPut_walk o w1 (hT.below hb) ol om
 have HSP := Lib.hid fun w1 => specOriginPut_walk o w1 ol om
 generalize oText o = s at HIP HSP
 have hss : (s != s) = false := by simp
 unfold oCells at HIP HSP ⊢
 clear ol om
 go_upto_region 4 with fail
 generalize w1.alloc _ = w2 at Ko_2 HB_2 ⊢
 generalize w1.heap.size = g5 at Ko_2 ⊢
 have kco := Ko_2.cells.1
 go_wp2_with fail
 refine (HIP.out _ HB_2).mono ?_
 rintro e w3 ⟨rfl, hb3⟩
 clear kco
 have Ko_3 := Ko_2.below hb3
 have HB_3 := below_then HB_2 HB_2.size hb3
 clear Ko_2  HB_2 hb3
 have kco := Ko_3.cells.1
 go_wp2_with fail
 refine (HSP.out _).mono ?_
 rintro e w4 ⟨rfl, hb4⟩
 clear kco
 have Ko_4 := Ko_3.below hb4
 have HB_4 := below_then HB_3 HB_3.size hb4
 clear Ko_3  HB_3 hb4
 clear Ko_4 HIP HSP
 go_wp2_with fail
 refine (HDM.out _ HB_4).mono ?_
 rintro e w5 ⟨u, pv, rfl, fit, hP, hb5⟩
 have HB_5 := below_then HB_4 HB_4.size hb5
 clear   HB_4 hb5
 clear HDM
 have hPc := hP
 obtain ⟨A, c, rfl, _, _⟩ := hPc
 obtain ⟨Ku_6, hba⟩ := u_new w5 (uCells u (.slice A u.path.length c))
 have hPu_6 := hP.below hba
 have HB_6 := below_then HB_5 HB_5.size hba
 clear   HB_5 hba
 clear hP
 unfold uCells at Ku_6 hPu_6 HB_6 ⊢
 go_upto_region 8 with fail
 generalize w5.alloc _ = w6 at Ku_6 hPu_6 HB_6 ⊢
 generalize w5.heap.size = g7 at Ku_6 ⊢
 have HOI := Lib.hid fun w1 p (hb : Below w.heap.size w w1) => implOriginOf_walk u (.slice A u.path.length c) w1 fit p (hT.below hb)
 have HOS := Lib.hid fun w1 p => specOriginOf_walk u (.slice A u.path.length c) w1 fit p
 have HOK := Lib.hid fun w1 p => specUrlOk_walk u (.slice A u.path.length c) w1 fit p
 have HPO := Lib.hid fun w1 p (hb : Below w.heap.size w w1) => implPortOf_walk u (.slice A u.path.length c) w1 fit p (hT.below hb)
 have HN : Hid (okU u = true → portOfV u = portU u) := Lib.hid fun h => by unfold portOfV; rw [if_pos h]
 have HL0 : Hid (okU u = true → portU u < 0 → oText (originV u) = nullB) := Lib.hid (otext_null u)
 have HL1 : Hid (okU u = true → 0 ≤ portU u → urlG (oText (originV u)) = (orgU u, true) ∧ originV (orgU u) = originV u ∧ sameV (orgU u) u = true) := Lib.hid (otext_law u)
 obtain ⟨ol, om⟩ := originV_len u fit
 have hlen := oText_len (originV u) ol om
 have HPP := Lib.hid fun w1 (hb : Below w.heap.size w w1) => implOriginPut_walk (originV u) w1 (hT.below hb) ol om
 have HUG := Lib.hid fun w1 (hb : Below w.heap.size w w1) => implUrlGet_walk (oText (originV u)) w1 (by omega) (hT.s.below hb) (hT.m.below hb) (hT.i.below hb)
 have HSM := Lib.hid (sm_url (oText (originV u))).fit
 have HSA := Lib.hid fun (v : Ur) (fv : FitP v) pv w1 (p : PathAt w1 pv v.path) (q : PathAt w1 (.slice A u.path.length c) u.path) (hb : Below w.heap.size w w1) => implOriginSame_walk v u pv (.slice A u.path.length c) w1 fv fit p q (hT.below hb)
 generalize originV u = p at HOI HOS HL0 HL1 HPP HUG HSM
 generalize oText p = t at HL0 HL1 HPP HUG HSM
 generalize okU u = ok at HOK HN HL0 HL1
 generalize portOfV u = n at HPO HN
 clear ol om hlen fit
 unfold oCells at HOI HOS HPP
 unfold uCells at HOI HOS HOK HPO
 have kcu := Ku_6.cells.1
 go_wp2_with fail
 refine (HOI.out _ hPu_6 HB_6).mono ?_
 rintro e w7 ⟨rfl, hb7⟩
 clear kcu
 have Ku_7 := Ku_6.below hb7
 have hPu_7 := hPu_6.below hb7
 have HB_7 := below_then HB_6 HB_6.size hb7
 clear Ku_6 hPu_6 HB_6 hb7
 obtain ⟨Kp_8, hba⟩ := ob_new w7 p
 have Ku_8 := Ku_7.below hba
 have hPu_8 := hPu_7.below hba
 have HB_8 := below_then HB_7 HB_7.size hba
 clear Ku_7 hPu_7 HB_7 hba
 go_upto_region 9 with fail
 generalize w7.alloc _ = w8 at Ku_8 Kp_8 hPu_8 HB_8 ⊢
 generalize w7.heap.size = g8 at Kp_8 ⊢
 cases ok with
 | false =>
  refine wp_region_below (by kernel_rfl) (by kernel_rfl) ?_
  repeat (with_reducible refine wpQuiet_step (fun K hK => ?_); go_simp; first | (refine hK _ ?_; clear hK K) | (refine ⟨_, fun _ _ => rfl, hK _ ?_⟩; clear hK K) | (rw [if_neg (by decide)]; refine hK _ ?_; clear hK K) | (apply Exists.intro; refine ⟨fun wq hq => ?_, hK _ ?_⟩; (first | (go_at_call 22; with_reducible refine (HOS.out _ (hPu_8.below hq)).mono ?_; rintro e w3 ⟨rfl, hb3⟩; exact ⟨rfl, below_then hq hq.size hb3⟩) | (go_at_call 11; with_reducible refine (HOK.out _ (hPu_8.below hq)).mono ?_; rintro e w3 ⟨rfl, hb3⟩; exact ⟨rfl, below_then hq hq.size hb3⟩) | (go_at_call 12; with_reducible refine (HPO.out _ (hPu_8.below hq) (below_then HB_8 HB_8.size hq)).mono ?_; rintro e w3 ⟨rfl, hb3⟩; exact ⟨rfl, below_then hq hq.size hb3⟩) | (go_at_call 18; with_reducible refine (HPP.out _ (below_then HB_8 HB_8.size hq)).mono ?_; rintro e w3 ⟨rfl, hb3⟩; exact ⟨rfl, below_then hq hq.size hb3⟩) | (have kk0 := (Ku_8.below hq).cells.1; have kk1 := (Kp_8.below hq).cells.1; go_simp; with_reducible rfl)); clear hK K))
  with_reducible refine wpQuiet_nil ?_
  intro w9 hb9
  have Ku_9 := Ku_8.below hb9
  have Kp_9 := Kp_8.below hb9
  have hPu_9 := hPu_8.below hb9
  have HB_9 := below_then HB_8 HB_8.size hb9
  clear Ku_8 Kp_8 hPu_8 HB_8 hb9
  go_upto_region 10 with fail
  refine wp_region_below (by kernel_rfl) (by kernel_rfl) ?_
  repeat (with_reducible refine wpQuiet_step (fun K hK => ?_); go_simp; first | (refine hK _ ?_; clear hK K) | (refine ⟨_, fun _ _ => rfl, hK _ ?_⟩; clear hK K) | (rw [if_neg (by decide)]; refine hK _ ?_; clear hK K) | (apply Exists.intro; refine ⟨fun wq hq => ?_, hK _ ?_⟩; (first | (go_at_call 22; with_reducible refine (HOS.out _ (hPu_9.below hq)).mono ?_; rintro e w3 ⟨rfl, hb3⟩; exact ⟨rfl, below_then hq hq.size hb3⟩) | (go_at_call 11; with_reducible refine (HOK.out _ (hPu_9.below hq)).mono ?_; rintro e w3 ⟨rfl, hb3⟩; exact ⟨rfl, below_then hq hq.size hb3⟩) | (go_at_call 12; with_reducible refine (HPO.out _ (hPu_9.below hq) (below_then HB_9 HB_9.size hq)).mono ?_; rintro e w3 ⟨rfl, hb3⟩; exact ⟨rfl, below_then hq hq.size hb3⟩) | (go_at_call 18; with_reducible refine (HPP.out _ (below_then HB_9 HB_9.size hq)).mono ?_; rintro e w3 ⟨rfl, hb3⟩; exact ⟨rfl, below_then hq hq.size hb3⟩) | (have kk0 := (Ku_9.below hq).cells.1; have kk1 := (Kp_9.below hq).cells.1; go_simp; with_reducible rfl)); clear hK K))
  with_reducible refine wpQuiet_nil ?_
  intro w10 hb10
  have Ku_10 := Ku_9.below hb10
  have Kp_10 := Kp_9.below hb10
  have hPu_10 := hPu_9.below hb10
  have HB_10 := below_then HB_9 HB_9.size hb10
  clear Ku_9 Kp_9 hPu_9 HB_9 hb10
  have HBe := Lib.hid HB_10
  clear HB_10
  go_wp2
  go_ret
  exact ⟨rfl, HBe.out⟩
 | true =>
  have hn := HN.out (by trivial)
  subst hn
  clear HN
  by_cases hneg : portU u < 0
  ·have hd0 : decide (portU u < 0) = true := decide_eq_true hneg
   have ht := HL0.out (by trivial) hneg
   subst ht
   have hnb : B nullB = ⟨#[110, 117, 108, 108]⟩ := rfl
   rw [hnb] at HPP
   clear HL0 HL1 HUG HSM HSA hneg hnb
   generalize portU u = n at HPO hd0
   refine wp_region_below (by kernel_rfl) (by kernel_rfl) ?_
   repeat (with_reducible refine wpQuiet_step (fun K hK => ?_); go_simp; first | (refine hK _ ?_; clear hK K) | (refine ⟨_, fun _ _ => rfl, hK _ ?_⟩; clear hK K) | (rw [if_neg (by decide)]; refine hK _ ?_; clear hK K) | (apply Exists.intro; refine ⟨fun wq hq => ?_, hK _ ?_⟩; (first | (go_at_call 22; with_reducible refine (HOS.out _ (hPu_8.below hq)).mono ?_; rintro e w3 ⟨rfl, hb3⟩; exact ⟨rfl, below_then hq hq.size hb3⟩) | (go_at_call 11; with_reducible refine (HOK.out _ (hPu_8.below hq)).mono ?_; rintro e w3 ⟨rfl, hb3⟩; exact ⟨rfl, below_then hq hq.size hb3⟩) | (go_at_call 12; with_reducible refine (HPO.out _ (hPu_8.below hq) (below_then HB_8 HB_8.size hq)).mono ?_; rintro e w3 ⟨rfl, hb3⟩; exact ⟨rfl, below_then hq hq.size hb3⟩) | (go_at_call 18; with_reducible refine (HPP.out _ (below_then HB_8 HB_8.size hq)).mono ?_; rintro e w3 ⟨rfl, hb3⟩; exact ⟨rfl, below_then hq hq.size hb3⟩) | (have kk0 := (Ku_8.below hq).cells.1; have kk1 := (Kp_8.below hq).cells.1; go_simp; with_reducible rfl)); clear hK K))
   with_reducible refine wpQuiet_nil ?_
   intro w9 hb9
   have Ku_9 := Ku_8.below hb9
   have Kp_9 := Kp_8.below hb9
   have hPu_9 := hPu_8.below hb9
   have HB_9 := below_then HB_8 HB_8.size hb9
   clear Ku_8 Kp_8 hPu_8 HB_8 hb9
   go_upto_region 10 with fail
   refine wp_region_below (by kernel_rfl) (by kernel_rfl) ?_
   repeat (with_reducible refine wpQuiet_step (fun K hK => ?_); go_simp; first | (refine hK _ ?_; clear hK K) | (refine ⟨_, fun _ _ => rfl, hK _ ?_⟩; clear hK K) | (rw [if_neg (by decide)]; refine hK _ ?_; clear hK K) | (apply Exists.intro; refine ⟨fun wq hq => ?_, hK _ ?_⟩; (first | (go_at_call 22; with_reducible refine (HOS.out _ (hPu_9.below hq)).mono ?_; rintro e w3 ⟨rfl, hb3⟩; exact ⟨rfl, below_then hq hq.size hb3⟩) | (go_at_call 11; with_reducible refine (HOK.out _ (hPu_9.below hq)).mono ?_; rintro e w3 ⟨rfl, hb3⟩; exact ⟨rfl, below_then hq hq.size hb3⟩) | (go_at_call 12; with_reducible refine (HPO.out _ (hPu_9.below hq) (below_then HB_9 HB_9.size hq)).mono ?_; rintro e w3 ⟨rfl, hb3⟩; exact ⟨rfl, below_then hq hq.size hb3⟩) | (go_at_call 18; with_reducible refine (HPP.out _ (below_then HB_9 HB_9.size hq)).mono ?_; rintro e w3 ⟨rfl, hb3⟩; exact ⟨rfl, below_then hq hq.size hb3⟩) | (have kk0 := (Ku_9.below hq).cells.1; have kk1 := (Kp_9.below hq).cells.1; go_simp; with_reducible rfl)); clear hK K))
   with_reducible refine wpQuiet_nil ?_
   intro w10 hb10
   have Ku_10 := Ku_9.below hb10
   have Kp_10 := Kp_9.below hb10
   have hPu_10 := hPu_9.below hb10
   have HB_10 := below_then HB_9 HB_9.size hb10
   clear Ku_9 Kp_9 hPu_9 HB_9 hb10
   have HBe := Lib.hid HB_10
   clear HB_10
   go_wp2
   go_ret
   exact ⟨rfl, HBe.out⟩
  ·have hd0 : decide (portU u < 0) = false := decide_eq_false hneg
   obtain ⟨l1, l2, l3⟩ := HL1.out (by trivial) (by omega)
   have fx := HSM.out
   rw [l1] at HUG fx
   dsimp only at fx
   have HOX := Lib.hid fun pv w1 p (hb : Below w.heap.size w w1) => implOriginOf_walk (orgU u) pv w1 fx p (hT.below hb)
   have HSX := Lib.hid (HSA.out (orgU u) fx)
   rw [l2] at HOX
   rw [l3] at HSX
   clear l1 l2 l3 HL0 HL1 HSM HSA fx hneg
   generalize orgU u = v at HUG HOX HSX
   generalize portU u = n at HPO hd0
   unfold oCells at HOX
   unfold uCells at HOX HSX
   refine wp_region_below (by kernel_rfl) (by kernel_rfl) ?_
   repeat (with_reducible refine wpQuiet_step (fun K hK => ?_); go_simp; first | (refine hK _ ?_; clear hK K) | (refine ⟨_, fun _ _ => rfl, hK _ ?_⟩; clear hK K) | (rw [if_neg (by decide)]; refine hK _ ?_; clear hK K) | (apply Exists.intro; refine ⟨fun wq hq => ?_, hK _ ?_⟩; (first | (go_at_call 22; with_reducible refine (HOS.out _ (hPu_8.below hq)).mono ?_; rintro e w3 ⟨rfl, hb3⟩; exact ⟨rfl, below_then hq hq.size hb3⟩) | (go_at_call 11; with_reducible refine (HOK.out _ (hPu_8.below hq)).mono ?_; rintro e w3 ⟨rfl, hb3⟩; exact ⟨rfl, below_then hq hq.size hb3⟩) | (go_at_call 12; with_reducible refine (HPO.out _ (hPu_8.below hq) (below_then HB_8 HB_8.size hq)).mono ?_; rintro e w3 ⟨rfl, hb3⟩; exact ⟨rfl, below_then hq hq.size hb3⟩) | (go_at_call 18; with_reducible refine (HPP.out _ (below_then HB_8 HB_8.size hq)).mono ?_; rintro e w3 ⟨rfl, hb3⟩; exact ⟨rfl, below_then hq hq.size hb3⟩) | (have kk0 := (Ku_8.below hq).cells.1; have kk1 := (Kp_8.below hq).cells.1; go_simp; with_reducible rfl)); clear hK K))
   with_reducible refine wpQuiet_nil ?_
   intro w9 hb9
   have Ku_9 := Ku_8.below hb9
   have Kp_9 := Kp_8.below hb9
   have hPu_9 := hPu_8.below hb9
   have HB_9 := below_then HB_8 HB_8.size hb9
   clear Ku_8 Kp_8 hPu_8 HB_8 hb9
   go_upto_region 11 with fail
   have kcp := Kp_9.cells.1
   go_wp2_with fail
   refine (HPP.out _ HB_9).mono ?_
   rintro e w10 ⟨rfl, hb10⟩
   clear kcp
   have Ku_10 := Ku_9.below hb10
   have Kp_10 := Kp_9.below hb10
   have hPu_10 := hPu_9.below hb10
   have HB_10 := below_then HB_9 HB_9.size hb10
   clear Ku_9 Kp_9 hPu_9 HB_9 hb10
   go_wp2_with fail
   refine (HUG.out _ HB_10).mono ?_
   rintro e w11 ⟨pv3, rfl, hq3, hb11⟩
   obtain ⟨A3, c3, rfl, _⟩ := q_slice hq3
   have Ku_11 := Ku_10.below hb11
   have Kp_11 := Kp_10.below hb11
   have hPu_11 := hPu_10.below hb11
   have HB_11 := below_then HB_10 HB_10.size hb11
   clear Ku_10 Kp_10 hPu_10 HB_10 hb11
   dsimp only at hq3
   obtain ⟨Kv_12, hba⟩ := u_new w11 #[.string (B v.sch), .string (B v.usr), .string (B v.pas), .int .i64 v.hk, .string (B v.hn), .int .i64 v.ha, .int .i64 v.port, (.slice A3 v.path.length c3), .string (B v.opq), .bool v.hq, .string (B v.qry), .bool v.hf, .string (B v.frg)]
   have hPv_12 := pathAt_q (q_below hq3 hba)
   clear hq3
   have Ku_12 := Ku_11.below hba
   have Kp_12 := Kp_11.below hba
   have hPu_12 := hPu_11.below hba
   have HB_12 := below_then HB_11 HB_11.size hba
   clear Ku_11 Kp_11 hPu_11 HB_11 hba
   unfold uCells
   go_upto_region 12 with fail
   generalize w11.alloc _ = w12 at Kv_12 Ku_12 Kp_12 hPu_12 hPv_12 HB_12 ⊢
   generalize w11.heap.size = g9 at Kv_12 ⊢
   refine wp_region_below (by kernel_rfl) (by kernel_rfl) ?_
   repeat (with_reducible refine wpQuiet_step (fun K hK => ?_); go_simp; first | (refine hK _ ?_; clear hK K) | (refine ⟨_, fun _ _ => rfl, hK _ ?_⟩; clear hK K) | (rw [if_neg (by decide)]; refine hK _ ?_; clear hK K) | (apply Exists.intro; refine ⟨fun wq hq => ?_, hK _ ?_⟩; (first | (go_at_call 21; with_reducible refine (HOX.out _ _ (hPv_12.below hq) (below_then HB_12 HB_12.size hq)).mono ?_; rintro e w3 ⟨rfl, hb3⟩; exact ⟨rfl, below_then hq hq.size hb3⟩) | (go_at_call 9; with_reducible refine (HSX.out _ _ (hPv_12.below hq) (hPu_12.below hq) (below_then HB_12 HB_12.size hq)).mono ?_; rintro e w3 ⟨rfl, hb3⟩; exact ⟨rfl, below_then hq hq.size hb3⟩) | (have kk0 := (Ku_12.below hq).cells.1; have kk1 := (Kp_12.below hq).cells.1; have kk2 := (Kv_12.below hq).cells.1; go_simp; with_reducible rfl)); clear hK K))
   with_reducible refine wpQuiet_nil ?_
   intro w13 hb13
   have Ku_13 := Ku_12.below hb13
   have Kp_13 := Kp_12.below hb13
   have Kv_13 := Kv_12.below hb13
   have hPu_13 := hPu_12.below hb13
   have hPv_13 := hPv_12.below hb13
   have HB_13 := below_then HB_12 HB_12.size hb13
   clear Ku_12 Kp_12 Kv_12 hPu_12 hPv_12 HB_12 hb13
   have HBe := Lib.hid HB_13
   clear HB_13
   go_wp2
   go_ret
   exact ⟨rfl, HBe.out⟩
end Go.Proofs.YtopcpbokfngpeaaGreatDoor.H
