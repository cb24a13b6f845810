/- Texts of this claim, joined: HUrlK, LUrlXOSame. Conditions: each theorem's own. -/
import Derived.Test.YtndobphgeiamhaaGreatDoorA15
import Derived.Test.YtndobphgeiamhaaGreatDoorA04
import Derived.Deep.RegionWith
/- OriginSame of both sides: what the calls come to; the package-level variables read as their tables. -/
set_option linter.unusedVariables false
namespace Go.Proofs.YtndobphgeiamhaaGreatDoor.H
open Go.RowKit Go.Proofs.YtndobphgeiamhaaGreatDoorW.PrintWords Go.Proofs.YtndobphgeiamhaaGreatDoor.Base Go.Proofs.YtndobphgeiamhaaGreatDoor.Pure
def ogB (x y : Og) : Bool := x.sch == y.sch && ((x.hk == y.hk && (x.hn == y.hn && x.ha == y.ha)) && x.port == y.port)
theorem eqA_og (d : Nat) (w : World) (a b : Og) :
  (Op.equalIn (d + 3) 30 (.agg (oCells a)) (.agg (oCells b))).run Tryz.prog w = .ok (ogB a b) w := by
 have e : ogB a b = ((B a.sch).toList == (B b.sch).toList && ((a.hk == b.hk && ((B a.hn).toList == (B b.hn).toList && (a.ha == b.ha))) && (a.port == b.port))) := by unfold ogB; simp only [B_toList]
 rw [e]
 unfold oCells
 refine eqA_of Tryz.underlying30 (by kernel_rfl) ?_
 refine eqf_cons (by rfl) hrq hrq hrq ?_
 refine eqf_cons (by rfl) hrq hrq (eqA_host _ _ _ _ _ _ _ _) ?_
 exact eqf_last (by rfl) hrq hrq hrq
def hostedV (a b : Ur) : Bool := okU a && (okU b && (a.hk != 0))
def sameV (a b : Ur) : Bool := okU a && (okU b && (decide (0 ≤ ownP a.sch) && ogB (originU a) (originU b)))
theorem same_host (a b : Ur) : sameV a b = (hostedV a b && ogB (originV a) (originV b)) := by
 unfold sameV hostedV originV
 cases ha : okU a with
 | false => rfl
 | true =>
  cases hb : okU b with
  | false => rfl
  | true =>
   have h := ok_kind a ha
   rw [if_pos rfl, if_pos rfl]
   simp only [Bool.true_and]
   congr 1
   by_cases q : a.hk = 0
   ·rw [decide_eq_false (by have := h.1 q; omega), q]; rfl
   ·rw [decide_eq_true (by omega)]; exact (bne_iff_ne.mpr q).symm
set_option maxHeartbeats 2000000 in
set_option maxRecDepth 100000 in
theorem hosted_walk (a b : Ur) (pv qv : Value) (w : World) (ha : FitP a) (hb : FitP b) (hA : PathAt w pv a.path) (hB : PathAt w qv b.path) (hT : Tabs w) :
  Calls Tryz.prog 40 #[.agg (uCells a pv), .agg (uCells b qv)] w fun e w' => e = .returned (.bool (hostedV a b)) ∧ Below w.heap.size w w' := by
 have HA := Lib.hid fun w1 (k : Below w.heap.size w w1) => implUrlOk_walk a pv w1 ha (hA.below k) (hT.below k)
 have HB := Lib.hid fun w1 (k : Below w.heap.size w w1) => implUrlOk_walk b qv w1 hb (hB.below k) (hT.below k)
 obtain ⟨K1, K2, HW⟩ := two_objs w (.cells (uCells a pv) 33) (.cells (uCells b qv) 33)
 have HX : Hid (hostedV a b = (okU a && (okU b && (a.hk != 0)))) := Lib.hid rfl
 generalize hostedV a b = z at HX ⊢
 clear ha hb hA hB hT
 generalize okU a = x at HA HX
 generalize okU b = y at HB HX
 unfold uCells at *
 go_enter Tryz.func40, Tryz.ntmps40
 go_upto_region 1 with fail
 generalize (w.alloc _).alloc _ = w1 at K1 K2 HW ⊢
 generalize w.heap.size + 1 = g at K2 ⊢
 have kc1 := cells13 K1
 go_wp2_with fail
 refine (HA.out _ HW).mono ?_
 rintro e w2 ⟨rfl, hb2⟩
 have K12 := blk_below K1 hb2
 have K22 := blk_below K2 hb2
 have HW2 := below_then HW HW.size hb2
 clear kc1 K1 K2 HW hb2
 cases x with
 | false =>
  go_wp2
  go_ret
  exact ⟨by rw [HX.out]; rfl, HW2⟩
 | true =>
  have kc2 := cells13 K22
  go_wp2_with fail
  refine (HB.out _ HW2).mono ?_
  rintro e w3 ⟨rfl, hb3⟩
  have K13 := blk_below K12 hb3
  have HW3 := Lib.hid (below_then HW2 HW2.size hb3)
  clear kc2 K12 K22 HW2 hb3
  cases y with
  | false =>
   go_wp2
   go_ret
   exact ⟨by rw [HX.out]; rfl, HW3.out⟩
  | true =>
   have kc1 := cells13 K13
   obtain ⟨q, hq⟩ : ∃ q, (a.hk == 0) = q := ⟨_, rfl⟩
   have HQ := Lib.hid hq
   cases q <;> clear hq <;> have hq := HQ.out <;> go_wp2 <;> go_ret <;> exact ⟨by rw [HX.out, bne, hq]; rfl, HW3.out⟩
set_option maxHeartbeats 4000000 in
set_option maxRecDepth 100000 in
theorem implOriginSame_walk (a b : Ur) (pv qv : Value) (w : World) (ha : FitP a) (hb : FitP b) (hA : PathAt w pv a.path) (hB : PathAt w qv b.path) (hT : Tabs w) :
  Calls Tryz.prog 18 #[.agg (uCells a pv), .agg (uCells b qv)] w fun e w' => e = .returned (.bool (sameV a b)) ∧ Below w.heap.size w w' := by
 have HH := Lib.hid fun w1 (k : Below w.heap.size w w1) => hosted_walk a b pv qv w1 ha hb (hA.below k) (hB.below k) (hT.below k)
 have HA := Lib.hid fun w1 (k : Below w.heap.size w w1) => implOriginOf_walk a pv w1 ha (hA.below k) (hT.below k)
 have HB := Lib.hid fun w1 (k : Below w.heap.size w w1) => implOriginOf_walk b qv w1 hb (hB.below k) (hT.below k)
 obtain ⟨K1, K2, HW⟩ := two_objs w (.cells (uCells a pv) 33) (.cells (uCells b qv) 33)
 rw [same_host a b]
 generalize hostedV a b = z at HH ⊢
 clear ha hb hA hB hT
 generalize originV a = x at HA ⊢
 generalize originV b = y at HB ⊢
 have HE := fun d w => eqA_og d w x y
 obtain ⟨q, HQ⟩ : ∃ q, Hid (ogB x y = q) := ⟨_, Lib.hid rfl⟩
 rw [HQ.out] at HE ⊢
 obtain ⟨x', HX⟩ : ∃ x', Hid (oCells x = x') := ⟨_, Lib.hid rfl⟩
 obtain ⟨y', HY⟩ : ∃ y', Hid (oCells y = y') := ⟨_, Lib.hid rfl⟩
 simp only [HX.out] at HA HE
 simp only [HY.out] at HB HE
 unfold uCells at *
 go_enter Tryz.func18, Tryz.ntmps18
 go_upto_region 1 with fail
 generalize (w.alloc _).alloc _ = w1 at K1 K2 HW ⊢
 generalize w.heap.size + 1 = g at K2 ⊢
 have D1 : w1.drew.heap[w.heap.size]? = _ := K1
 have D2 : w1.drew.heap[g]? = _ := K2
 have kd1 := cells13 D1
 have kd2 := cells13 D2
 have HW1 := Lib.hid (below_drew HW)
 clear K1 K2 HW
 cases z with
 | false =>
  go_region_with (first | ((go_at_call 40; refine (HH.out _ HW1.out).mono ?_; rintro e w2 ⟨rfl, hb2⟩; have HW2 := Lib.hid (below_then HW1.out HW1.out.size hb2))) | fail)
  all_goals
   go_wp2
   go_ret
   exact ⟨rfl, HW2.out⟩
 | true =>
  go_region_with (first | ((go_at_call 40; refine (HH.out _ HW1.out).mono ?_; rintro e w2 ⟨rfl, hb2⟩; have HW2 := Lib.hid (below_then HW1.out HW1.out.size hb2); have K12 := blk_below D1 hb2; have K22 := blk_below D2 hb2; have kz1 := cells13 K12; have kz2 := cells13 K22; clear hb2)) | ((go_at_call 12; with_reducible refine (HA.out _ HW2.out).mono ?_; rintro e w3 ⟨rfl, hb3⟩; have HW3 := Lib.hid (below_then HW2.out HW2.out.size hb3); have kz3 := cells13 (blk_below K22 hb3); clear hb3)) | ((go_at_call 12; with_reducible refine (HB.out _ HW3.out).mono ?_; rintro e w4 ⟨rfl, hb4⟩; have HW4 := Lib.hid (below_then HW3.out HW3.out.size hb4); clear hb4)))
  all_goals
   go_wp2
   go_ret
   exact ⟨rfl, HW4.out⟩
set_option maxHeartbeats 4000000 in
set_option maxRecDepth 100000 in
theorem specL4Same_walk (a b : Ur) (pv qv : Value) (w : World) :
  Calls Tryz.prog 42 #[.agg (uCells a pv), .agg (uCells b qv)] w fun e w' => e = .returned (.bool (decide (0 ≤ ownP a.sch) && ogB (originU a) (originU b))) ∧ Below w.heap.size w w' := by
 have HO := Lib.hid fun w1 => specOwn_walk a.sch w1
 have HA := Lib.hid fun w1 => specOrigin_walk a pv w1
 have HB := Lib.hid fun w1 => specOrigin_walk b qv w1
 obtain ⟨K1, K2, HW⟩ := two_objs w (.cells (uCells a pv) 33) (.cells (uCells b qv) 33)
 generalize ownP a.sch = n at HO ⊢
 obtain ⟨d, HD⟩ : ∃ d, Hid (decide (0 ≤ n) = d) := ⟨_, Lib.hid rfl⟩
 rw [HD.out]
 generalize originU a = x at HA ⊢
 generalize originU b = y at HB ⊢
 have HE := fun d w => eqA_og d w x y
 obtain ⟨q, HQ⟩ : ∃ q, Hid (ogB x y = q) := ⟨_, Lib.hid rfl⟩
 rw [HQ.out] at HE ⊢
 obtain ⟨x', HX⟩ : ∃ x', Hid (oCells x = x') := ⟨_, Lib.hid rfl⟩
 obtain ⟨y', HY⟩ : ∃ y', Hid (oCells y = y') := ⟨_, Lib.hid rfl⟩
 simp only [HX.out] at HA HE
 simp only [HY.out] at HB HE
 unfold uCells at *
 go_enter Tryz.func42, Tryz.ntmps42
 go_upto_region 1 with fail
 generalize (w.alloc _).alloc _ = w1 at K1 K2 HW ⊢
 generalize w.heap.size + 1 = g at K2 ⊢
 have D1 : w1.drew.heap[w.heap.size]? = _ := K1
 have D2 : w1.drew.heap[g]? = _ := K2
 have kd1 := cells13 D1
 have kd2 := cells13 D2
 have HW1 := Lib.hid (below_drew HW)
 clear K1 K2 HW
 cases d with
 | true =>
  have hd := HD.out
  go_region_with (first | ((go_at_call 38; refine (HO.out _).mono ?_; rintro e w2 ⟨rfl, hw2⟩; subst w2)) | ((go_at_call 31; with_reducible refine (HA.out _).mono ?_; rintro e w3 ⟨rfl, hb3⟩; have HW3 := Lib.hid (below_then HW1.out HW1.out.size hb3); have kz3 := cells13 (blk_below D2 hb3); clear hb3)) | ((go_at_call 31; with_reducible refine (HB.out _).mono ?_; rintro e w4 ⟨rfl, hb4⟩; have HW4 := Lib.hid (below_then HW3.out HW3.out.size hb4); clear hb4)))
  all_goals
   go_wp2
   go_ret
   exact ⟨rfl, HW4.out⟩
 | false =>
  have hd := HD.out
  go_region_with (first | ((go_at_call 38; refine (HO.out _).mono ?_; rintro e w2 ⟨rfl, hw2⟩; subst w2)) | fail)
  all_goals
   go_wp2
   go_ret
   exact ⟨rfl, HW1.out⟩
set_option maxHeartbeats 4000000 in
set_option maxRecDepth 100000 in
theorem specOriginSame_walk (a b : Ur) (pv qv : Value) (w : World) (ha : FitP a) (hb : FitP b) (hA : PathAt w pv a.path) (hB : PathAt w qv b.path) :
  Calls Tryz.prog 17 #[.agg (uCells a pv), .agg (uCells b qv)] w fun e w' => e = .returned (.bool (sameV a b)) ∧ Below w.heap.size w w' := by
 have HA := Lib.hid fun w1 (k : Below w.heap.size w w1) => specUrlOk_walk a pv w1 ha (hA.below k)
 have HB := Lib.hid fun w1 (k : Below w.heap.size w w1) => specUrlOk_walk b qv w1 hb (hB.below k)
 have HS := Lib.hid fun w1 => specL4Same_walk a b pv qv w1
 obtain ⟨K1, K2, HW⟩ := two_objs w (.cells (uCells a pv) 33) (.cells (uCells b qv) 33)
 have HX : Hid (sameV a b = (okU a && (okU b && (decide (0 ≤ ownP a.sch) && ogB (originU a) (originU b))))) := Lib.hid rfl
 generalize sameV a b = z at HX ⊢
 clear ha hb hA hB
 generalize okU a = x at HA HX
 generalize okU b = y at HB HX
 generalize (decide (0 ≤ ownP a.sch) && ogB (originU a) (originU b)) = s at HS HX
 unfold uCells at *
 go_enter Tryz.func17, Tryz.ntmps17
 go_upto_region 1 with fail
 generalize (w.alloc _).alloc _ = w1 at K1 K2 HW ⊢
 generalize w.heap.size + 1 = g at K2 ⊢
 have kc1 := cells13 K1
 go_wp2_with fail
 refine (HA.out _ HW).mono ?_
 rintro e w2 ⟨rfl, hb2⟩
 have K12 := blk_below K1 hb2
 have K22 := blk_below K2 hb2
 have HW2 := below_then HW HW.size hb2
 clear kc1 K1 K2 HW hb2
 cases x with
 | false =>
  go_wp2
  go_ret
  exact ⟨by rw [HX.out]; rfl, HW2⟩
 | true =>
  have kc2 := cells13 K22
  go_wp2_with fail
  refine (HB.out _ HW2).mono ?_
  rintro e w3 ⟨rfl, hb3⟩
  have K13 := blk_below K12 hb3
  have K23 := blk_below K22 hb3
  have HW3 := below_then HW2 HW2.size hb3
  clear kc2 K12 K22 HW2 hb3
  cases y with
  | false =>
   go_wp2
   go_ret
   exact ⟨by rw [HX.out]; rfl, HW3⟩
  | true =>
   have kc1 := cells13 K13
   have kc2 := cells13 K23
   go_wp2_with fail
   refine (HS.out _).mono ?_
   rintro e w4 ⟨rfl, hb4⟩
   have HW4 := Lib.hid (below_then HW3 HW3.size hb4)
   clear kc1 kc2 K13 K23 HW3 hb4
   go_wp2
   go_ret
   exact ⟨by rw [HX.out]; rfl, HW4.out⟩
end Go.Proofs.YtndobphgeiamhaaGreatDoor.H
/- laws.FnExactOriginSame: the call comes to true, whatever the two addresses; the package-level variables read as their tables. -/
set_option linter.unusedVariables false
namespace Go.Proofs.YtndobphgeiamhaaGreatDoor.H
open Go.RowKit Go.Proofs.YtndobphgeiamhaaGreatDoorW.PrintWords Go.Proofs.YtndobphgeiamhaaGreatDoor.Base Go.Proofs.YtndobphgeiamhaaGreatDoor.Pure
set_option maxHeartbeats 8000000 in
set_option maxRecDepth 100000 in
theorem FnExactOriginSame_walk (u : Ur) (pv : Value) (v : Ur) (qv : Value) (w : World) (hP : PathAt w pv u.path) (hu : WfU u) (hQ : PathAt w qv v.path) (hv : WfU v) (hT : Tabs w) :
  Calls Tryz.prog 5 #[.agg (uCells u pv), .agg (uCells v qv)] w fun e w' => e = .returned (.bool true) ∧ Below w.heap.size w w' := by
 have HZ1 := Lib.hid fun w1 (hb : Below w.heap.size w w1) => szUrl_walk u pv 1048576 w1 (hP.below hb) hu (by omega) (by omega)
 obtain ⟨K1, K2, HW⟩ := two_objs w (.cells (uCells u pv) 26) (.cells (uCells v qv) 26)
 have HW1 := Lib.hid HW
 clear HW
 by_cases hz : szU u ≤ 1048576
 ·have hs : szV u 1048576 = 1048576 - (szU u : Int) := by unfold szV; rw [if_pos (by omega)]
  have hd : decide (1048576 - (szU u : Int) < 0) = false := decide_eq_false (by omega)
  have HZ2 := Lib.hid fun w1 (hb : Below w.heap.size w w1) => szUrl_walk v qv (1048576 - (szU u : Int)) w1 (hQ.below hb) hv (by omega) (by omega)
  rw [hs] at HZ1
  have HZV : Hid (szV v (1048576 - (szU u : Int)) = if (szU v : Int) ≤ 1048576 - (szU u : Int) then 1048576 - (szU u : Int) - (szU v : Int) else -1) := Lib.hid rfl
  have hux := Lib.hid (fit_of_sz u hu hz)
  have HZU := Lib.hid hz
  have hvx : szU v ≤ 1048576 → FitP v := fit_of_sz v hv
  have HVX := Lib.hid hvx
  clear hs hu hv hz hvx
  obtain ⟨m, hm⟩ : ∃ m, m = 1048576 - (szU u : Int) := ⟨_, rfl⟩
  rw [← hm] at HZ1 HZ2 HZV hd
  have HM := Lib.hid hm
  clear hm
  by_cases hy : (szU v : Int) ≤ m
  ·have hs2 : szV v m = m - (szU v : Int) := by rw [HZV.out, if_pos hy]
   have hd2 : decide (m - (szU v : Int) < 0) = false := decide_eq_false (by omega)
   have fu := hux.out
   have fv := HVX.out (by have := HM.out; omega)
   have hpl := fu.fit.pl
   have hql := fv.fit.pl
   have HTA := Lib.hid fun w1 (hb : Below w.heap.size w w1) => toUrl_walk u pv w1 (hP.below hb) hpl
   have HTB := Lib.hid fun w1 (hb : Below w.heap.size w w1) => toUrl_walk v qv w1 (hQ.below hb) hql
   have HSP := Lib.hid fun p q w1 (hp : PathAt w1 p u.path) (hq : PathAt w1 q v.path) => specOriginSame_walk u v p q w1 fu fv hp hq
   have HIM := Lib.hid fun p q w1 (hp : PathAt w1 p u.path) (hq : PathAt w1 q v.path) (hb : Below w.heap.size w w1) => implOriginSame_walk u v p q w1 fu fv hp hq (hT.below hb)
   have HE1 := Lib.hid fun p q w1 (hp : PathAt w1 p u.path) (hq : PathAt w1 q u.path) => eqUrl_walk u p q w1 hp hq hpl
   have HE2 := Lib.hid fun p q w1 (hp : PathAt w1 p v.path) (hq : PathAt w1 q v.path) => eqUrl_walk v p q w1 hp hq hql
   rw [hs2] at HZ2
   generalize m - (szU v : Int) = n at HZ2 hd2
   generalize sameV u v = z at HSP HIM
   have hzz : (z != z) = false := by cases z <;> rfl
   clear hs2 hy fu fv HZV HM hux HVX HZU
   unfold uCells at *
   go_enter Tryz.func5, Tryz.ntmps5
   go_upto_region 2 with fail
   generalize (w.alloc _).alloc _ = w1 at K1 K2 HW1 ⊢
   generalize w.heap.size + 1 = g at K2 ⊢
   have kc := cells13 K1
   go_wp2_with fail
   refine (HZ1.out _ HW1.out).mono ?_
   rintro e w2 ⟨rfl, hb2⟩
   clear kc
   have K12 := blk_below K1 hb2
   have K22 := blk_below K2 hb2
   have HW2 := Lib.hid (below_then HW1.out HW1.out.size hb2)
   clear K1 K2 HW1 hb2
   have kc := cells13 K22
   go_wp2_with fail
   refine (HZ2.out _ HW2.out).mono ?_
   rintro e w3 ⟨rfl, hb3⟩
   clear kc
   have K13 := blk_below K12 hb3
   have K23 := blk_below K22 hb3
   have HW3 := Lib.hid (below_then HW2.out HW2.out.size hb3)
   clear K12 K22 HW2 hb3
   go_upto_region 8 with fail
   go_cut [6] (fun x wc => x = .bool z ∧ ∃ w7, w7 = wc ∧ w7.heap[w.heap.size]? = some (.cells #[.string (B u.sch), .string (B u.usr), .string (B u.pas), .int .i64 u.hk, .string (B u.hn), .int .i64 u.ha, .int .i64 u.port, pv, .string (B u.opq), .bool u.hq, .string (B u.qry), .bool u.hf, .string (B u.frg)] 26 (0, 0)) ∧ w7.heap[g]? = some (.cells #[.string (B v.sch), .string (B v.usr), .string (B v.pas), .int .i64 v.hk, .string (B v.hn), .int .i64 v.ha, .int .i64 v.port, qv, .string (B v.opq), .bool v.hq, .string (B v.qry), .bool v.hf, .string (B v.frg)] 26 (0, 0)) ∧ Below w.heap.size w w7)
   case first =>
    have D1 : w3.drew.heap[w.heap.size]? = _ := K13
    have D2 : w3.drew.heap[g]? = _ := K23
    have HW4 := Lib.hid (below_drew HW3.out)
    have kd1 := cells13 D1
    have kd2 := cells13 D2
    go_region_with (first | ((go_at_call 11; with_reducible refine (HTA.out _ HW4.out).mono ?_; rintro e w5 ⟨q1, rfl, hQ1, hb5⟩; have K15 := blk_below D1 hb5; have K25 := blk_below D2 hb5; have HW5 := Lib.hid (below_then HW4.out HW4.out.size hb5); have kz5 := cells13 K25; clear hb5)) | ((go_at_call 11; with_reducible refine (HTB.out _ HW5.out).mono ?_; rintro e w6 ⟨q2, rfl, hQ2, hb6⟩; have hQ1' := hQ1.below hb6; have K16 := blk_below K15 hb6; have K26 := blk_below K25 hb6; have HW6 := Lib.hid (below_then HW5.out HW5.out.size hb6); clear hb6)) | ((go_at_call 17; refine (HSP.out _ _ _ hQ1' hQ2).mono ?_; rintro e w7 ⟨rfl, hb7⟩; have K17 := blk_below K16 hb7; have K27 := blk_below K26 hb7; have HW7 := Lib.hid (below_then HW6.out HW6.out.size hb7); clear hb7)))
    all_goals
     go_wp2
     go_meet
     case rel => exact ⟨rfl, _, rfl, K17, K27, HW7.out⟩
   case rest =>
    obtain ⟨rfl, w7, rfl, K17, K27, hw7⟩ := hcut
    have HW7 := Lib.hid hw7
    clear hw7 K13 K23 HW3
    have kc := cells13 K17
    go_wp2_with fail
    refine (HTA.out _ HW7.out).mono ?_
    rintro e w8a ⟨q3, rfl, hQ3, hb8⟩
    clear kc
    have hQ3' := hQ3
    obtain ⟨A3, c3, rfl, _, _⟩ := hQ3
    have hal := below_alloc (Below.refl _ w8a) (.cells (uCells u (.slice A3 u.path.length c3)) 33)
    have K78 := blk_new w8a (.cells (uCells u (.slice A3 u.path.length c3)) 33)
    have hb9 := below_then hb8 hb8.size hal
    have K18 := blk_below K17 hb9
    have K28 := blk_below K27 hb9
    have HW8 := Lib.hid (below_then HW7.out HW7.out.size hb9)
    have HQ8 := Lib.hid (hQ3'.below hal)
    clear hal hb8 hb9 hQ3' K17 K27 HW7
    unfold uCells at K78 K18 K28 HW8 HQ8
    go_upto_region 10 with fail
    generalize w8a.alloc _ = w8 at K78 K18 K28 HW8 HQ8 ⊢
    generalize w8a.heap.size = g7 at K78 ⊢
    have kc := cells13 K28
    go_wp2_with fail
    refine (HTB.out _ HW8.out).mono ?_
    rintro e w9a ⟨q4, rfl, hQ4, hb9⟩
    clear kc
    have hQ4' := hQ4
    obtain ⟨A4, c4, rfl, _, _⟩ := hQ4
    have hal := below_alloc (Below.refl _ w9a) (.cells (uCells v (.slice A4 v.path.length c4)) 33)
    have K89 := blk_new w9a (.cells (uCells v (.slice A4 v.path.length c4)) 33)
    have hbx := below_then hb9 hb9.size hal
    have K19 := blk_below K18 hbx
    have K29 := blk_below K28 hbx
    have K79 := blk_below K78 hbx
    have HW9 := Lib.hid (below_then HW8.out HW8.out.size hbx)
    have HQ9 := Lib.hid (HQ8.out.below hbx)
    have HR9 := Lib.hid (hQ4'.below hal)
    clear hal hb9 hbx hQ4' K18 K28 K78 HW8 HQ8
    unfold uCells at K89 K19 K29 K79 HW9 HQ9 HR9
    go_upto_region 11 with fail
    generalize w9a.alloc _ = w9 at K89 K19 K29 K79 HW9 HQ9 HR9 ⊢
    generalize w9a.heap.size = g8 at K89 ⊢
    have kc1 := cells13 K79
    have kc2 := cells13 K89
    go_wp2_with fail
    refine (HIM.out _ _ _ HQ9.out HR9.out HW9.out).mono ?_
    rintro e w10 ⟨rfl, hb10⟩
    clear kc1 kc2
    have HQ10 := Lib.hid (HQ9.out.below hb10)
    have HR10 := Lib.hid (HR9.out.below hb10)
    have HW10 := Lib.hid (below_then HW9.out HW9.out.size hb10)
    have K110 := blk_below K19 hb10
    have K210 := blk_below K29 hb10
    have K710 := blk_below K79 hb10
    have K810 := blk_below K89 hb10
    clear K19 K29 K79 K89 HQ9 HR9 HW9 hb10
    go_upto_if 39 with fail
    go_cut [39] (fun x wc => x = .bool false ∧ ∃ w12, w12 = wc ∧ w12.heap[w.heap.size]? = some (.cells #[.string (B u.sch), .string (B u.usr), .string (B u.pas), .int .i64 u.hk, .string (B u.hn), .int .i64 u.ha, .int .i64 u.port, pv, .string (B u.opq), .bool u.hq, .string (B u.qry), .bool u.hf, .string (B u.frg)] 26 (0, 0)) ∧ w12.heap[g]? = some (.cells #[.string (B v.sch), .string (B v.usr), .string (B v.pas), .int .i64 v.hk, .string (B v.hn), .int .i64 v.ha, .int .i64 v.port, qv, .string (B v.opq), .bool v.hq, .string (B v.qry), .bool v.hf, .string (B v.frg)] 26 (0, 0)) ∧ w12.heap[g7]? = some (.cells #[.string (B u.sch), .string (B u.usr), .string (B u.pas), .int .i64 u.hk, .string (B u.hn), .int .i64 u.ha, .int .i64 u.port, .slice A3 u.path.length c3, .string (B u.opq), .bool u.hq, .string (B u.qry), .bool u.hf, .string (B u.frg)] 33 (0, 0)) ∧ w12.heap[g8]? = some (.cells #[.string (B v.sch), .string (B v.usr), .string (B v.pas), .int .i64 v.hk, .string (B v.hn), .int .i64 v.ha, .int .i64 v.port, .slice A4 v.path.length c4, .string (B v.opq), .bool v.hq, .string (B v.qry), .bool v.hf, .string (B v.frg)] 33 (0, 0)) ∧ PathAt w12 (.slice A3 u.path.length c3) u.path ∧ PathAt w12 (.slice A4 v.path.length c4) v.path ∧ Below w.heap.size w w12)
    case first =>
     have D1 : w10.drew.heap[_]? = _ := K110
     have D2 : w10.drew.heap[_]? = _ := K210
     have D7 : w10.drew.heap[_]? = _ := K710
     have D8 : w10.drew.heap[_]? = _ := K810
     have HWd := Lib.hid (below_drew HW10.out)
     have kd1 := cells13 D1
     have kd2 := cells13 D7
     go_region_with (first | ((go_at_call 11; refine (HTA.out _ HWd.out).mono ?_; rintro e wa ⟨qa, rfl, hQa, hba⟩; have HQa := Lib.hid (PathAt.below (w := w10.drew) (HQ10.out.below (below_drew (Below.refl _ _))) hba); have HRa := Lib.hid (PathAt.below (w := w10.drew) (HR10.out.below (below_drew (Below.refl _ _))) hba); have L1 := blk_below D1 hba; have L2 := blk_below D2 hba; have L7 := blk_below D7 hba; have L8 := blk_below D8 hba; have HWa := Lib.hid (below_then HWd.out HWd.out.size hba); have kza := cells13 L7; clear hba)) | ((go_at_call 14; refine (HE1.out _ _ _ HQa.out hQa).mono ?_; rintro e w12 ⟨rfl, hbb⟩; have K112 := blk_below L1 hbb; have K212 := blk_below L2 hbb; have K712 := blk_below L7 hbb; have K812 := blk_below L8 hbb; have HQ12 := Lib.hid (HQa.out.below hbb); have HR12 := Lib.hid (HRa.out.below hbb); have HW12 := Lib.hid (below_then HWa.out HWa.out.size hbb); clear hbb)))
     all_goals
      go_wp2
      go_meet
      case rel => exact ⟨rfl, _, rfl, K112, K212, K712, K812, HQ12.out, HR12.out, HW12.out⟩
    case rest =>
     obtain ⟨rfl, w12, rfl, K112, K212, K712, K812, hq12, hr12, hw12⟩ := hcut
     have HQ12 := Lib.hid hq12
     have HR12 := Lib.hid hr12
     have HW12 := Lib.hid hw12
     clear hq12 hr12 hw12 K110 K210 K710 K810 HQ10 HR10 HW10
     go_upto_region 16 with fail
     have D1 : w12.drew.heap[_]? = _ := K112
     have D2 : w12.drew.heap[_]? = _ := K212
     have D7 : w12.drew.heap[_]? = _ := K712
     have D8 : w12.drew.heap[_]? = _ := K812
     have HWd := Lib.hid (below_drew HW12.out)
     have kd1 := cells13 D2
     have kd2 := cells13 D8
     go_region_with (first | ((go_at_call 11; refine (HTB.out _ HWd.out).mono ?_; rintro e wa ⟨qa, rfl, hQa, hba⟩; have HQa := Lib.hid (PathAt.below (w := w12.drew) (HQ12.out.below (below_drew (Below.refl _ _))) hba); have HRa := Lib.hid (PathAt.below (w := w12.drew) (HR12.out.below (below_drew (Below.refl _ _))) hba); have L1 := blk_below D1 hba; have L2 := blk_below D2 hba; have L7 := blk_below D7 hba; have L8 := blk_below D8 hba; have HWa := Lib.hid (below_then HWd.out HWd.out.size hba); have kza := cells13 L8; clear hba)) | ((go_at_call 14; refine (HE2.out _ _ _ HRa.out hQa).mono ?_; rintro e w13 ⟨rfl, hbb⟩; have K113 := blk_below L1 hbb; have K213 := blk_below L2 hbb; have K713 := blk_below L7 hbb; have K813 := blk_below L8 hbb; have HQ13 := Lib.hid (HQa.out.below hbb); have HR13 := Lib.hid (HRa.out.below hbb); have HW13 := Lib.hid (below_then HWa.out HWa.out.size hbb); clear hbb)))
     all_goals
      go_wp2
      go_ret
      exact ⟨rfl, HW13.out⟩
  ·have hs2 : szV v m = -1 := by rw [HZV.out, if_neg hy]
   rw [hs2] at HZ2
   clear hs2 hy HZV HM hux HVX HZU hP hT
   unfold uCells at *
   go_enter Tryz.func5, Tryz.ntmps5
   go_upto_region 2 with fail
   generalize (w.alloc _).alloc _ = w1 at K1 K2 HW1 ⊢
   generalize w.heap.size + 1 = g at K2 ⊢
   have kc := cells13 K1
   go_wp2_with fail
   refine (HZ1.out _ HW1.out).mono ?_
   rintro e w2 ⟨rfl, hb2⟩
   clear kc
   have K12 := blk_below K1 hb2
   have K22 := blk_below K2 hb2
   have HW2 := Lib.hid (below_then HW1.out HW1.out.size hb2)
   clear K1 K2 HW1 hb2
   have kc := cells13 K22
   go_wp2_with fail
   refine (HZ2.out _ HW2.out).mono ?_
   rintro e w3 ⟨rfl, hb3⟩
   have HW3 := Lib.hid (below_then HW2.out HW2.out.size hb3)
   clear kc K12 K22 HW2 hb3
   go_wp2
   go_ret
   exact ⟨rfl, HW3.out⟩
 ·have hs : szV u 1048576 = -1 := by unfold szV; rw [if_neg (by omega)]
  rw [hs] at HZ1
  clear hs hz hP hQ hT hu hv
  unfold uCells at *
  go_enter Tryz.func5, Tryz.ntmps5
  go_upto_region 2 with fail
  generalize (w.alloc _).alloc _ = w1 at K1 K2 HW1 ⊢
  generalize w.heap.size + 1 = g at K2 ⊢
  have kc := cells13 K1
  go_wp2_with fail
  refine (HZ1.out _ HW1.out).mono ?_
  rintro e w2 ⟨rfl, hb2⟩
  clear kc
  have K12 := blk_below K1 hb2
  have K22 := blk_below K2 hb2
  have HW2 := Lib.hid (below_then HW1.out HW1.out.size hb2)
  clear K1 K2 HW1 hb2
  go_wp2
  go_ret
  exact ⟨rfl, HW2.out⟩
end Go.Proofs.YtndobphgeiamhaaGreatDoor.H
