/- Texts of this claim, joined: HUrlK, HSite, HUrlR, HUrlN, DUrlS, WSized. Conditions: each theorem's own. -/
import Derived.Test.YtopcpbokfngpeaaGreatDoorA16
import Derived.Test.YtopcpbokfngpeaaGreatDoorA02
import Derived.Deep.RegionWith
import Derived.Test.YtopcpbokfngpeaaGreatDoorA10
import Derived.Test.YtopcpbokfngpeaaGreatDoorA11
import Derived.Test.YtopcpbokfngpeaaGreatDoorA01
import Derived.Deep.QuietTactic
import Derived.SizedLaws
import Derived.ChangeSlices
/- OriginSame of both sides: what the calls come to; the package-level variables read as their tables. -/
set_option linter.unusedVariables false
namespace Go.Proofs.YtopcpbokfngpeaaGreatDoor.H
open Go.RowKit Go.Proofs.YtopcpbokfngpeaaGreatDoorW.PrintWords Go.Proofs.YtopcpbokfngpeaaGreatDoor.Base Go.Proofs.YtopcpbokfngpeaaGreatDoor.Pure
def ogB (x y : Og) : Bool := x.sch == y.sch && ((x.hk == y.hk && (x.hn == y.hn && x.ha == y.ha)) && x.port == y.port)
theorem eqA_og (d : Nat) (w : World) (a b : Og) :
  (Op.equalIn (d + 3) 36 (.agg (oCells a)) (.agg (oCells b))).run Tryz.prog w = .ok (ogB a b) w := by
 have e : ogB a b = ((B a.sch).toList == (B b.sch).toList && ((a.hk == b.hk && ((B a.hn).toList == (B b.hn).toList && (a.ha == b.ha))) && (a.port == b.port))) := by unfold ogB; simp only [B_toList]
 rw [e]
 unfold oCells
 refine eqA_of Tryz.underlying36 (by kernel_rfl) ?_
 refine eqf_cons (by rfl) hrq hrq hrq ?_
 refine eqf_cons (by rfl) hrq hrq (eqA_host _ _ _ _ _ _ _ _) ?_
 exact eqf_last (by rfl) hrq hrq hrq
def hostedV (a b : Ur) : Bool := okU a && (okU b && (a.hk != 0))
def sameV (a b : Ur) : Bool := okU a && (okU b && (decide (0 ≤ ownP a.sch) && ogB (originU a) (originU b)))
theorem same_host (a b : Ur) : sameV a b = (hostedV a b && ogB (originV a) (originV b)) := by
 unfold sameV hostedV originV
 cases ha : okU a with
 | false => rfl
 | true =>
  cases hb : okU b with
  | false => rfl
  | true =>
   have h := ok_kind a ha
   rw [if_pos rfl, if_pos rfl]
   simp only [Bool.true_and]
   congr 1
   by_cases q : a.hk = 0
   ·rw [decide_eq_false (by have := h.1 q; omega), q]; rfl
   ·rw [decide_eq_true (by omega)]; exact (bne_iff_ne.mpr q).symm
set_option maxHeartbeats 2000000 in
set_option maxRecDepth 100000 in
theorem hosted_walk (a b : Ur) (pv qv : Value) (w : World) (ha : FitP a) (hb : FitP b) (hA : PathAt w pv a.path) (hB : PathAt w qv b.path) (hT : Tabs w) :
  Calls Tryz.prog 34 #[.agg (uCells a pv), .agg (uCells b qv)] w fun e w' => e = .returned (.bool (hostedV a b)) ∧ Below w.heap.size w w' := by
 have HA := Lib.hid fun w1 (k : Below w.heap.size w w1) => implUrlOk_walk a pv w1 ha (hA.below k) (hT.below k)
 have HB := Lib.hid fun w1 (k : Below w.heap.size w w1) => implUrlOk_walk b qv w1 hb (hB.below k) (hT.below k)
 obtain ⟨K1, K2, HW⟩ := two_objs w (.cells (uCells a pv) 27) (.cells (uCells b qv) 27)
 have HX : Hid (hostedV a b = (okU a && (okU b && (a.hk != 0)))) := Lib.hid rfl
 generalize hostedV a b = z at HX ⊢
 clear ha hb hA hB hT
 generalize okU a = x at HA HX
 generalize okU b = y at HB HX
 unfold uCells at *
 go_enter Tryz.func34, Tryz.ntmps34
 go_upto_region 1 with fail
 generalize (w.alloc _).alloc _ = w1 at K1 K2 HW ⊢
 generalize w.heap.size + 1 = g at K2 ⊢
 have kc1 := cells13 K1
 go_wp2_with fail
 refine (HA.out _ HW).mono ?_
 rintro e w2 ⟨rfl, hb2⟩
 have K12 := blk_below K1 hb2
 have K22 := blk_below K2 hb2
 have HW2 := below_then HW HW.size hb2
 clear kc1 K1 K2 HW hb2
 cases x with
 | false =>
  go_wp2
  go_ret
  exact ⟨by rw [HX.out]; rfl, HW2⟩
 | true =>
  have kc2 := cells13 K22
  go_wp2_with fail
  refine (HB.out _ HW2).mono ?_
  rintro e w3 ⟨rfl, hb3⟩
  have K13 := blk_below K12 hb3
  have HW3 := Lib.hid (below_then HW2 HW2.size hb3)
  clear kc2 K12 K22 HW2 hb3
  cases y with
  | false =>
   go_wp2
   go_ret
   exact ⟨by rw [HX.out]; rfl, HW3.out⟩
  | true =>
   have kc1 := cells13 K13
   obtain ⟨q, hq⟩ : ∃ q, (a.hk == 0) = q := ⟨_, rfl⟩
   have HQ := Lib.hid hq
   cases q <;> clear hq <;> have hq := HQ.out <;> go_wp2 <;> go_ret <;> exact ⟨by rw [HX.out, bne, hq]; rfl, HW3.out⟩
set_option maxHeartbeats 4000000 in
set_option maxRecDepth 100000 in
theorem implOriginSame_walk (a b : Ur) (pv qv : Value) (w : World) (ha : FitP a) (hb : FitP b) (hA : PathAt w pv a.path) (hB : PathAt w qv b.path) (hT : Tabs w) :
  Calls Tryz.prog 9 #[.agg (uCells a pv), .agg (uCells b qv)] w fun e w' => e = .returned (.bool (sameV a b)) ∧ Below w.heap.size w w' := by
 have HH := Lib.hid fun w1 (k : Below w.heap.size w w1) => hosted_walk a b pv qv w1 ha hb (hA.below k) (hB.below k) (hT.below k)
 have HA := Lib.hid fun w1 (k : Below w.heap.size w w1) => implOriginOf_walk a pv w1 ha (hA.below k) (hT.below k)
 have HB := Lib.hid fun w1 (k : Below w.heap.size w w1) => implOriginOf_walk b qv w1 hb (hB.below k) (hT.below k)
 obtain ⟨K1, K2, HW⟩ := two_objs w (.cells (uCells a pv) 27) (.cells (uCells b qv) 27)
 rw [same_host a b]
 generalize hostedV a b = z at HH ⊢
 clear ha hb hA hB hT
 generalize originV a = x at HA ⊢
 generalize originV b = y at HB ⊢
 have HE := fun d w => eqA_og d w x y
 obtain ⟨q, HQ⟩ : ∃ q, Hid (ogB x y = q) := ⟨_, Lib.hid rfl⟩
 rw [HQ.out] at HE ⊢
 obtain ⟨x', HX⟩ : ∃ x', Hid (oCells x = x') := ⟨_, Lib.hid rfl⟩
 obtain ⟨y', HY⟩ : ∃ y', Hid (oCells y = y') := ⟨_, Lib.hid rfl⟩
 simp only [HX.out] at HA HE
 simp only [HY.out] at HB HE
 unfold uCells at *
 go_enter Tryz.func9, Tryz.ntmps9
 go_upto_region 1 with fail
 generalize (w.alloc _).alloc _ = w1 at K1 K2 HW ⊢
 generalize w.heap.size + 1 = g at K2 ⊢
 have D1 : w1.drew.heap[w.heap.size]? = _ := K1
 have D2 : w1.drew.heap[g]? = _ := K2
 have kd1 := cells13 D1
 have kd2 := cells13 D2
 have HW1 := Lib.hid (below_drew HW)
 clear K1 K2 HW
 cases z with
 | false =>
  go_region_with (first | ((go_at_call 34; refine (HH.out _ HW1.out).mono ?_; rintro e w2 ⟨rfl, hb2⟩; have HW2 := Lib.hid (below_then HW1.out HW1.out.size hb2))) | fail)
  all_goals
   go_wp2
   go_ret
   exact ⟨rfl, HW2.out⟩
 | true =>
  go_region_with (first | ((go_at_call 34; refine (HH.out _ HW1.out).mono ?_; rintro e w2 ⟨rfl, hb2⟩; have HW2 := Lib.hid (below_then HW1.out HW1.out.size hb2); have K12 := blk_below D1 hb2; have K22 := blk_below D2 hb2; have kz1 := cells13 K12; have kz2 := cells13 K22; clear hb2)) | ((go_at_call 21; with_reducible refine (HA.out _ HW2.out).mono ?_; rintro e w3 ⟨rfl, hb3⟩; have HW3 := Lib.hid (below_then HW2.out HW2.out.size hb3); have kz3 := cells13 (blk_below K22 hb3); clear hb3)) | ((go_at_call 21; with_reducible refine (HB.out _ HW3.out).mono ?_; rintro e w4 ⟨rfl, hb4⟩; have HW4 := Lib.hid (below_then HW3.out HW3.out.size hb4); clear hb4)))
  all_goals
   go_wp2
   go_ret
   exact ⟨rfl, HW4.out⟩
set_option maxHeartbeats 4000000 in
set_option maxRecDepth 100000 in
theorem specL4Same_walk (a b : Ur) (pv qv : Value) (w : World) :
  Calls Tryz.prog 35 #[.agg (uCells a pv), .agg (uCells b qv)] w fun e w' => e = .returned (.bool (decide (0 ≤ ownP a.sch) && ogB (originU a) (originU b))) ∧ Below w.heap.size w w' := by
 have HO := Lib.hid fun w1 => specOwn_walk a.sch w1
 have HA := Lib.hid fun w1 => specOrigin_walk a pv w1
 have HB := Lib.hid fun w1 => specOrigin_walk b qv w1
 obtain ⟨K1, K2, HW⟩ := two_objs w (.cells (uCells a pv) 27) (.cells (uCells b qv) 27)
 generalize ownP a.sch = n at HO ⊢
 obtain ⟨d, HD⟩ : ∃ d, Hid (decide (0 ≤ n) = d) := ⟨_, Lib.hid rfl⟩
 rw [HD.out]
 generalize originU a = x at HA ⊢
 generalize originU b = y at HB ⊢
 have HE := fun d w => eqA_og d w x y
 obtain ⟨q, HQ⟩ : ∃ q, Hid (ogB x y = q) := ⟨_, Lib.hid rfl⟩
 rw [HQ.out] at HE ⊢
 obtain ⟨x', HX⟩ : ∃ x', Hid (oCells x = x') := ⟨_, Lib.hid rfl⟩
 obtain ⟨y', HY⟩ : ∃ y', Hid (oCells y = y') := ⟨_, Lib.hid rfl⟩
 simp only [HX.out] at HA HE
 simp only [HY.out] at HB HE
 unfold uCells at *
 go_enter Tryz.func35, Tryz.ntmps35
 go_upto_region 1 with fail
 generalize (w.alloc _).alloc _ = w1 at K1 K2 HW ⊢
 generalize w.heap.size + 1 = g at K2 ⊢
 have D1 : w1.drew.heap[w.heap.size]? = _ := K1
 have D2 : w1.drew.heap[g]? = _ := K2
 have kd1 := cells13 D1
 have kd2 := cells13 D2
 have HW1 := Lib.hid (below_drew HW)
 clear K1 K2 HW
 cases d with
 | true =>
  have hd := HD.out
  go_region_with (first | ((go_at_call 41; refine (HO.out _).mono ?_; rintro e w2 ⟨rfl, hw2⟩; subst w2)) | ((go_at_call 60; with_reducible refine (HA.out _).mono ?_; rintro e w3 ⟨rfl, hb3⟩; have HW3 := Lib.hid (below_then HW1.out HW1.out.size hb3); have kz3 := cells13 (blk_below D2 hb3); clear hb3)) | ((go_at_call 60; with_reducible refine (HB.out _).mono ?_; rintro e w4 ⟨rfl, hb4⟩; have HW4 := Lib.hid (below_then HW3.out HW3.out.size hb4); clear hb4)))
  all_goals
   go_wp2
   go_ret
   exact ⟨rfl, HW4.out⟩
 | false =>
  have hd := HD.out
  go_region_with (first | ((go_at_call 41; refine (HO.out _).mono ?_; rintro e w2 ⟨rfl, hw2⟩; subst w2)) | fail)
  all_goals
   go_wp2
   go_ret
   exact ⟨rfl, HW1.out⟩
set_option maxHeartbeats 4000000 in
set_option maxRecDepth 100000 in
theorem specOriginSame_walk (a b : Ur) (pv qv : Value) (w : World) (ha : FitP a) (hb : FitP b) (hA : PathAt w pv a.path) (hB : PathAt w qv b.path) :
  Calls Tryz.prog 10 #[.agg (uCells a pv), .agg (uCells b qv)] w fun e w' => e = .returned (.bool (sameV a b)) ∧ Below w.heap.size w w' := by
 have HA := Lib.hid fun w1 (k : Below w.heap.size w w1) => specUrlOk_walk a pv w1 ha (hA.below k)
 have HB := Lib.hid fun w1 (k : Below w.heap.size w w1) => specUrlOk_walk b qv w1 hb (hB.below k)
 have HS := Lib.hid fun w1 => specL4Same_walk a b pv qv w1
 obtain ⟨K1, K2, HW⟩ := two_objs w (.cells (uCells a pv) 27) (.cells (uCells b qv) 27)
 have HX : Hid (sameV a b = (okU a && (okU b && (decide (0 ≤ ownP a.sch) && ogB (originU a) (originU b))))) := Lib.hid rfl
 generalize sameV a b = z at HX ⊢
 clear ha hb hA hB
 generalize okU a = x at HA HX
 generalize okU b = y at HB HX
 generalize (decide (0 ≤ ownP a.sch) && ogB (originU a) (originU b)) = s at HS HX
 unfold uCells at *
 go_enter Tryz.func10, Tryz.ntmps10
 go_upto_region 1 with fail
 generalize (w.alloc _).alloc _ = w1 at K1 K2 HW ⊢
 generalize w.heap.size + 1 = g at K2 ⊢
 have kc1 := cells13 K1
 go_wp2_with fail
 refine (HA.out _ HW).mono ?_
 rintro e w2 ⟨rfl, hb2⟩
 have K12 := blk_below K1 hb2
 have K22 := blk_below K2 hb2
 have HW2 := below_then HW HW.size hb2
 clear kc1 K1 K2 HW hb2
 cases x with
 | false =>
  go_wp2
  go_ret
  exact ⟨by rw [HX.out]; rfl, HW2⟩
 | true =>
  have kc2 := cells13 K22
  go_wp2_with fail
  refine (HB.out _ HW2).mono ?_
  rintro e w3 ⟨rfl, hb3⟩
  have K13 := blk_below K12 hb3
  have K23 := blk_below K22 hb3
  have HW3 := below_then HW2 HW2.size hb3
  clear kc2 K12 K22 HW2 hb3
  cases y with
  | false =>
   go_wp2
   go_ret
   exact ⟨by rw [HX.out]; rfl, HW3⟩
  | true =>
   have kc1 := cells13 K13
   have kc2 := cells13 K23
   go_wp2_with fail
   refine (HS.out _).mono ?_
   rintro e w4 ⟨rfl, hb4⟩
   have HW4 := Lib.hid (below_then HW3 HW3.size hb4)
   clear kc1 kc2 K13 K23 HW3 hb4
   go_wp2
   go_ret
   exact ⟨by rw [HX.out]; rfl, HW4.out⟩
end Go.Proofs.YtopcpbokfngpeaaGreatDoor.H
/- The pure side of the functions of hosts, paths and texts: what the printed functions tell, as plain lists of bytes. Conditions: each theorem's own. -/
set_option linter.unusedVariables false
set_option linter.unusedSimpArgs false
namespace Go.Proofs.YtopcpbokfngpeaaGreatDoor.Pure
open Go.RowKit Go.Proofs.YtopcpbokfngpeaaGreatDoor.H Go.Proofs.YtopcpbokfngpeaaGreatDoor.Lh Go.Proofs.YtopcpbokfngpeaaGreatDoorW.PrintWords Go.Proofs.YtopcpbokfngpeaaGreatDoorW.PrintLast Go.Proofs.YtopcpbokfngpeaaGreatDoor.Base Go.Proofs.YtopcpbokfngpeaaGreatDoor.Lp

def siteB (l : Bs) : Bs := joinB [46] ((parts l).drop ((parts l).length - 2))
theorem joinB_le (sep : Bs) (hs : sep.length = 1) (P : List Bs) (n m : Nat) (h1 : P.length ≤ n) (h2 : ∀ x ∈ P, x.length ≤ m) : (joinB sep P).length ≤ n * m + n := by
 rw [joinB_len, hs]
 have : (P.map List.length).sum ≤ P.length * m := by
  induction P with
  | nil => simp
  | cons a t ih =>
   have ha := h2 a (by simp)
   have := ih (by simp at h1; omega) (fun x hx => h2 x (by simp [hx]))
   simp only [List.map_cons, List.sum_cons, List.length_cons]
   rw [Nat.add_mul]; omega
 have h3 : P.length * m ≤ n * m := Nat.mul_le_mul_right _ h1
 omega
theorem spec_Site (l : Bs) (hl : l.length ≤ 1048576) : Ev (fun k => (spec_l2Parts.f k (B l)).bind fun t => (if (t.length : Int) < 2 then (if 0 < (t.length : Int) then (some (rdOf ByteArray.empty t 0)) else (none)) else (if 0 ≤ (wrap64 ((t.length : Int) - 2)) then (if (wrap64 ((t.length : Int) - 2)) < (t.length : Int) then (if (rdOf ByteArray.empty t (wrap64 ((t.length : Int) - 2))).size + 1 ≤ 9223372036854775807 then (if 0 ≤ (wrap64 ((t.length : Int) - 1)) then (if (wrap64 ((t.length : Int) - 1)) < (t.length : Int) then (if ((rdOf ByteArray.empty t (wrap64 ((t.length : Int) - 2))) ++ (⟨#[46]⟩ : ByteArray)).size + (rdOf ByteArray.empty t (wrap64 ((t.length : Int) - 1))).size ≤ 9223372036854775807 then (some (((rdOf ByteArray.empty t (wrap64 ((t.length : Int) - 2))) ++ (⟨#[46]⟩ : ByteArray)) ++ (rdOf ByteArray.empty t (wrap64 ((t.length : Int) - 1))))) else (none)) else (none)) else (none)) else (none)) else (none)) else (none)))) (B (siteB l)) := by
 refine ev_bind (spec_Parts l (by omega)) ?_
 have hne := parts_ne l
 have hlen := parts_len l
 have hmem := parts_mem_len l
 unfold siteB
 generalize parts l = P at hne hlen hmem ⊢
 have hp : 0 < P.length := List.length_pos_iff.2 hne
 simp only [List.length_map]
 by_cases c : P.length < 2
 ·match P, hp, c with
  | [x], _, _ =>
   simp only [if_pos (show (([x] : List Bs).length : Int) < 2 by simp), if_pos (show 0 < (([x] : List Bs).length : Int) by simp)]
   exact Ev.now _
 ·have w2 : wrap64 ((P.length : Int) - 2) = ((P.length - 2 : Nat) : Int) := by rw [w64 (by omega) (by omega)]; omega
  have w1 : wrap64 ((P.length : Int) - 1) = ((P.length - 1 : Nat) : Int) := by rw [w64 (by omega) (by omega)]; omega
  have r2 := rd_parts P (P.length - 2) (by omega)
  have r1 := rd_parts P (P.length - 1) (by omega)
  have m2 := hmem _ (List.getElem_mem (show P.length - 2 < P.length by omega))
  have m1 := hmem _ (List.getElem_mem (show P.length - 1 < P.length by omega))
  have k46 : (⟨#[46]⟩ : ByteArray) = B [46] := rfl
  simp only [if_neg (show ¬ (P.length : Int) < 2 by omega), w2, w1, r2, r1, k46, B_append, B_size, List.length_append, List.length_singleton]
  simp only [if_pos (show (0 : Int) ≤ ((P.length - 2 : Nat) : Int) by omega), if_pos (show ((P.length - 2 : Nat) : Int) < (P.length : Int) by omega), if_pos (show (0 : Int) ≤ ((P.length - 1 : Nat) : Int) by omega), if_pos (show ((P.length - 1 : Nat) : Int) < (P.length : Int) by omega)]
  simp only [if_pos (show P[P.length - 2].length + 1 ≤ 9223372036854775807 by omega), if_pos (show P[P.length - 2].length + 1 + P[P.length - 1].length ≤ 9223372036854775807 by omega)]
  have e : P.drop (P.length - 2) = [P[P.length - 2], P[P.length - 1]] := by
   rw [List.drop_eq_getElem_cons (by omega)]
   have : P.length - 2 + 1 = P.length - 1 := by omega
   simp only [this]
   rw [List.drop_eq_getElem_cons (by omega), List.drop_eq_nil_of_le (by omega)]
  rw [e]
  have : joinB [46] [P[P.length - 2], P[P.length - 1]] = P[P.length - 2] ++ [46] ++ P[P.length - 1] := by simp [joinB]
  rw [this]
  exact Ev.now _
theorem impl_Site (l : Bs) (hl : l.length ≤ 1048576) : ((impl_labels.f (B l)).bind fun t => (if 0 ≤ (mx 0 (wrap64 ((t.length : Int) - 2))) then (if (mx 0 (wrap64 ((t.length : Int) - 2))) ≤ (t.length : Int) then ((strings_Join.f (t.drop ((mx 0 (wrap64 ((t.length : Int) - 2))) : Int).toNat) (⟨#[46]⟩ : ByteArray)).bind fun t217 => (some t217)) else (none)) else (none))) = some (B (siteB l)) := by
 rw [impl_Labels l (by omega), Option.bind_some, List.length_map]
 have hlen := parts_len l
 have hmem := parts_mem_len l
 unfold siteB
 generalize parts l = P at hlen hmem ⊢
 have e : mx 0 (wrap64 ((P.length : Int) - 2)) = ((P.length - 2 : Nat) : Int) := by
  rw [w64 (by omega) (by omega)]; unfold mx; split <;> omega
 rw [e, if_pos (by omega), if_pos (by omega), Int.toNat_natCast]
 have k46 : (⟨#[46]⟩ : ByteArray) = B [46] := rfl
 have hb : bss ((P.map B).drop (P.length - 2)) = P.drop (P.length - 2) := by
  rw [← List.map_drop]; unfold bss; rw [List.map_map]
  conv => rhs; rw [← List.map_id (P.drop (P.length - 2))]
  exact List.map_congr_left fun x _ => B_data x
 have hj := joinB_le [46] rfl (P.drop (P.length - 2)) 2 1048576 (by simp; omega) (fun x hx => by have := hmem x (List.mem_of_mem_drop hx); omega)
 have hf : strings_Join.f ((P.map B).drop (P.length - 2)) (B [46]) = some (B (joinB [46] (P.drop (P.length - 2)))) := by
  unfold strings_Join.f
  rw [B_data, hb, if_pos ⟨by simp, by simp; omega, by omega⟩]
 rw [k46, hf]; rfl
theorem hostSite_eq (n0 n2 : Int) (l : Bs) (hl : l.length ≤ 1048576) : ∃ r : ByteArray, Ev (fun k => spec_HostSite.f k n0 (B l) n2) r ∧ Ev (fun k => impl_HostSite.f k n0 (B l) n2) r := by
 obtain ⟨b, h1, h2, _, _⟩ := hostOk_eq n0 n2 l hl
 obtain ⟨r, p1, p2⟩ := hostPut_eq n0 n2 l hl
 unfold spec_HostSite.f impl_HostSite.f
 cases b with
 | false =>
  have hr : r = (⟨#[]⟩ : ByteArray) := by
   obtain ⟨K1, e1⟩ := p1
   obtain ⟨K2, e2⟩ := h1
   have a1 : spec_HostPut.f (max K1 K2) n0 (B l) n2 = some r := e1 (max K1 K2) (Nat.le_max_left _ _)
   have a2 : spec_HostOk.f (max K1 K2) n0 (B l) n2 = some false := e2 (max K1 K2) (Nat.le_max_right _ _)
   unfold spec_HostPut.f at a1
   rw [a2] at a1
   simp only [Option.bind_some, Bool.false_eq_true, if_false, Option.some.injEq] at a1
   exact a1.symm
  subst hr
  refine ⟨⟨#[]⟩, ev_bind h1 ?_, ev_bind h2 ?_⟩
  ·simp only [Bool.false_eq_true, if_false]; exact Ev.now _
  ·simp only [Bool.false_eq_true, if_false]
   refine Ev.step (fun k => by rw [impl_HostSite.j0]) ?_
   simp only [if_true]
   refine ev_bind p2 ?_
   exact Ev.now _
 | true =>
  by_cases c : n0 = 1
  ·have hb : (n0 != 1) = false := by simp [c]
   refine ⟨B (siteB l), ev_bind h1 ?_, ev_bind h2 ?_⟩
   ·simp only [if_true, if_pos c]
    exact spec_Site l hl
   ·simp only [if_true, hb]
    refine Ev.step (fun k => by rw [impl_HostSite.j0]) ?_
    simp only [Bool.false_eq_true, if_false]
    exact ev_of fun k => impl_Site l hl
  ·have hb : (n0 != 1) = true := by simp [c]
   refine ⟨r, ev_bind h1 ?_, ev_bind h2 ?_⟩
   ·simp only [if_true, if_neg c]
    refine ev_bind p1 ?_
    exact Ev.now _
   ·simp only [if_true, hb]
    refine Ev.step (fun k => by rw [impl_HostSite.j0]) ?_
    simp only [if_true]
    refine ev_bind p2 ?_
    exact Ev.now _

structure SiteOf (n0 : Int) (l : Bs) (n2 : Int) (s : Bs) : Prop where
 sp : ∀ w : World, Calls Tryz.prog 42 #[.agg #[.int .i64 n0, .string (B l), .int .i64 n2]] w fun e w' => e = .returned (.string (B s)) ∧ Below w.heap.size w w'
 im : ∀ w : World, TabMI w → Calls Tryz.prog 40 #[.agg #[.int .i64 n0, .string (B l), .int .i64 n2]] w fun e w' => e = .returned (.string (B s)) ∧ Below w.heap.size w w'
theorem site_ex (n0 n2 : Int) (l : Bs) (hl : l.length ≤ 1048576) : ∃ s, SiteOf n0 l n2 s := by
 obtain ⟨r, h1, h2⟩ := hostSite_eq n0 n2 l hl
 obtain ⟨k1, e1⟩ := h1.rounds
 obtain ⟨k2, e2⟩ := h2.rounds
 obtain ⟨s, rfl⟩ := exB r
 exact ⟨s, ⟨fun w => spec_HostSite.calls k1 _ _ _ _ w e1, fun w hT => impl_HostSite.calls k2 _ _ _ _ w hT e2⟩⟩

end Go.Proofs.YtopcpbokfngpeaaGreatDoor.Pure
/- A region that draws its order and only reads and calls: one walk in the order of the text serves every order. Conditions: each theorem's own. -/
set_option linter.unusedVariables false
namespace Go.Proofs.YtopcpbokfngpeaaGreatDoor.H
open Go.RowKit Go.Proofs.YtopcpbokfngpeaaGreatDoorW.PrintWords
theorem wp_region_below {P : Program} {id : Nat} {Q : Exit → Act → World → Prop} {a : Act} {w : World} {l : List Oper} (hm : P.follows .mixedOrders = true) (hB : Region.lexB .any l.toArray = true)
  (h : wpQuiet P l.toArray (fun w' => Below w.heap.size w w') (fun a' => ∀ w', Below w.heap.size w w' → Q .normal a' w') l a) : (Code.region id l.toArray true).wp P Q a w :=
 wp_region_quiet (C := fun w' => Below w.heap.size w w') hm hB (below_drew (Below.refl _ _)) (by simpa using h)
end Go.Proofs.YtopcpbokfngpeaaGreatDoor.H
/- SiteSame of both sides: what the calls come to; the package-level variables read as their tables. -/
set_option linter.unusedVariables false
namespace Go.Proofs.YtopcpbokfngpeaaGreatDoor.H
open Go.RowKit Go.Proofs.YtopcpbokfngpeaaGreatDoorW.PrintWords Go.Proofs.YtopcpbokfngpeaaGreatDoor.Base Go.Proofs.YtopcpbokfngpeaaGreatDoor.Pure
def siteSameV (a b : Ur) (s t : Bs) : Bool := okU a && (okU b && (decide (0 ≤ ownP a.sch) && (a.sch == b.sch && s == t)))
theorem site_host (a b : Ur) (s t : Bs) : siteSameV a b s t = (hostedV a b && (a.sch == b.sch && s == t)) := by
 unfold siteSameV hostedV
 cases ha : okU a with
 | false => rfl
 | true =>
  cases hb : okU b with
  | false => rfl
  | true =>
   have h := ok_kind a ha
   simp only [Bool.true_and]
   congr 1
   by_cases q : a.hk = 0
   ·rw [decide_eq_false (by have := h.1 q; omega), q]; rfl
   ·rw [decide_eq_true (by omega)]; exact (bne_iff_ne.mpr q).symm
set_option maxHeartbeats 4000000 in
set_option maxRecDepth 100000 in
theorem implSiteSame_walk (a b : Ur) (s t : Bs) (pv qv : Value) (w : World) (ha : FitP a) (hb : FitP b) (hs : SiteOf a.hk a.hn a.ha s) (ht : SiteOf b.hk b.hn b.ha t) (hA : PathAt w pv a.path) (hB : PathAt w qv b.path) (hT : Tabs w) :
  Calls Tryz.prog 14 #[.agg (uCells a pv), .agg (uCells b qv)] w fun e w' => e = .returned (.bool (siteSameV a b s t)) ∧ Below w.heap.size w w' := by
 have HH := Lib.hid fun w1 (k : Below w.heap.size w w1) => hosted_walk a b pv qv w1 ha hb (hA.below k) (hB.below k) (hT.below k)
 have HA := Lib.hid fun w1 (k : Below w.heap.size w w1) => hs.im w1 ⟨(hT.below k).m, (hT.below k).i⟩
 have HB := Lib.hid fun w1 (k : Below w.heap.size w w1) => ht.im w1 ⟨(hT.below k).m, (hT.below k).i⟩
 obtain ⟨K1, K2, hW⟩ := two_objs w (.cells (uCells a pv) 27) (.cells (uCells b qv) 27)
 rw [site_host a b]
 generalize hostedV a b = z at HH ⊢
 obtain ⟨p, HPP⟩ : ∃ p, Hid ((a.sch == b.sch) = p) := ⟨_, Lib.hid rfl⟩
 obtain ⟨q, HQQ⟩ : ∃ q, Hid ((s == t) = q) := ⟨_, Lib.hid rfl⟩
 rw [HPP.out, HQQ.out]
 clear ha hb hA hB hT hs ht
 unfold uCells at *
 have HW := Lib.hid hW
 clear hW
 go_enter Tryz.func14, Tryz.ntmps14
 go_upto_region 1 with fail
 generalize (w.alloc _).alloc _ = w1 at K1 K2 HW ⊢
 generalize w.heap.size + 1 = g at K2 ⊢
 cases z with
 | false =>
  refine wp_region_below (by kernel_rfl) (by kernel_rfl) ?_
  repeat (with_reducible refine wpQuiet_step (fun K hK => ?_); go_simp; first | (refine hK _ ?_; clear hK K) | (refine ⟨_, fun _ _ => rfl, hK _ ?_⟩; clear hK K) | (apply Exists.intro; refine ⟨fun wq hq => ?_, hK _ ?_⟩; (first | (go_at_call 34; with_reducible refine ((HH.out _ (below_then HW.out HW.out.size hq))).mono ?_; rintro e w3 ⟨rfl, hb3⟩; exact ⟨rfl, below_then hq hq.size hb3⟩) | (go_at_call 40; with_reducible refine ((HA.out _ (below_then HW.out HW.out.size hq))).mono ?_; rintro e w3 ⟨rfl, hb3⟩; exact ⟨rfl, below_then hq hq.size hb3⟩) | (go_at_call 40; with_reducible refine ((HB.out _ (below_then HW.out HW.out.size hq))).mono ?_; rintro e w3 ⟨rfl, hb3⟩; exact ⟨rfl, below_then hq hq.size hb3⟩) | (have kk1 := cells13 (blk_below K1 hq); have kk2 := cells13 (blk_below K2 hq); go_simp; with_reducible rfl)); clear hK K))
  refine wpQuiet_nil ?_
  intro w2 hb2
  go_wp2
  go_ret
  exact ⟨rfl, below_then HW.out HW.out.size hb2⟩
 | true =>
  have hpp := HPP.out
  cases p with
  | false =>
   refine wp_region_below (by kernel_rfl) (by kernel_rfl) ?_
   repeat (with_reducible refine wpQuiet_step (fun K hK => ?_); go_simp; first | (refine hK _ ?_; clear hK K) | (refine ⟨_, fun _ _ => rfl, hK _ ?_⟩; clear hK K) | (apply Exists.intro; refine ⟨fun wq hq => ?_, hK _ ?_⟩; (first | (go_at_call 34; with_reducible refine ((HH.out _ (below_then HW.out HW.out.size hq))).mono ?_; rintro e w3 ⟨rfl, hb3⟩; exact ⟨rfl, below_then hq hq.size hb3⟩) | (go_at_call 40; with_reducible refine ((HA.out _ (below_then HW.out HW.out.size hq))).mono ?_; rintro e w3 ⟨rfl, hb3⟩; exact ⟨rfl, below_then hq hq.size hb3⟩) | (go_at_call 40; with_reducible refine ((HB.out _ (below_then HW.out HW.out.size hq))).mono ?_; rintro e w3 ⟨rfl, hb3⟩; exact ⟨rfl, below_then hq hq.size hb3⟩) | (have kk1 := cells13 (blk_below K1 hq); have kk2 := cells13 (blk_below K2 hq); go_simp; with_reducible rfl)); clear hK K))
   refine wpQuiet_nil ?_
   intro w2 hb2
   go_wp2
   go_ret
   exact ⟨rfl, below_then HW.out HW.out.size hb2⟩
  | true =>
   have hqq := HQQ.out
   cases q with
   | false =>
    refine wp_region_below (by kernel_rfl) (by kernel_rfl) ?_
    repeat (with_reducible refine wpQuiet_step (fun K hK => ?_); go_simp; first | (refine hK _ ?_; clear hK K) | (refine ⟨_, fun _ _ => rfl, hK _ ?_⟩; clear hK K) | (apply Exists.intro; refine ⟨fun wq hq => ?_, hK _ ?_⟩; (first | (go_at_call 34; with_reducible refine ((HH.out _ (below_then HW.out HW.out.size hq))).mono ?_; rintro e w3 ⟨rfl, hb3⟩; exact ⟨rfl, below_then hq hq.size hb3⟩) | (go_at_call 40; with_reducible refine ((HA.out _ (below_then HW.out HW.out.size hq))).mono ?_; rintro e w3 ⟨rfl, hb3⟩; exact ⟨rfl, below_then hq hq.size hb3⟩) | (go_at_call 40; with_reducible refine ((HB.out _ (below_then HW.out HW.out.size hq))).mono ?_; rintro e w3 ⟨rfl, hb3⟩; exact ⟨rfl, below_then hq hq.size hb3⟩) | (have kk1 := cells13 (blk_below K1 hq); have kk2 := cells13 (blk_below K2 hq); go_simp; with_reducible rfl)); clear hK K))
    refine wpQuiet_nil ?_
    intro w2 hb2
    go_wp2
    go_ret
    exact ⟨rfl, below_then HW.out HW.out.size hb2⟩
   | true =>
    refine wp_region_below (by kernel_rfl) (by kernel_rfl) ?_
    repeat (with_reducible refine wpQuiet_step (fun K hK => ?_); go_simp; first | (refine hK _ ?_; clear hK K) | (refine ⟨_, fun _ _ => rfl, hK _ ?_⟩; clear hK K) | (apply Exists.intro; refine ⟨fun wq hq => ?_, hK _ ?_⟩; (first | (go_at_call 34; with_reducible refine ((HH.out _ (below_then HW.out HW.out.size hq))).mono ?_; rintro e w3 ⟨rfl, hb3⟩; exact ⟨rfl, below_then hq hq.size hb3⟩) | (go_at_call 40; with_reducible refine ((HA.out _ (below_then HW.out HW.out.size hq))).mono ?_; rintro e w3 ⟨rfl, hb3⟩; exact ⟨rfl, below_then hq hq.size hb3⟩) | (go_at_call 40; with_reducible refine ((HB.out _ (below_then HW.out HW.out.size hq))).mono ?_; rintro e w3 ⟨rfl, hb3⟩; exact ⟨rfl, below_then hq hq.size hb3⟩) | (have kk1 := cells13 (blk_below K1 hq); have kk2 := cells13 (blk_below K2 hq); go_simp; with_reducible rfl)); clear hK K))
    refine wpQuiet_nil ?_
    intro w2 hb2
    go_wp2
    go_ret
    exact ⟨rfl, below_then HW.out HW.out.size hb2⟩
set_option maxHeartbeats 4000000 in
set_option maxRecDepth 100000 in
theorem specSiteSame_walk (a b : Ur) (s t : Bs) (pv qv : Value) (w : World) (ha : FitP a) (hb : FitP b) (hs : SiteOf a.hk a.hn a.ha s) (ht : SiteOf b.hk b.hn b.ha t) (hA : PathAt w pv a.path) (hB : PathAt w qv b.path) :
  Calls Tryz.prog 15 #[.agg (uCells a pv), .agg (uCells b qv)] w fun e w' => e = .returned (.bool (siteSameV a b s t)) ∧ Below w.heap.size w w' := by
 have HP := Lib.hid fun w1 (k : Below w.heap.size w w1) => specUrlOk_walk a pv w1 ha (hA.below k)
 have HQ := Lib.hid fun w1 (k : Below w.heap.size w w1) => specUrlOk_walk b qv w1 hb (hB.below k)
 have HO := Lib.hid fun w1 => (specOwn_walk a.sch w1).mono fun e w' h => (⟨h.1, h.2 ▸ Below.refl _ _⟩ : e = .returned (.int .i64 (ownP a.sch)) ∧ Below w1.heap.size w1 w')
 have HA := Lib.hid fun w1 => hs.sp w1
 have HB := Lib.hid fun w1 => ht.sp w1
 obtain ⟨K1, K2, hW⟩ := two_objs w (.cells (uCells a pv) 27) (.cells (uCells b qv) 27)
 unfold siteSameV
 generalize okU a = x at HP ⊢
 generalize okU b = y at HQ ⊢
 generalize ownP a.sch = n at HO ⊢
 obtain ⟨d, HD⟩ : ∃ d, Hid (decide (0 ≤ n) = d) := ⟨_, Lib.hid rfl⟩
 obtain ⟨p, HPP⟩ : ∃ p, Hid ((a.sch == b.sch) = p) := ⟨_, Lib.hid rfl⟩
 obtain ⟨q, HQQ⟩ : ∃ q, Hid ((s == t) = q) := ⟨_, Lib.hid rfl⟩
 rw [HD.out, HPP.out, HQQ.out]
 clear ha hb hA hB hs ht
 unfold uCells at *
 have HW := Lib.hid hW
 clear hW
 go_enter Tryz.func15, Tryz.ntmps15
 go_upto_region 1 with fail
 generalize (w.alloc _).alloc _ = w1 at K1 K2 HW ⊢
 generalize w.heap.size + 1 = g at K2 ⊢
 cases x with
 | false =>
  refine wp_region_below (by kernel_rfl) (by kernel_rfl) ?_
  repeat (with_reducible refine wpQuiet_step (fun K hK => ?_); go_simp; first | (refine hK _ ?_; clear hK K) | (refine ⟨_, fun _ _ => rfl, hK _ ?_⟩; clear hK K) | (apply Exists.intro; refine ⟨fun wq hq => ?_, hK _ ?_⟩; (first | (go_at_call 11; with_reducible refine ((HP.out _ (below_then HW.out HW.out.size hq))).mono ?_; rintro e w3 ⟨rfl, hb3⟩; exact ⟨rfl, below_then hq hq.size hb3⟩) | (go_at_call 11; with_reducible refine ((HQ.out _ (below_then HW.out HW.out.size hq))).mono ?_; rintro e w3 ⟨rfl, hb3⟩; exact ⟨rfl, below_then hq hq.size hb3⟩) | (go_at_call 41; with_reducible refine ((HO.out _)).mono ?_; rintro e w3 ⟨rfl, hb3⟩; exact ⟨rfl, below_then hq hq.size hb3⟩) | (go_at_call 42; with_reducible refine ((HA.out _)).mono ?_; rintro e w3 ⟨rfl, hb3⟩; exact ⟨rfl, below_then hq hq.size hb3⟩) | (go_at_call 42; with_reducible refine ((HB.out _)).mono ?_; rintro e w3 ⟨rfl, hb3⟩; exact ⟨rfl, below_then hq hq.size hb3⟩) | (have kk1 := cells13 (blk_below K1 hq); have kk2 := cells13 (blk_below K2 hq); go_simp; with_reducible rfl)); clear hK K))
  refine wpQuiet_nil ?_
  intro w2 hb2
  go_wp2
  go_ret
  exact ⟨rfl, below_then HW.out HW.out.size hb2⟩
 | true =>
  cases y with
  | false =>
   refine wp_region_below (by kernel_rfl) (by kernel_rfl) ?_
   repeat (with_reducible refine wpQuiet_step (fun K hK => ?_); go_simp; first | (refine hK _ ?_; clear hK K) | (refine ⟨_, fun _ _ => rfl, hK _ ?_⟩; clear hK K) | (apply Exists.intro; refine ⟨fun wq hq => ?_, hK _ ?_⟩; (first | (go_at_call 11; with_reducible refine ((HP.out _ (below_then HW.out HW.out.size hq))).mono ?_; rintro e w3 ⟨rfl, hb3⟩; exact ⟨rfl, below_then hq hq.size hb3⟩) | (go_at_call 11; with_reducible refine ((HQ.out _ (below_then HW.out HW.out.size hq))).mono ?_; rintro e w3 ⟨rfl, hb3⟩; exact ⟨rfl, below_then hq hq.size hb3⟩) | (go_at_call 41; with_reducible refine ((HO.out _)).mono ?_; rintro e w3 ⟨rfl, hb3⟩; exact ⟨rfl, below_then hq hq.size hb3⟩) | (go_at_call 42; with_reducible refine ((HA.out _)).mono ?_; rintro e w3 ⟨rfl, hb3⟩; exact ⟨rfl, below_then hq hq.size hb3⟩) | (go_at_call 42; with_reducible refine ((HB.out _)).mono ?_; rintro e w3 ⟨rfl, hb3⟩; exact ⟨rfl, below_then hq hq.size hb3⟩) | (have kk1 := cells13 (blk_below K1 hq); have kk2 := cells13 (blk_below K2 hq); go_simp; with_reducible rfl)); clear hK K))
   refine wpQuiet_nil ?_
   intro w2 hb2
   go_wp2
   go_ret
   exact ⟨rfl, below_then HW.out HW.out.size hb2⟩
  | true =>
   have hd := HD.out
   cases d with
   | false =>
    refine wp_region_below (by kernel_rfl) (by kernel_rfl) ?_
    repeat (with_reducible refine wpQuiet_step (fun K hK => ?_); go_simp; first | (refine hK _ ?_; clear hK K) | (refine ⟨_, fun _ _ => rfl, hK _ ?_⟩; clear hK K) | (apply Exists.intro; refine ⟨fun wq hq => ?_, hK _ ?_⟩; (first | (go_at_call 11; with_reducible refine ((HP.out _ (below_then HW.out HW.out.size hq))).mono ?_; rintro e w3 ⟨rfl, hb3⟩; exact ⟨rfl, below_then hq hq.size hb3⟩) | (go_at_call 11; with_reducible refine ((HQ.out _ (below_then HW.out HW.out.size hq))).mono ?_; rintro e w3 ⟨rfl, hb3⟩; exact ⟨rfl, below_then hq hq.size hb3⟩) | (go_at_call 41; with_reducible refine ((HO.out _)).mono ?_; rintro e w3 ⟨rfl, hb3⟩; exact ⟨rfl, below_then hq hq.size hb3⟩) | (go_at_call 42; with_reducible refine ((HA.out _)).mono ?_; rintro e w3 ⟨rfl, hb3⟩; exact ⟨rfl, below_then hq hq.size hb3⟩) | (go_at_call 42; with_reducible refine ((HB.out _)).mono ?_; rintro e w3 ⟨rfl, hb3⟩; exact ⟨rfl, below_then hq hq.size hb3⟩) | (have kk1 := cells13 (blk_below K1 hq); have kk2 := cells13 (blk_below K2 hq); go_simp; with_reducible rfl)); clear hK K))
    refine wpQuiet_nil ?_
    intro w2 hb2
    go_wp2
    go_ret
    exact ⟨rfl, below_then HW.out HW.out.size hb2⟩
   | true =>
    have hpp := HPP.out
    cases p with
    | false =>
     refine wp_region_below (by kernel_rfl) (by kernel_rfl) ?_
     repeat (with_reducible refine wpQuiet_step (fun K hK => ?_); go_simp; first | (refine hK _ ?_; clear hK K) | (refine ⟨_, fun _ _ => rfl, hK _ ?_⟩; clear hK K) | (apply Exists.intro; refine ⟨fun wq hq => ?_, hK _ ?_⟩; (first | (go_at_call 11; with_reducible refine ((HP.out _ (below_then HW.out HW.out.size hq))).mono ?_; rintro e w3 ⟨rfl, hb3⟩; exact ⟨rfl, below_then hq hq.size hb3⟩) | (go_at_call 11; with_reducible refine ((HQ.out _ (below_then HW.out HW.out.size hq))).mono ?_; rintro e w3 ⟨rfl, hb3⟩; exact ⟨rfl, below_then hq hq.size hb3⟩) | (go_at_call 41; with_reducible refine ((HO.out _)).mono ?_; rintro e w3 ⟨rfl, hb3⟩; exact ⟨rfl, below_then hq hq.size hb3⟩) | (go_at_call 42; with_reducible refine ((HA.out _)).mono ?_; rintro e w3 ⟨rfl, hb3⟩; exact ⟨rfl, below_then hq hq.size hb3⟩) | (go_at_call 42; with_reducible refine ((HB.out _)).mono ?_; rintro e w3 ⟨rfl, hb3⟩; exact ⟨rfl, below_then hq hq.size hb3⟩) | (have kk1 := cells13 (blk_below K1 hq); have kk2 := cells13 (blk_below K2 hq); go_simp; with_reducible rfl)); clear hK K))
     refine wpQuiet_nil ?_
     intro w2 hb2
     go_wp2
     go_ret
     exact ⟨rfl, below_then HW.out HW.out.size hb2⟩
    | true =>
     have hqq := HQQ.out
     cases q with
     | false =>
      refine wp_region_below (by kernel_rfl) (by kernel_rfl) ?_
      repeat (with_reducible refine wpQuiet_step (fun K hK => ?_); go_simp; first | (refine hK _ ?_; clear hK K) | (refine ⟨_, fun _ _ => rfl, hK _ ?_⟩; clear hK K) | (apply Exists.intro; refine ⟨fun wq hq => ?_, hK _ ?_⟩; (first | (go_at_call 11; with_reducible refine ((HP.out _ (below_then HW.out HW.out.size hq))).mono ?_; rintro e w3 ⟨rfl, hb3⟩; exact ⟨rfl, below_then hq hq.size hb3⟩) | (go_at_call 11; with_reducible refine ((HQ.out _ (below_then HW.out HW.out.size hq))).mono ?_; rintro e w3 ⟨rfl, hb3⟩; exact ⟨rfl, below_then hq hq.size hb3⟩) | (go_at_call 41; with_reducible refine ((HO.out _)).mono ?_; rintro e w3 ⟨rfl, hb3⟩; exact ⟨rfl, below_then hq hq.size hb3⟩) | (go_at_call 42; with_reducible refine ((HA.out _)).mono ?_; rintro e w3 ⟨rfl, hb3⟩; exact ⟨rfl, below_then hq hq.size hb3⟩) | (go_at_call 42; with_reducible refine ((HB.out _)).mono ?_; rintro e w3 ⟨rfl, hb3⟩; exact ⟨rfl, below_then hq hq.size hb3⟩) | (have kk1 := cells13 (blk_below K1 hq); have kk2 := cells13 (blk_below K2 hq); go_simp; with_reducible rfl)); clear hK K))
      refine wpQuiet_nil ?_
      intro w2 hb2
      go_wp2
      go_ret
      exact ⟨rfl, below_then HW.out HW.out.size hb2⟩
     | true =>
      refine wp_region_below (by kernel_rfl) (by kernel_rfl) ?_
      repeat (with_reducible refine wpQuiet_step (fun K hK => ?_); go_simp; first | (refine hK _ ?_; clear hK K) | (refine ⟨_, fun _ _ => rfl, hK _ ?_⟩; clear hK K) | (apply Exists.intro; refine ⟨fun wq hq => ?_, hK _ ?_⟩; (first | (go_at_call 11; with_reducible refine ((HP.out _ (below_then HW.out HW.out.size hq))).mono ?_; rintro e w3 ⟨rfl, hb3⟩; exact ⟨rfl, below_then hq hq.size hb3⟩) | (go_at_call 11; with_reducible refine ((HQ.out _ (below_then HW.out HW.out.size hq))).mono ?_; rintro e w3 ⟨rfl, hb3⟩; exact ⟨rfl, below_then hq hq.size hb3⟩) | (go_at_call 41; with_reducible refine ((HO.out _)).mono ?_; rintro e w3 ⟨rfl, hb3⟩; exact ⟨rfl, below_then hq hq.size hb3⟩) | (go_at_call 42; with_reducible refine ((HA.out _)).mono ?_; rintro e w3 ⟨rfl, hb3⟩; exact ⟨rfl, below_then hq hq.size hb3⟩) | (go_at_call 42; with_reducible refine ((HB.out _)).mono ?_; rintro e w3 ⟨rfl, hb3⟩; exact ⟨rfl, below_then hq hq.size hb3⟩) | (have kk1 := cells13 (blk_below K1 hq); have kk2 := cells13 (blk_below K2 hq); go_simp; with_reducible rfl)); clear hK K))
      refine wpQuiet_nil ?_
      intro w2 hb2
      go_wp2
      go_ret
      exact ⟨rfl, below_then HW.out HW.out.size hb2⟩
end Go.Proofs.YtopcpbokfngpeaaGreatDoor.H
/- Of no program but HostSite: what the laws on two drawn addresses say. Conditions: each theorem's own. -/
set_option linter.unusedVariables false
namespace Go.Proofs.YtopcpbokfngpeaaGreatDoor.H
open Go.RowKit Go.Proofs.YtopcpbokfngpeaaGreatDoorW.PrintWords Go.Proofs.YtopcpbokfngpeaaGreatDoor.Base Go.Proofs.YtopcpbokfngpeaaGreatDoor.Pure
theorem same_iff (a b : Ur) : sameV a b = true ↔ okU a = true ∧ okU b = true ∧ 0 ≤ ownP a.sch ∧ a.sch = b.sch ∧ (a.hk = b.hk ∧ a.hn = b.hn ∧ a.ha = b.ha) ∧ portU a = portU b := by
 unfold sameV
 simp only [Bool.and_eq_true, decide_eq_true_eq]
 refine and_congr_right fun _ => and_congr_right fun _ => and_congr_right fun h => ?_
 have e1 : originU a = ⟨a.sch, a.hk, a.hn, a.ha, portU a⟩ := by unfold originU; rw [if_neg (by omega)]
 rw [e1]
 by_cases hb : ownP b.sch < 0
 ·have e2 : originU b = Og.zero := by unfold originU; rw [if_pos hb]
  rw [e2]
  constructor
  ·intro q
   unfold ogB Og.zero at q
   simp only [Bool.and_eq_true, beq_iff_eq] at q
   have := q.1
   rw [this] at h; exact absurd h (by decide)
  ·intro q
   have := q.1
   rw [this] at h; omega
 ·have e2 : originU b = ⟨b.sch, b.hk, b.hn, b.ha, portU b⟩ := by unfold originU; rw [if_neg hb]
  rw [e2]
  unfold ogB
  simp only [Bool.and_eq_true, beq_iff_eq]
theorem bool_iff {a b : Bool} (h : a = true ↔ b = true) : a = b := by
 cases a <;> cases b <;> simp_all
theorem same_swap (a b : Ur) : sameV b a = sameV a b := by
 refine bool_iff ?_
 rw [same_iff, same_iff]
 constructor
 ·rintro ⟨h1, h2, h3, h4, ⟨h5, h6, h7⟩, h8⟩
  exact ⟨h2, h1, by rw [← h4]; exact h3, h4.symm, ⟨h5.symm, h6.symm, h7.symm⟩, h8.symm⟩
 ·rintro ⟨h1, h2, h3, h4, ⟨h5, h6, h7⟩, h8⟩
  exact ⟨h2, h1, by rw [← h4]; exact h3, h4.symm, ⟨h5.symm, h6.symm, h7.symm⟩, h8.symm⟩
theorem same_on (a b c : Ur) (h : sameV a b = true) : sameV a c = sameV b c := by
 obtain ⟨h1, h2, h3, h4, ⟨h5, h6, h7⟩, h8⟩ := (same_iff a b).1 h
 refine bool_iff ?_
 rw [same_iff, same_iff, h4, h5, h6, h7, h8]
 constructor
 ·rintro ⟨g1, g2, g3⟩; exact ⟨h2, g2, g3⟩
 ·rintro ⟨g1, g2, g3⟩; exact ⟨h1, g2, g3⟩
theorem ok_own (u : Ur) (h : okU u = true) : 0 ≤ portU u ↔ 0 ≤ ownP u.sch := by
 obtain ⟨g, _⟩ := okU_good u h
 unfold portU
 rcases g with g | g
 ·have e5 : u.port = -1 := congrArg Ur.port g.rest
  rw [if_neg (by omega)]
 ·obtain ⟨_, _, s3⟩ := http_sch _ g.s
  by_cases hp : 0 ≤ u.port
  ·rw [if_pos hp]; exact ⟨fun _ => s3, fun _ => hp⟩
  ·rw [if_neg hp]
def sameW (a b : Ur) : Bool := decide (0 ≤ portU a) && (a.sch == b.sch && ((a.hk == b.hk && (a.hn == b.hn && a.ha == b.ha)) && portU a == portU b))
theorem same_law (a b : Ur) (ha : okU a = true) (hb : okU b = true) : sameW a b = sameV a b := by
 refine bool_iff ?_
 rw [same_iff]
 unfold sameW
 simp only [Bool.and_eq_true, decide_eq_true_eq, beq_iff_eq]
 rw [ok_own a ha]
 constructor
 ·rintro ⟨h1, h2, ⟨h3, h4, h5⟩, h6⟩; exact ⟨ha, hb, h1, h2, ⟨h3, h4, h5⟩, h6⟩
 ·rintro ⟨_, _, h1, h2, ⟨h3, h4, h5⟩, h6⟩; exact ⟨h1, h2, ⟨h3, h4, h5⟩, h6⟩
theorem same_own (a : Ur) (ha : okU a = true) : sameV a a = decide (0 ≤ portU a) := by
 refine bool_iff ?_
 rw [same_iff, decide_eq_true_eq, ok_own a ha]
 constructor
 ·rintro ⟨_, _, h, _⟩; exact h
 ·intro h; exact ⟨ha, ha, h, rfl, ⟨rfl, rfl, rfl⟩, rfl⟩
/-! Sites. -/
noncomputable def siteF (k : Int) (l : Bs) (a : Int) : Bs := if h : l.length ≤ 1048576 then (site_ex k a l h).choose else []
theorem site_f (u : Ur) (h : FitP u) : SiteOf u.hk u.hn u.ha (siteF u.hk u.hn u.ha) := by
 unfold siteF
 rw [dif_pos h.fit.hn]
 exact (site_ex u.hk u.ha u.hn h.fit.hn).choose_spec
noncomputable def siteV (a b : Ur) : Bool := siteSameV a b (siteF a.hk a.hn a.ha) (siteF b.hk b.hn b.ha)
theorem site_iff (a b : Ur) : siteV a b = true ↔ okU a = true ∧ okU b = true ∧ 0 ≤ ownP a.sch ∧ a.sch = b.sch ∧ siteF a.hk a.hn a.ha = siteF b.hk b.hn b.ha := by
 unfold siteV siteSameV
 simp only [Bool.and_eq_true, decide_eq_true_eq, beq_iff_eq]
theorem site_swap (a b : Ur) : siteV b a = siteV a b := by
 refine bool_iff ?_
 rw [site_iff, site_iff]
 constructor
 ·rintro ⟨h1, h2, h3, h4, h5⟩; exact ⟨h2, h1, by rw [← h4]; exact h3, h4.symm, h5.symm⟩
 ·rintro ⟨h1, h2, h3, h4, h5⟩; exact ⟨h2, h1, by rw [← h4]; exact h3, h4.symm, h5.symm⟩
theorem site_of_same (a b : Ur) (h : sameV a b = true) : siteV a b = true := by
 obtain ⟨h1, h2, h3, h4, ⟨h5, h6, h7⟩, h8⟩ := (same_iff a b).1 h
 rw [site_iff, h5, h6, h7]
 exact ⟨h1, h2, h3, h4, rfl⟩
theorem site_port (a b : Ur) (n : Int) (h : siteV a b = true) (ho : okU { a with port := n } = true) : siteV { a with port := n } b = true := by
 obtain ⟨h1, h2, h3, h4, h5⟩ := (site_iff a b).1 h
 rw [site_iff]
 exact ⟨ho, h2, h3, h4, h5⟩
end Go.Proofs.YtopcpbokfngpeaaGreatDoor.H
namespace Go.Proofs.YtopcpbokfngpeaaGreatDoorW.PrintWords
open Go.ChangeShapes Go.WideShapes
theorem sized_ints {H : Type} {enc : TypeId × Value → H} {P : Program} {W : World} {base : Nat} {spare : Nat → Bool} {held : Bool} {t e : TypeId} {k : IntKind} {a : Option Addr} {len cap : Nat} {d : DataW H} {ps : List MemPlace} {ts : List TypeId} {ds : List (DataW H)} {j : Nat}
    (hsz : (DataW.weightsEach P ts ds).all (· ≤ reachBytes) = true) (ht : ts[j]? = some t) (hd : ds[j]? = some d) (hu : P.underlying t = some (.slice e)) (he : P.underlying e = some (.int k)) (hc : P.cellsOf e = 1) {B : Nat} (hB : P.bytesOf e = B)
    (h : DataW.Trod enc P W base spare held t (.slice a len cap) d ps) : len * B ≤ 140737488351232 := by
  obtain ⟨fuel, hf⟩ := h
  rcases open_ints hu he hc hf with ⟨hcs, _⟩ | ⟨x, l, c, zs, hcs, _, hl, _, hz, hx, _, _⟩
  · simp [Value.cells] at hcs
    obtain ⟨rfl, rfl, rfl⟩ := hcs
    simp
  · simp [Value.cells] at hcs
    obtain ⟨rfl, rfl, rfl⟩ := hcs
    obtain ⟨hx, _⟩ := Prod.mk.inj hx
    subst hx
    have z := sized_slice hsz ht hd hu
    rw [hB] at z
    have hl2 : len ≤ zs.length := by
      rw [hz]
      split
      · exact hl
      · exact Nat.le_refl _
    have h1 : (lits (H := H) k (zs.take len)).length + (lits (H := H) k (zs.drop len)).length = zs.length := by
      simp [lits]
      omega
    rw [h1] at z
    exact Nat.le_trans (Nat.mul_le_mul_right _ hl2) z
end Go.Proofs.YtopcpbokfngpeaaGreatDoorW.PrintWords
