/- Texts of this claim, joined: LUrlXOrig. Conditions: each theorem's own. -/
import Derived.Test.YtndobphgeiamhaaGreatDoorA15
import Derived.Deep.RegionWith
/- laws.FnExactOriginOf: the call comes to true, whatever the address; the package-level variables read as their tables. -/
set_option linter.unusedVariables false
namespace Go.Proofs.YtndobphgeiamhaaGreatDoor.H
open Go.RowKit Go.Proofs.YtndobphgeiamhaaGreatDoorW.PrintWords Go.Proofs.YtndobphgeiamhaaGreatDoor.Base Go.Proofs.YtndobphgeiamhaaGreatDoor.Pure
set_option maxHeartbeats 4000000 in
set_option maxRecDepth 100000 in
theorem FnExactOriginOf_walk (u : Ur) (pv : Value) (w : World) (hP : PathAt w pv u.path) (hu : WfU u) (hT : Tabs w) :
  Calls Tryz.prog 3 #[.agg (uCells u pv)] w fun e w' => e = .returned (.bool true) ∧ Below w.heap.size w w' := by
 have HSZ := Lib.hid fun w1 (hb : Below w.heap.size w w1) => szUrl_walk u pv 1048576 w1 (hP.below hb) hu (by omega) (by omega)
 have K0 := blk_new w (.cells (uCells u pv) 26)
 have HB0 := (Below.refl w.heap.size w).alloc (Nat.le_refl _) (.cells (uCells u pv) 26)
 by_cases hz : szU u ≤ 1048576
 ·have hs : szV u 1048576 = 1048576 - (szU u : Int) := by unfold szV; rw [if_pos (by omega)]
  have fit := fit_of_sz u hu hz
  have hpl := fit.fit.pl
  have HTO := Lib.hid fun w1 (hb : Below w.heap.size w w1) => toUrl_walk u pv w1 (hP.below hb) hpl
  have HSP := Lib.hid fun qv w1 (hQ : PathAt w1 qv u.path) => specOriginOf_walk u qv w1 fit hQ
  have HIM := Lib.hid fun qv w1 (hQ : PathAt w1 qv u.path) (hb : Below w.heap.size w w1) => implOriginOf_walk u qv w1 fit hQ (hT.below hb)
  have HEQ := Lib.hid fun qv rv w1 (hQ : PathAt w1 qv u.path) (hR : PathAt w1 rv u.path) => eqUrl_walk u qv rv w1 hQ hR hpl
  rw [hs] at HSZ
  have hd : decide (1048576 - (szU u : Int) < 0) = false := decide_eq_false (by omega)
  generalize 1048576 - (szU u : Int) = m at HSZ hd
  generalize originV u = z at HSP HIM
  have HEO := Lib.hid fun w1 => eqOrigin_walk z w1
  unfold oCells at HEO HSP HIM
  clear hs fit hP hT hu hz
  obtain ⟨c, hc⟩ : ∃ c, c = uCells u pv := ⟨_, rfl⟩
  unfold uCells at *
  go_enter Tryz.func3, Tryz.ntmps3
  go_upto_region 2 with fail
  generalize w.alloc _ = w1 at K0 HB0 ⊢
  have kc := cells13 K0
  go_wp2_with fail
  refine (HSZ.out _ HB0).mono ?_
  rintro e w2 ⟨rfl, hb2⟩
  have K02 := blk_below K0 hb2
  have HB2 := below_then HB0 HB0.size hb2
  clear kc K0 HB0 hb2
  have kc := cells13 K02
  go_wp2_with fail
  refine (HTO.out _ HB2).mono ?_
  rintro e w3 ⟨q1, rfl, hQ1, hb3⟩
  have K03 := blk_below K02 hb3
  have HB3 := below_then HB2 HB2.size hb3
  clear kc K02 HB2 hb3
  go_wp2_with fail
  refine (HSP.out _ _ hQ1).mono ?_
  rintro e w4a ⟨rfl, hb4⟩
  have Kz := blk_new w4a (.cells #[.string (B z.sch), .int .i64 z.hk, .string (B z.hn), .int .i64 z.ha, .int .i64 z.port] 30)
  have hal := below_alloc (Below.refl _ w4a) (.cells #[.string (B z.sch), .int .i64 z.hk, .string (B z.hn), .int .i64 z.ha, .int .i64 z.port] 30)
  have K04 := blk_below (blk_below K03 hb4) hal
  have HB4 := below_then HB3 HB3.size (below_then hb4 hb4.size hal)
  clear K03 HB3 hb4 hQ1 hal
  go_upto_region 6 with fail
  generalize w4a.alloc _ = w4 at Kz K04 HB4 ⊢
  generalize w4a.heap.size = gz at Kz ⊢
  have kc := cells13 K04
  go_wp2_with fail
  refine (HTO.out _ HB4).mono ?_
  rintro e w5 ⟨q2, rfl, hQ2, hb5⟩
  have K05 := blk_below K04 hb5
  have Kz5 := blk_below Kz hb5
  have HB5 := below_then HB4 HB4.size hb5
  clear kc K04 HB4 hb5
  have hQ2' := hQ2
  obtain ⟨A2, c2, rfl, _, _⟩ := hQ2
  have K56 := blk_new w5 (.cells (uCells u (.slice A2 u.path.length c2)) 33)
  have K06 := blk_below K05 (below_alloc (Below.refl _ w5) (.cells (uCells u (.slice A2 u.path.length c2)) 33))
  have HB6 := HB5.alloc HB5.size (.cells (uCells u (.slice A2 u.path.length c2)) 33)
  have hQ6 := hQ2'.below (below_alloc (Below.refl _ w5) (.cells (uCells u (.slice A2 u.path.length c2)) 33))
  have Kz6 := blk_below Kz5 (below_alloc (Below.refl _ w5) (.cells (uCells u (.slice A2 u.path.length c2)) 33))
  clear hQ2' K05 HB5 Kz Kz5
  unfold uCells at K56 K06 HB6 hQ6 Kz6
  go_upto_region 7 with fail
  generalize w5.alloc _ = w6 at K56 K06 HB6 hQ6 Kz6 ⊢
  generalize w5.heap.size = g5 at K56 ⊢
  have kc5 := cells13 K56
  go_wp2_with fail
  refine (HIM.out _ _ hQ6 HB6).mono ?_
  rintro e w6a ⟨rfl, hb6⟩
  have Ky := blk_new w6a (.cells #[.string (B z.sch), .int .i64 z.hk, .string (B z.hn), .int .i64 z.ha, .int .i64 z.port] 30)
  have hal := below_alloc (Below.refl _ w6a) (.cells #[.string (B z.sch), .int .i64 z.hk, .string (B z.hn), .int .i64 z.ha, .int .i64 z.port] 30)
  have hb7 := below_then hb6 hb6.size hal
  have K0a := blk_below K06 hb7
  have K5a := blk_below K56 hb7
  have Kza := blk_below Kz6 hb7
  have HBa := below_then HB6 HB6.size hb7
  have hQa := hQ6.below hb7
  clear kc5 K06 K56 HB6 hQ6 hb7 hb6 hal Kz6
  go_upto_region 8 with fail
  generalize w6a.alloc _ = w6b at Ky K0a K5a Kza HBa hQa ⊢
  generalize w6a.heap.size = gy at Ky ⊢
  have ky := (cells5 Ky).1
  have kz := (cells5 Kza).1
  go_wp2_with fail
  refine (HEO.out _).mono ?_
  rintro e w7 ⟨rfl, hb7⟩
  have K07 := blk_below K0a hb7
  have K57 := blk_below K5a hb7
  have HB7 := below_then HBa HBa.size hb7
  have hQ7 := Lib.hid (hQa.below hb7)
  clear ky kz Ky K0a K5a Kza HBa hQa hb7
  go_upto_region 10 with fail
  have D0 : w7.drew.heap[w.heap.size]? = _ := K07
  have D5 : w7.drew.heap[g5]? = _ := K57
  have kd0 := cells13 D0
  have kd5 := cells13 D5
  have HB8 := Lib.hid (below_drew HB7)
  clear HB7
  go_region_with (first | ((go_at_call 11; refine (HTO.out _ ?sb).mono ?_; (case sb => exact HB8.out); rintro e w8 ⟨q3, rfl, hR8, hb8⟩; have hQ8 := PathAt.below (w := w7.drew) (hQ7.out.below (below_drew (Below.refl _ _))) hb8; have kz0 := cells13 (blk_below D0 hb8); have kz5 := cells13 (blk_below D5 hb8))) | ((go_at_call 14; refine (HEQ.out _ _ _ ?sc ?sd).mono ?_; (case sc => exact hQ8); (case sd => exact hR8); rintro e w9 ⟨rfl, hb9⟩)))
  all_goals
   have HBE := Lib.hid (below_then (below_then HB8.out HB8.out.size hb8) (below_then HB8.out HB8.out.size hb8).size hb9)
   go_wp2
   go_ret
   exact ⟨rfl, HBE.out⟩
 ·have hs : szV u 1048576 = -1 := by unfold szV; rw [if_neg (by omega)]
  rw [hs] at HSZ
  clear hs hP hT hu
  unfold uCells at *
  go_enter Tryz.func3, Tryz.ntmps3
  go_upto_region 2 with fail
  generalize w.alloc _ = w1 at K0 HB0 ⊢
  have kc := cells13 K0
  go_wp2_with fail
  refine (HSZ.out _ HB0).mono ?_
  rintro e w2 ⟨rfl, hb2⟩
  have HB2 := Lib.hid (below_then HB0 HB0.size hb2)
  clear kc K0 HB0 hb2
  go_wp2
  go_ret
  exact ⟨rfl, HB2.out⟩
end Go.Proofs.YtndobphgeiamhaaGreatDoor.H
