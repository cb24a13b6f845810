-- Written by a program of this session (wip/print/drive.py) for this claim; Lean checks it.
import Derived.Test.YtmckdmopoeakfaaDoorPFnHostSitex0
import Derived.Test.YtmckdmopoeakfaaDoorPFnHostSitex4
import Derived.Test.YtmckdmopoeakfaaDoorPFnHostSitex7
import Derived.Test.YtmckdmopoeakfaaDoorPFnHostSitex10
import Derived.Test.YtmckdmopoeakfaaDoorPFnHostSitex11
import Derived.Test.YtmckdmopoeakfaaDoorPFnHostSitex12
namespace Go.Proofs.YtmckdmopoeakfaaDoor.PFnHostSite
open Go.RowKit Go.Proofs.YtmckdmopoeakfaaDoor.H Go.Proofs.YtmckdmopoeakfaaDoorW.PrintWords Go.Proofs.YtmckdmopoeakfaaDoorW.PrintLast Go.Proofs.YtmckdmopoeakfaaDoorW.PrintMore
attribute [local go_sem] max2_int min2_int max_two min_two max_three min_three max_four min_four   -- for this text's walks alone
set_option linter.unusedVariables false
set_option linter.unusedSimpArgs false

/-! ### laws_FnHostSite: function 5 -/
mutual
def laws_FnHostSite.j0 : Nat → ByteArray → Bool → Int → ByteArray → Int → Option (Bool)
  | 0, _, _, _, _, _ => none
  | k + 1, x4, x35, x317000, x317001, x317002 => if x35 = true then ((spec_HostSite.f k x317000 x317001 x317002).bind fun t320 => (some (x4.toList == t320.toList))) else ((impl_HostGet.f k x4).bind fun bt321 => (if 4 + x4.size ≤ 9223372036854775807 then ((impl_HostGet.f k ((⟨#[119, 119, 119, 46]⟩ : ByteArray) ++ x4)).bind fun bt326 => (laws_FnHostSite.l0 k x4 bt321.2.2.2 bt326.2.2.2 0 0 bt321.1 bt321.2.1 bt321.2.2.1 bt326.1 bt326.2.1 bt326.2.2.1)) else (none)))
def laws_FnHostSite.l0 : Nat → ByteArray → Bool → Bool → Int → Int → Int → ByteArray → Int → Int → ByteArray → Int → Option (Bool)
  | 0, _, _, _, _, _, _, _, _, _, _, _ => none
  | k + 1, x4, x6, x8, x9, x10, x326000, x326001, x326002, x331000, x331001, x331002 => if x10 < (x4.size : Int) then (if 0 ≤ x10 then (if (bt x4 x10) = 46 then (laws_FnHostSite.l0 k x4 x6 x8 (wrap64 (x9 + 1)) (wrap64 (x10 + 1)) x326000 x326001 x326002 x331000 x331001 x331002) else (laws_FnHostSite.l0 k x4 x6 x8 x9 (wrap64 (x10 + 1)) x326000 x326001 x326002 x331000 x331001 x331002)) else (none)) else (if x6 = true then ((impl_HostSite.f k x326000 x326001 x326002).bind fun t331 => (if t331.toList = x4.toList then (if x9 ≤ 1 then (if x8 = true then (if x9 = 0 then (some true) else ((impl_HostSite.f k x331000 x331001 x331002).bind fun t332 => (some (t332.toList == x4.toList)))) else (some true)) else (some false)) else (some false))) else (some false))
end
def laws_FnHostSite.f (k : Nat) (l0 : List Int) : Option (Bool) := if (l0.length : Int) > 1048576 then (some true) else ((spec_DrawHostSite.f k l0).bind fun bt313 => ((impl_HostSite.f k bt313.1 bt313.2.1 bt313.2.2).bind fun t317 => ((spec_HostSite.f k bt313.1 bt313.2.1 bt313.2.2).bind fun t318 => (if t317.toList = t318.toList then (if bt313.1 = 1 then ((spec_HostOk.f k bt313.1 bt313.2.1 bt313.2.2).bind fun t319 => (if t319 = true then (laws_FnHostSite.j0 k t317 (t317.toList == ([] : List UInt8)) bt313.1 bt313.2.1 bt313.2.2) else (laws_FnHostSite.j0 k t317 true bt313.1 bt313.2.1 bt313.2.2))) else (laws_FnHostSite.j0 k t317 true bt313.1 bt313.2.1 bt313.2.2)) else (laws_FnHostSite.j0 k t317 true bt313.1 bt313.2.1 bt313.2.2)))))
theorem laws_FnHostSite.mono_l : ∀ k, (∀ y0 y1 y2 y3 y4, LeO (laws_FnHostSite.j0 k y0 y1 y2 y3 y4) (laws_FnHostSite.j0 (k + 1) y0 y1 y2 y3 y4)) ∧ (∀ y0 y1 y2 y3 y4 y5 y6 y7 y8 y9 y10, LeO (laws_FnHostSite.l0 k y0 y1 y2 y3 y4 y5 y6 y7 y8 y9 y10) (laws_FnHostSite.l0 (k + 1) y0 y1 y2 y3 y4 y5 y6 y7 y8 y9 y10))
  | 0 => ⟨fun _ _ _ _ _ r h => by simp [laws_FnHostSite.j0] at h, fun _ _ _ _ _ _ _ _ _ _ _ r h => by simp [laws_FnHostSite.l0] at h⟩
  | k + 1 => by
    obtain ⟨ih0, ih1⟩ := laws_FnHostSite.mono_l k
    refine ⟨?_, ?_⟩
    · intro y0 y1 y2 y3 y4
      unfold laws_FnHostSite.j0
      repeat' first
      | (with_reducible exact ih0 _ _ _ _ _)
      | (with_reducible exact ih1 _ _ _ _ _ _ _ _ _ _ _)
      | (with_reducible exact impl_HostGet.mono _ _)
      | (with_reducible exact impl_HostSite.mono _ _ _ _)
      | (with_reducible exact spec_DrawHostSite.mono _ _)
      | (with_reducible exact spec_HostOk.mono _ _ _ _)
      | (with_reducible exact spec_HostSite.mono _ _ _ _)
      | (with_reducible exact LeO.refl _)
      | (with_reducible exact LeO.none _)
      | (with_reducible refine LeO.ite ?_ ?_)
      | (with_reducible refine LeO.bind ?_ (fun _ => ?_))
      | exact ih0 _ _ _ _ _
      | exact ih1 _ _ _ _ _ _ _ _ _ _ _
      | exact impl_HostGet.mono _ _
      | exact impl_HostSite.mono _ _ _ _
      | exact spec_DrawHostSite.mono _ _
      | exact spec_HostOk.mono _ _ _ _
      | exact spec_HostSite.mono _ _ _ _
      | exact LeO.none _
      | refine LeO.ite ?_ ?_
      | refine LeO.bind ?_ (fun _ => ?_)
    · intro y0 y1 y2 y3 y4 y5 y6 y7 y8 y9 y10
      unfold laws_FnHostSite.l0
      repeat' first
      | (with_reducible exact ih0 _ _ _ _ _)
      | (with_reducible exact ih1 _ _ _ _ _ _ _ _ _ _ _)
      | (with_reducible exact impl_HostGet.mono _ _)
      | (with_reducible exact impl_HostSite.mono _ _ _ _)
      | (with_reducible exact spec_DrawHostSite.mono _ _)
      | (with_reducible exact spec_HostOk.mono _ _ _ _)
      | (with_reducible exact spec_HostSite.mono _ _ _ _)
      | (with_reducible exact LeO.refl _)
      | (with_reducible exact LeO.none _)
      | (with_reducible refine LeO.ite ?_ ?_)
      | (with_reducible refine LeO.bind ?_ (fun _ => ?_))
      | exact ih0 _ _ _ _ _
      | exact ih1 _ _ _ _ _ _ _ _ _ _ _
      | exact impl_HostGet.mono _ _
      | exact impl_HostSite.mono _ _ _ _
      | exact spec_DrawHostSite.mono _ _
      | exact spec_HostOk.mono _ _ _ _
      | exact spec_HostSite.mono _ _ _ _
      | exact LeO.none _
      | refine LeO.ite ?_ ?_
      | refine LeO.bind ?_ (fun _ => ?_)
theorem laws_FnHostSite.mono : ∀ a0 k, LeO (laws_FnHostSite.f k a0) (laws_FnHostSite.f (k + 1) a0) := by
  intro a0 k
  obtain ⟨ih0, ih1⟩ := laws_FnHostSite.mono_l k
  unfold laws_FnHostSite.f
  repeat' first
      | (with_reducible exact ih0 _ _ _ _ _)
      | (with_reducible exact ih1 _ _ _ _ _ _ _ _ _ _ _)
      | (with_reducible exact impl_HostGet.mono _ _)
      | (with_reducible exact impl_HostSite.mono _ _ _ _)
      | (with_reducible exact spec_DrawHostSite.mono _ _)
      | (with_reducible exact spec_HostOk.mono _ _ _ _)
      | (with_reducible exact spec_HostSite.mono _ _ _ _)
      | (with_reducible exact LeO.refl _)
      | (with_reducible exact LeO.none _)
      | (with_reducible refine LeO.ite ?_ ?_)
      | (with_reducible refine LeO.bind ?_ (fun _ => ?_))
      | exact ih0 _ _ _ _ _
      | exact ih1 _ _ _ _ _ _ _ _ _ _ _
      | exact impl_HostGet.mono _ _
      | exact impl_HostSite.mono _ _ _ _
      | exact spec_DrawHostSite.mono _ _
      | exact spec_HostOk.mono _ _ _ _
      | exact spec_HostSite.mono _ _ _ _
      | exact LeO.none _
      | refine LeO.ite ?_ ?_
      | refine LeO.bind ?_ (fun _ => ?_)
set_option maxHeartbeats 8000000 in
set_option maxRecDepth 100000 in
theorem laws_FnHostSite.calls (k : Nat) (A0 : Option Addr) (c0 : Nat) (l0 : List Int) (r : Bool) (w : World) (hr0 : Kd.C (Kd.int .u8) w A0 l0.length l0) (hc0 : l0.length ≤ c0) (hT : TabMI w) (h : laws_FnHostSite.f k l0 = some r) :
    Calls Tryd.prog 5 #[.slice A0 l0.length c0] w fun e w' => e = .returned (.bool r) ∧ Below w.heap.size w w' := by
  have hu27 := Tryd.underlying27
  have HTB := Aside0.mk hT
  clear hT
  have HR0 := Aside0.mk hr0
  have HC0 := Aside0.mk hc0
  clear hr0 hc0
  have HB := Aside0.mk (Below.refl w.heap.size w)
  have H : (if (l0.length : Int) > 1048576 then (some true) else ((spec_DrawHostSite.f k l0).bind fun bt313 => ((impl_HostSite.f k bt313.1 bt313.2.1 bt313.2.2).bind fun t317 => ((spec_HostSite.f k bt313.1 bt313.2.1 bt313.2.2).bind fun t318 => (if t317.toList = t318.toList then (if bt313.1 = 1 then ((spec_HostOk.f k bt313.1 bt313.2.1 bt313.2.2).bind fun t319 => (if t319 = true then (laws_FnHostSite.j0 k t317 (t317.toList == ([] : List UInt8)) bt313.1 bt313.2.1 bt313.2.2) else (laws_FnHostSite.j0 k t317 true bt313.1 bt313.2.1 bt313.2.2))) else (laws_FnHostSite.j0 k t317 true bt313.1 bt313.2.1 bt313.2.2)) else (laws_FnHostSite.j0 k t317 true bt313.1 bt313.2.1 bt313.2.2)))))) = some r := h
  clear h
  by_cases c2 : (l0.length : Int) > 1048576
  · rw [if_pos c2] at H
    have c2b0 : decide (1048576 < (l0.length : Int)) = true := decide_eq_true c2
    have c2b1 : decide (1048576 < l0.length) = true := decide_eq_true (by omega)
    clear c2
    obtain rfl := Option.some.inj H
    go_enter Tryd.func5, Tryd.ntmps5
    go_wp2
    go_ret
    exact ⟨by first | rfl | (simp [errW_none, errW_some] <;> rfl) | (simp [*, errW_none, errW_some] <;> rfl) | (simp [nen, een]; done), by repeat (first | (with_reducible first | exact HB.out | apply below_alloc | apply pw_below_drewN | apply below_drew1) | exact HB.out)⟩
  · rw [if_neg c2] at H
    have c2b0 : decide (1048576 < (l0.length : Int)) = false := decide_eq_false c2
    have c2b1 : decide (1048576 < l0.length) = false := decide_eq_false (by omega)
    clear c2
    replace H := Option.bind_eq_some_iff.mp H
    obtain ⟨⟨t313, t314, t315⟩, A30, H⟩ := H
    replace H : ((impl_HostSite.f k t313 t314 t315).bind fun t317 => ((spec_HostSite.f k t313 t314 t315).bind fun t318 => (if t317.toList = t318.toList then (if t313 = 1 then ((spec_HostOk.f k t313 t314 t315).bind fun t319 => (if t319 = true then (laws_FnHostSite.j0 k t317 (t317.toList == ([] : List UInt8)) t313 t314 t315) else (laws_FnHostSite.j0 k t317 true t313 t314 t315))) else (laws_FnHostSite.j0 k t317 true t313 t314 t315)) else (laws_FnHostSite.j0 k t317 true t313 t314 t315)))) = some r := H
    have A3 := Aside0.mk A30
    clear A30
    replace H := Option.bind_eq_some_iff.mp H
    obtain ⟨t317, A40, H⟩ := H
    replace H : ((spec_HostSite.f k t313 t314 t315).bind fun t318 => (if t317.toList = t318.toList then (if t313 = 1 then ((spec_HostOk.f k t313 t314 t315).bind fun t319 => (if t319 = true then (laws_FnHostSite.j0 k t317 (t317.toList == ([] : List UInt8)) t313 t314 t315) else (laws_FnHostSite.j0 k t317 true t313 t314 t315))) else (laws_FnHostSite.j0 k t317 true t313 t314 t315)) else (laws_FnHostSite.j0 k t317 true t313 t314 t315))) = some r := H
    have A4 := Aside0.mk A40
    clear A40
    have HC5 := Aside0.mk H
    clear H
    go_enter Tryd.func5, Tryd.ntmps5
    go_upto_region 5 with (first | ((with_reducible refine gate_callee (f := 17) rfl ?_); refine goesL_ (some 15) rfl rfl Tryd.func17 (by kernel_rfl) rfl #[.slice A0 l0.length c0] rfl (by (try simp only [List.map_toArray, List.map_cons, List.map_nil]); first | done | rfl | (simp only [List.length_drop, List.length_take]; rfl)) ?_; (with_reducible refine (spec_DrawHostSite.calls k _ _ l0 t313 t314 t315 _ ?side1 ?side2 A3.out).mono ?_); (case side1 => repeat (first | exact HR0.out | (with_reducible refine Kd.C_alloc ?_ _) | (with_reducible refine Kd.C_drewN ?_ _) | (with_reducible refine Kd.C_drew ?_))); (case side2 => exact HC0.out); rintro e w6 ⟨rfl, hb⟩; refine ⟨_, rfl, ?_⟩; have n0_ := Aside0.mk (below_step (by repeat (first | (with_reducible first | exact HB.out | apply below_alloc | apply pw_below_drewN | apply below_drew1) | exact HB.out)) hb); clear HB; have HB := n0_; clear n0_; (try clear hb); (try clear hb2); (try clear hk); (try clear hi)) | ((with_reducible refine gate_dst (N := 3) rfl ?_); refine box_event ?hg (N := 3) ?hd (cs := #[.int .i64 0, .string (⟨#[]⟩ : ByteArray), .int .i64 0]) (t := 27) ?hr ?_; (case hd => rfl); (case hg => rfl); (case hr => first | (go_simp; done) | (go_simp; rfl)); intro gb316 hg w7 hbox hb; have n0_ := Aside0.mk (below_step (by repeat (first | (with_reducible first | exact HB.out | apply below_alloc | apply pw_below_drewN | apply below_drew1) | exact HB.out)) hb); have n1_ := Aside0.mk (hbox); have n2_ := Aside0.mk ((by rw [hg]; exact (below_size (by repeat (first | (with_reducible first | exact HB.out | apply below_alloc | apply pw_below_drewN | apply below_drew1) | exact HB.out))) : w.heap.size ≤ gb316)); have n3_ := Aside0.mk ((by rw [hg]; exact (below_size (by repeat (first | (with_reducible first | exact HB.out | apply below_alloc | apply pw_below_drewN | apply below_drew1) | exact HB.out))) : w.heap.size ≤ gb316)); clear HB; have HB := n0_; have BK316 := n1_; have GW316 := n2_; have GE316 := n3_; clear n0_ n1_ n2_ n3_; clear hb hbox hg; have hcz8_0 : w7.cell? ⟨gb316, 0, none⟩ = some (.int .i64 0) := (blk_cell BK316.out 0).trans rfl; have hcz8_1 : w7.cell? ⟨gb316, 1, none⟩ = some (.string (⟨#[]⟩ : ByteArray)) := (blk_cell BK316.out 1).trans rfl; have hcz8_2 : w7.cell? ⟨gb316, 2, none⟩ = some (.int .i64 0) := (blk_cell BK316.out 2).trans rfl; have hfz8_0 := blk_frozen BK316.out 0; have hfz8_1 := blk_frozen BK316.out 1; have hfz8_2 := blk_frozen BK316.out 2) | ((with_reducible refine gate_callee (f := 18) rfl ?_); refine goesL_ (some 17) rfl rfl Tryd.func18 (by kernel_rfl) rfl #[.agg #[.int .i64 t313, .string t314, .int .i64 t315]] rfl (by (try simp only [List.map_toArray, List.map_cons, List.map_nil]); first | done | rfl | (simp only [List.length_drop, List.length_take]; rfl)) ?_; (with_reducible refine (impl_HostSite.calls k t313 t314 t315 t317 _ ?side1 A4.out).mono ?_); (case side1 => exact TabMI.below HTB.out (by repeat (first | (with_reducible first | exact HB.out | apply below_alloc | apply pw_below_drewN | apply below_drew1 | refine below_set ?_ GE316.out) | exact HB.out))); rintro e w9 ⟨rfl, hb⟩; refine ⟨_, rfl, ?_⟩; have n0_ := Aside0.mk (blk_below (g := gb316) (o := .cells #[.int .i64 t313, .string t314, .int .i64 t315] 27 (0, 0)) (by (with_reducible repeat (first | refine blk_drewN ?_ _ | refine blk_drew ?_ | refine blk_alloc ?_ _)); refine blk_put (cs := #[.int .i64 t313, .string t314, .int .i64 0]) ?_ 2 _ rfl; (with_reducible repeat (first | refine blk_drewN ?_ _ | refine blk_drew ?_ | refine blk_alloc ?_ _)); refine blk_put (cs := #[.int .i64 t313, .string (⟨#[]⟩ : ByteArray), .int .i64 0]) ?_ 1 _ rfl; (with_reducible repeat (first | refine blk_drewN ?_ _ | refine blk_drew ?_ | refine blk_alloc ?_ _)); refine blk_put (cs := #[.int .i64 0, .string (⟨#[]⟩ : ByteArray), .int .i64 0]) ?_ 0 _ rfl; (with_reducible repeat (first | refine blk_drewN ?_ _ | refine blk_drew ?_ | refine blk_alloc ?_ _)); exact BK316.out) hb); have n1_ := Aside0.mk (below_step (by repeat (first | (with_reducible first | exact HB.out | apply below_alloc | apply pw_below_drewN | apply below_drew1 | refine below_set ?_ GE316.out) | exact HB.out)) hb); clear BK316; clear HB; have BK316 := n0_; have HB := n1_; clear n0_ n1_; (try clear hb); (try clear hb2); (try clear hk); (try clear hi)))
    (try simp only [Act.put, List.setIfInBounds_toArray, List.set_cons_zero, List.set_cons_succ])
    go_cut [35] (fun v35 wc => ∃ (kq : Nat) (x35_4 : Bool), v35 = .bool x35_4 ∧ Aside0 (laws_FnHostSite.j0 kq t317 x35_4 t313 t314 t315 = some r) ∧ Aside0 (kq ≤ k) ∧ Aside0 (wc.heap[gb316]? = some (.cells #[.int .i64 t313, .string t314, .int .i64 t315] 27 (0, 0))) ∧ Aside0 (Below w.heap.size w wc))
    case first =>
      have H := HC5.out
      clear HC5
      replace H := Option.bind_eq_some_iff.mp H
      obtain ⟨t318, A100, H⟩ := H
      replace H : (if t317.toList = t318.toList then (if t313 = 1 then ((spec_HostOk.f k t313 t314 t315).bind fun t319 => (if t319 = true then (laws_FnHostSite.j0 k t317 (t317.toList == ([] : List UInt8)) t313 t314 t315) else (laws_FnHostSite.j0 k t317 true t313 t314 t315))) else (laws_FnHostSite.j0 k t317 true t313 t314 t315)) else (laws_FnHostSite.j0 k t317 true t313 t314 t315)) = some r := H
      have A10 := Aside0.mk A100
      clear A100
      by_cases c11 : t317.toList = t318.toList
      · rw [if_pos c11] at H
        have c11b0 : (t317.toList == t318.toList) = true := beq_iff_eq.mpr c11
        have c11b1 : (t317.toList != t318.toList) = false := bne_eq_false_iff_eq.mpr c11
        clear c11
        (first | rw [c11b0] | (simp only [i64_w, i32_w]; rw [c11b0]) | skip)
        by_cases c12 : t313 = 1
        · rw [if_pos c12] at H
          have c12b0 : (t313 == 1) = true := beq_iff_eq.mpr c12
          have c12b1 : (t313 != 1) = false := bne_eq_false_iff_eq.mpr c12
          clear c12
          replace H := Option.bind_eq_some_iff.mp H
          obtain ⟨t319, A130, H⟩ := H
          replace H : (if t319 = true then (laws_FnHostSite.j0 k t317 (t317.toList == ([] : List UInt8)) t313 t314 t315) else (laws_FnHostSite.j0 k t317 true t313 t314 t315)) = some r := H
          have A13 := Aside0.mk A130
          clear A130
          by_cases c14 : t319 = true
          · subst c14
            have H1 : (laws_FnHostSite.j0 k t317 (t317.toList == ([] : List UInt8)) t313 t314 t315) = some r := by rw [if_pos rfl] at H; exact H
            clear H
            have H := H1
            clear H1
            have H' := Aside0.mk H
            clear H
            have hcz15_0 : w9.cell? ⟨gb316, 0, none⟩ = some (.int .i64 t313) := (blk_cell BK316.out 0).trans rfl
            have hcz15_1 : w9.cell? ⟨gb316, 1, none⟩ = some (.string t314) := (blk_cell BK316.out 1).trans rfl
            have hcz15_2 : w9.cell? ⟨gb316, 2, none⟩ = some (.int .i64 t315) := (blk_cell BK316.out 2).trans rfl
            have hfz15_0 := blk_frozen BK316.out 0
            have hfz15_1 := blk_frozen BK316.out 1
            have hfz15_2 := blk_frozen BK316.out 2
            go_wp2_with (first | ((with_reducible refine gate_callee (f := 19) rfl ?_); refine goesL_ (some 20) rfl rfl Tryd.func19 (by kernel_rfl) rfl #[.agg #[.int .i64 t313, .string t314, .int .i64 t315]] rfl (by (try simp only [List.map_toArray, List.map_cons, List.map_nil]); first | done | rfl | (simp only [List.length_drop, List.length_take]; rfl)) ?_; (with_reducible refine (spec_HostSite.calls k t313 t314 t315 t318 _ A10.out).mono ?_); rintro e w16 ⟨rfl, hb⟩; refine ⟨_, rfl, ?_⟩; have n0_ := Aside0.mk (blk_below (g := gb316) (o := .cells #[.int .i64 t313, .string t314, .int .i64 t315] 27 (0, 0)) (by (with_reducible repeat (first | refine blk_drewN ?_ _ | refine blk_drew ?_ | refine blk_alloc ?_ _)); exact BK316.out) hb); have n1_ := Aside0.mk (below_step (by repeat (first | (with_reducible first | exact HB.out | apply below_alloc | apply pw_below_drewN | apply below_drew1 | refine below_set ?_ GE316.out) | exact HB.out)) hb); clear BK316; clear HB; have BK316 := n0_; have HB := n1_; clear n0_ n1_; (try clear hb); (try clear hb2); (try clear hk); (try clear hi); have hcz17_0 : w16.cell? ⟨gb316, 0, none⟩ = some (.int .i64 t313) := (blk_cell BK316.out 0).trans rfl; have hcz17_1 : w16.cell? ⟨gb316, 1, none⟩ = some (.string t314) := (blk_cell BK316.out 1).trans rfl; have hcz17_2 : w16.cell? ⟨gb316, 2, none⟩ = some (.int .i64 t315) := (blk_cell BK316.out 2).trans rfl; have hfz17_0 := blk_frozen BK316.out 0; have hfz17_1 := blk_frozen BK316.out 1; have hfz17_2 := blk_frozen BK316.out 2) | (go_at_call 14; (with_reducible refine (spec_HostOk.calls k t313 t314 t315 true _ A13.out).mono ?_); rintro e w18 ⟨rfl, hb⟩; have n0_ := Aside0.mk (blk_below (g := gb316) (o := .cells #[.int .i64 t313, .string t314, .int .i64 t315] 27 (0, 0)) (by (with_reducible repeat (first | refine blk_drewN ?_ _ | refine blk_drew ?_ | refine blk_alloc ?_ _)); exact BK316.out) hb); have n1_ := Aside0.mk (below_step (by repeat (first | (with_reducible first | exact HB.out | apply below_alloc | apply pw_below_drewN | apply below_drew1 | refine below_set ?_ GE316.out) | exact HB.out)) hb); clear BK316; clear HB; have BK316 := n0_; have HB := n1_; clear n0_ n1_; (try clear hb); (try clear hb2); (try clear hk); (try clear hi)))
            go_meet
            case rel => exact ⟨_, ((t317.toList == ([] : List UInt8))), (by first | rfl | (simp; done) | (simp [*]; done) | (simp [nen, een]; done)), H', ⟨by first | omega | exact Nat.le_refl _⟩, ⟨by (with_reducible repeat (first | refine blk_drewN ?_ _ | refine blk_drew ?_ | refine blk_alloc ?_ _)); exact BK316.out⟩, ⟨by repeat (first | (with_reducible first | exact HB.out | apply below_alloc | apply pw_below_drewN | apply below_drew1 | refine below_set ?_ GE316.out) | exact HB.out)⟩⟩
          · replace c14 := Bool.eq_false_iff.mpr c14
            subst c14
            have H1 : (laws_FnHostSite.j0 k t317 true t313 t314 t315) = some r := by rw [if_neg (show ¬ (false = true) by decide)] at H; exact H
            clear H
            have H := H1
            clear H1
            have H' := Aside0.mk H
            clear H
            have hcz19_0 : w9.cell? ⟨gb316, 0, none⟩ = some (.int .i64 t313) := (blk_cell BK316.out 0).trans rfl
            have hcz19_1 : w9.cell? ⟨gb316, 1, none⟩ = some (.string t314) := (blk_cell BK316.out 1).trans rfl
            have hcz19_2 : w9.cell? ⟨gb316, 2, none⟩ = some (.int .i64 t315) := (blk_cell BK316.out 2).trans rfl
            have hfz19_0 := blk_frozen BK316.out 0
            have hfz19_1 := blk_frozen BK316.out 1
            have hfz19_2 := blk_frozen BK316.out 2
            go_wp2_with (first | ((with_reducible refine gate_callee (f := 19) rfl ?_); refine goesL_ (some 20) rfl rfl Tryd.func19 (by kernel_rfl) rfl #[.agg #[.int .i64 t313, .string t314, .int .i64 t315]] rfl (by (try simp only [List.map_toArray, List.map_cons, List.map_nil]); first | done | rfl | (simp only [List.length_drop, List.length_take]; rfl)) ?_; (with_reducible refine (spec_HostSite.calls k t313 t314 t315 t318 _ A10.out).mono ?_); rintro e w20 ⟨rfl, hb⟩; refine ⟨_, rfl, ?_⟩; have n0_ := Aside0.mk (blk_below (g := gb316) (o := .cells #[.int .i64 t313, .string t314, .int .i64 t315] 27 (0, 0)) (by (with_reducible repeat (first | refine blk_drewN ?_ _ | refine blk_drew ?_ | refine blk_alloc ?_ _)); exact BK316.out) hb); have n1_ := Aside0.mk (below_step (by repeat (first | (with_reducible first | exact HB.out | apply below_alloc | apply pw_below_drewN | apply below_drew1 | refine below_set ?_ GE316.out) | exact HB.out)) hb); clear BK316; clear HB; have BK316 := n0_; have HB := n1_; clear n0_ n1_; (try clear hb); (try clear hb2); (try clear hk); (try clear hi); have hcz21_0 : w20.cell? ⟨gb316, 0, none⟩ = some (.int .i64 t313) := (blk_cell BK316.out 0).trans rfl; have hcz21_1 : w20.cell? ⟨gb316, 1, none⟩ = some (.string t314) := (blk_cell BK316.out 1).trans rfl; have hcz21_2 : w20.cell? ⟨gb316, 2, none⟩ = some (.int .i64 t315) := (blk_cell BK316.out 2).trans rfl; have hfz21_0 := blk_frozen BK316.out 0; have hfz21_1 := blk_frozen BK316.out 1; have hfz21_2 := blk_frozen BK316.out 2) | (go_at_call 14; (with_reducible refine (spec_HostOk.calls k t313 t314 t315 false _ A13.out).mono ?_); rintro e w22 ⟨rfl, hb⟩; have n0_ := Aside0.mk (blk_below (g := gb316) (o := .cells #[.int .i64 t313, .string t314, .int .i64 t315] 27 (0, 0)) (by (with_reducible repeat (first | refine blk_drewN ?_ _ | refine blk_drew ?_ | refine blk_alloc ?_ _)); exact BK316.out) hb); have n1_ := Aside0.mk (below_step (by repeat (first | (with_reducible first | exact HB.out | apply below_alloc | apply pw_below_drewN | apply below_drew1 | refine below_set ?_ GE316.out) | exact HB.out)) hb); clear BK316; clear HB; have BK316 := n0_; have HB := n1_; clear n0_ n1_; (try clear hb); (try clear hb2); (try clear hk); (try clear hi)))
            go_meet
            case rel => exact ⟨_, (true), (by first | rfl | (simp; done) | (simp [*]; done) | (simp [nen, een]; done)), H', ⟨by first | omega | exact Nat.le_refl _⟩, ⟨by (with_reducible repeat (first | refine blk_drewN ?_ _ | refine blk_drew ?_ | refine blk_alloc ?_ _)); exact BK316.out⟩, ⟨by repeat (first | (with_reducible first | exact HB.out | apply below_alloc | apply pw_below_drewN | apply below_drew1 | refine below_set ?_ GE316.out) | exact HB.out)⟩⟩
        · rw [if_neg c12] at H
          have c12b0 : (t313 == 1) = false := beq_eq_false_iff_ne.mpr c12
          have c12b1 : (t313 != 1) = true := bne_iff_ne.mpr c12
          have H' := Aside0.mk H
          clear H
          have hcz23_0 : w9.cell? ⟨gb316, 0, none⟩ = some (.int .i64 t313) := (blk_cell BK316.out 0).trans rfl
          have hcz23_1 : w9.cell? ⟨gb316, 1, none⟩ = some (.string t314) := (blk_cell BK316.out 1).trans rfl
          have hcz23_2 : w9.cell? ⟨gb316, 2, none⟩ = some (.int .i64 t315) := (blk_cell BK316.out 2).trans rfl
          have hfz23_0 := blk_frozen BK316.out 0
          have hfz23_1 := blk_frozen BK316.out 1
          have hfz23_2 := blk_frozen BK316.out 2
          go_wp2_with (first | ((with_reducible refine gate_callee (f := 19) rfl ?_); refine goesL_ (some 20) rfl rfl Tryd.func19 (by kernel_rfl) rfl #[.agg #[.int .i64 t313, .string t314, .int .i64 t315]] rfl (by (try simp only [List.map_toArray, List.map_cons, List.map_nil]); first | done | rfl | (simp only [List.length_drop, List.length_take]; rfl)) ?_; (with_reducible refine (spec_HostSite.calls k t313 t314 t315 t318 _ A10.out).mono ?_); rintro e w24 ⟨rfl, hb⟩; refine ⟨_, rfl, ?_⟩; have n0_ := Aside0.mk (blk_below (g := gb316) (o := .cells #[.int .i64 t313, .string t314, .int .i64 t315] 27 (0, 0)) (by (with_reducible repeat (first | refine blk_drewN ?_ _ | refine blk_drew ?_ | refine blk_alloc ?_ _)); exact BK316.out) hb); have n1_ := Aside0.mk (below_step (by repeat (first | (with_reducible first | exact HB.out | apply below_alloc | apply pw_below_drewN | apply below_drew1 | refine below_set ?_ GE316.out) | exact HB.out)) hb); clear BK316; clear HB; have BK316 := n0_; have HB := n1_; clear n0_ n1_; (try clear hb); (try clear hb2); (try clear hk); (try clear hi); have hcz25_0 : w24.cell? ⟨gb316, 0, none⟩ = some (.int .i64 t313) := (blk_cell BK316.out 0).trans rfl; have hcz25_1 : w24.cell? ⟨gb316, 1, none⟩ = some (.string t314) := (blk_cell BK316.out 1).trans rfl; have hcz25_2 : w24.cell? ⟨gb316, 2, none⟩ = some (.int .i64 t315) := (blk_cell BK316.out 2).trans rfl; have hfz25_0 := blk_frozen BK316.out 0; have hfz25_1 := blk_frozen BK316.out 1; have hfz25_2 := blk_frozen BK316.out 2))
          go_meet
          case rel => exact ⟨_, (true), (by first | rfl | (simp; done) | (simp [*]; done) | (simp [nen, een]; done)), H', ⟨by first | omega | exact Nat.le_refl _⟩, ⟨by (with_reducible repeat (first | refine blk_drewN ?_ _ | refine blk_drew ?_ | refine blk_alloc ?_ _)); exact BK316.out⟩, ⟨by repeat (first | (with_reducible first | exact HB.out | apply below_alloc | apply pw_below_drewN | apply below_drew1 | refine below_set ?_ GE316.out) | exact HB.out)⟩⟩
      · rw [if_neg c11] at H
        have c11b0 : (t317.toList == t318.toList) = false := beq_eq_false_iff_ne.mpr c11
        have c11b1 : (t317.toList != t318.toList) = true := bne_iff_ne.mpr c11
        (first | rw [c11b0] | (simp only [i64_w, i32_w]; rw [c11b0]) | skip)
        have H' := Aside0.mk H
        clear H
        have hcz26_0 : w9.cell? ⟨gb316, 0, none⟩ = some (.int .i64 t313) := (blk_cell BK316.out 0).trans rfl
        have hcz26_1 : w9.cell? ⟨gb316, 1, none⟩ = some (.string t314) := (blk_cell BK316.out 1).trans rfl
        have hcz26_2 : w9.cell? ⟨gb316, 2, none⟩ = some (.int .i64 t315) := (blk_cell BK316.out 2).trans rfl
        have hfz26_0 := blk_frozen BK316.out 0
        have hfz26_1 := blk_frozen BK316.out 1
        have hfz26_2 := blk_frozen BK316.out 2
        go_wp2_with (first | ((with_reducible refine gate_callee (f := 19) rfl ?_); refine goesL_ (some 20) rfl rfl Tryd.func19 (by kernel_rfl) rfl #[.agg #[.int .i64 t313, .string t314, .int .i64 t315]] rfl (by (try simp only [List.map_toArray, List.map_cons, List.map_nil]); first | done | rfl | (simp only [List.length_drop, List.length_take]; rfl)) ?_; (with_reducible refine (spec_HostSite.calls k t313 t314 t315 t318 _ A10.out).mono ?_); rintro e w27 ⟨rfl, hb⟩; refine ⟨_, rfl, ?_⟩; have n0_ := Aside0.mk (blk_below (g := gb316) (o := .cells #[.int .i64 t313, .string t314, .int .i64 t315] 27 (0, 0)) (by (with_reducible repeat (first | refine blk_drewN ?_ _ | refine blk_drew ?_ | refine blk_alloc ?_ _)); exact BK316.out) hb); have n1_ := Aside0.mk (below_step (by repeat (first | (with_reducible first | exact HB.out | apply below_alloc | apply pw_below_drewN | apply below_drew1 | refine below_set ?_ GE316.out) | exact HB.out)) hb); clear BK316; clear HB; have BK316 := n0_; have HB := n1_; clear n0_ n1_; (try clear hb); (try clear hb2); (try clear hk); (try clear hi)))
        go_meet
        case rel => exact ⟨_, (true), (by first | rfl | (simp; done) | (simp [*]; done) | (simp [nen, een]; done)), H', ⟨by first | omega | exact Nat.le_refl _⟩, ⟨by (with_reducible repeat (first | refine blk_drewN ?_ _ | refine blk_drew ?_ | refine blk_alloc ?_ _)); exact BK316.out⟩, ⟨by repeat (first | (with_reducible first | exact HB.out | apply below_alloc | apply pw_below_drewN | apply below_drew1 | refine below_set ?_ GE316.out) | exact HB.out)⟩⟩
    case rest =>
      clear HC5
      try clear c1
      try clear c2
      try clear c2b0
      try clear c2b1
      try clear p2
      try clear c5
      try clear c11
      try clear c11b0
      try clear c11b1
      try clear c12
      try clear c12b0
      try clear c12b1
      try clear c14
      try clear c17
      try clear c18
      try clear c19
      try clear hcz15_0
      try clear hcz15_1
      try clear hcz15_2
      try clear hcz17_0
      try clear hcz17_1
      try clear hcz17_2
      try clear hcz19_0
      try clear hcz19_1
      try clear hcz19_2
      try clear hcz21_0
      try clear hcz21_1
      try clear hcz21_2
      try clear hcz23_0
      try clear hcz23_1
      try clear hcz23_2
      try clear hcz25_0
      try clear hcz25_1
      try clear hcz25_2
      try clear hcz26_0
      try clear hcz26_1
      try clear hcz26_2
      try clear hcz8_0
      try clear hcz8_1
      try clear hcz8_2
      try clear hfz15_0
      try clear hfz15_1
      try clear hfz15_2
      try clear hfz17_0
      try clear hfz17_1
      try clear hfz17_2
      try clear hfz19_0
      try clear hfz19_1
      try clear hfz19_2
      try clear hfz21_0
      try clear hfz21_1
      try clear hfz21_2
      try clear hfz23_0
      try clear hfz23_1
      try clear hfz23_2
      try clear hfz25_0
      try clear hfz25_1
      try clear hfz25_2
      try clear hfz26_0
      try clear hfz26_1
      try clear hfz26_2
      try clear hfz8_0
      try clear hfz8_1
      try clear hfz8_2
      obtain ⟨kq, x35_4, rfl, HA, HJ4, BK316, HB⟩ := hcut
      cases kq with
      | zero => exact absurd HA.out (by simp [laws_FnHostSite.j0])
      | succ kj4 =>
        have H := HA.out
        clear HA
        simp only [laws_FnHostSite.j0] at H
        by_cases c28 : x35_4 = true
        · subst c28
          have H1 : ((spec_HostSite.f kj4 t313 t314 t315).bind fun t320 => (some (t317.toList == t320.toList))) = some r := by rw [if_pos rfl] at H; exact H
          clear H
          have H := H1
          clear H1
          replace H := Option.bind_eq_some_iff.mp H
          obtain ⟨t320, A290, H⟩ := H
          replace H : (some (t317.toList == t320.toList)) = some r := H
          have A29 := Aside0.mk A290
          clear A290
          obtain rfl := Option.some.inj H
          have hcz30_0 : wc.cell? ⟨gb316, 0, none⟩ = some (.int .i64 t313) := (blk_cell BK316.out 0).trans rfl
          have hcz30_1 : wc.cell? ⟨gb316, 1, none⟩ = some (.string t314) := (blk_cell BK316.out 1).trans rfl
          have hcz30_2 : wc.cell? ⟨gb316, 2, none⟩ = some (.int .i64 t315) := (blk_cell BK316.out 2).trans rfl
          have hfz30_0 := blk_frozen BK316.out 0
          have hfz30_1 := blk_frozen BK316.out 1
          have hfz30_2 := blk_frozen BK316.out 2
          go_wp2_with (first | ((with_reducible refine gate_callee (f := 19) rfl ?_); refine goesL_ (some 38) rfl rfl Tryd.func19 (by kernel_rfl) rfl #[.agg #[.int .i64 t313, .string t314, .int .i64 t315]] rfl (by (try simp only [List.map_toArray, List.map_cons, List.map_nil]); first | done | rfl | (simp only [List.length_drop, List.length_take]; rfl)) ?_; (with_reducible refine (spec_HostSite.calls kj4 t313 t314 t315 t320 _ A29.out).mono ?_); rintro e w31 ⟨rfl, hb⟩; refine ⟨_, rfl, ?_⟩; have n0_ := Aside0.mk (blk_below (g := gb316) (o := .cells #[.int .i64 t313, .string t314, .int .i64 t315] 27 (0, 0)) (by (with_reducible repeat (first | refine blk_drewN ?_ _ | refine blk_drew ?_ | refine blk_alloc ?_ _)); exact BK316.out) hb); have n1_ := Aside0.mk (below_step (by repeat (first | (with_reducible first | exact HB.out | apply below_alloc | apply pw_below_drewN | apply below_drew1 | refine below_set ?_ GE316.out) | exact HB.out)) hb); clear BK316; clear HB; have BK316 := n0_; have HB := n1_; clear n0_ n1_; (try clear hb); (try clear hb2); (try clear hk); (try clear hi)))
          go_ret
          exact ⟨by first | rfl | (simp [errW_none, errW_some] <;> rfl) | (simp [*, errW_none, errW_some] <;> rfl) | (simp [nen, een]; done), by repeat (first | (with_reducible first | exact HB.out | apply below_alloc | apply pw_below_drewN | apply below_drew1 | refine below_set ?_ GE316.out) | exact HB.out)⟩
        · replace c28 := Bool.eq_false_iff.mpr c28
          subst c28
          have H1 : ((impl_HostGet.f kj4 t317).bind fun bt321 => (if 4 + t317.size ≤ 9223372036854775807 then ((impl_HostGet.f kj4 ((⟨#[119, 119, 119, 46]⟩ : ByteArray) ++ t317)).bind fun bt326 => (laws_FnHostSite.l0 kj4 t317 bt321.2.2.2 bt326.2.2.2 0 0 bt321.1 bt321.2.1 bt321.2.2.1 bt326.1 bt326.2.1 bt326.2.2.1)) else (none))) = some r := by rw [if_neg (show ¬ (false = true) by decide)] at H; exact H
          clear H
          have H := H1
          clear H1
          replace H := Option.bind_eq_some_iff.mp H
          obtain ⟨⟨t321, t322, t323, t324⟩, A320, H⟩ := H
          replace H : (if 4 + t317.size ≤ 9223372036854775807 then ((impl_HostGet.f kj4 ((⟨#[119, 119, 119, 46]⟩ : ByteArray) ++ t317)).bind fun bt326 => (laws_FnHostSite.l0 kj4 t317 t324 bt326.2.2.2 0 0 t321 t322 t323 bt326.1 bt326.2.1 bt326.2.2.1)) else (none)) = some r := H
          have A32 := Aside0.mk A320
          clear A320
          by_cases c33 : 4 + t317.size ≤ 9223372036854775807
          · rw [if_pos c33] at H
            have c33b0 := eq_true c33
            have c33b1 : decide (4 + t317.size ≤ 9223372036854775807) = true := decide_eq_true c33
            try have c33b2 : (9223372036854775807 < 4 + t317.size) = False := eq_false (Nat.not_lt.2 c33)
            replace H := Option.bind_eq_some_iff.mp H
            obtain ⟨⟨t326, t327, t328, t329⟩, A340, H⟩ := H
            replace H : (laws_FnHostSite.l0 kj4 t317 t324 t329 0 0 t321 t322 t323 t326 t327 t328) = some r := H
            have A34 := Aside0.mk A340
            clear A340
            have H' := Aside0.mk H
            clear H
            go_wp2_with (first | ((with_reducible refine gate_callee (f := 9) rfl ?_); refine goesL_ (some 42) rfl rfl Tryd.func9 (by kernel_rfl) rfl #[.string t317] rfl (by (try simp only [List.map_toArray, List.map_cons, List.map_nil]); first | done | rfl | (simp only [List.length_drop, List.length_take]; rfl)) ?_; (with_reducible refine (impl_HostGet.calls kj4 t317 t321 t322 t323 t324 _ ?side1 A32.out).mono ?_); (case side1 => exact TabM.below HTB.out.1 (by repeat (first | (with_reducible first | exact HB.out | apply below_alloc | apply pw_below_drewN | apply below_drew1 | refine below_set ?_ GE316.out) | exact HB.out))); rintro e w35 ⟨rfl, hb⟩; refine ⟨_, rfl, ?_⟩; have n0_ := Aside0.mk (blk_below (g := gb316) (o := .cells #[.int .i64 t313, .string t314, .int .i64 t315] 27 (0, 0)) (by (with_reducible repeat (first | refine blk_drewN ?_ _ | refine blk_drew ?_ | refine blk_alloc ?_ _)); exact BK316.out) hb); have n1_ := Aside0.mk (below_step (by repeat (first | (with_reducible first | exact HB.out | apply below_alloc | apply pw_below_drewN | apply below_drew1 | refine below_set ?_ GE316.out) | exact HB.out)) hb); clear BK316; clear HB; have BK316 := n0_; have HB := n1_; clear n0_ n1_; (try clear hb); (try clear hb2); (try clear hk); (try clear hi)) | ((with_reducible refine gate_dst (N := 5) rfl ?_); refine box_event ?hg (N := 5) ?hd (cs := #[.int .i64 0, .string (⟨#[]⟩ : ByteArray), .int .i64 0]) (t := 27) ?hr ?_; (case hd => rfl); (case hg => rfl); (case hr => first | (go_simp; done) | (go_simp; rfl)); intro gb325 hg w36 hbox hb; have n0_ := Aside0.mk (blk_below (g := gb316) (o := .cells #[.int .i64 t313, .string t314, .int .i64 t315] 27 (0, 0)) (by (with_reducible repeat (first | refine blk_drewN ?_ _ | refine blk_drew ?_ | refine blk_alloc ?_ _)); exact BK316.out) hb); have n1_ := Aside0.mk (below_step (by repeat (first | (with_reducible first | exact HB.out | apply below_alloc | apply pw_below_drewN | apply below_drew1 | refine below_set ?_ GE316.out) | exact HB.out)) hb); have n2_ := Aside0.mk (hbox); have n3_ := Aside0.mk ((by rw [hg]; exact (below_size (by repeat (first | (with_reducible first | exact HB.out | apply below_alloc | apply pw_below_drewN | apply below_drew1 | refine below_set ?_ GE316.out) | exact HB.out))) : w.heap.size ≤ gb325)); have n4_ := Aside0.mk ((by rw [hg]; exact (below_size (by repeat (first | (with_reducible first | exact HB.out | apply below_alloc | apply pw_below_drewN | apply below_drew1 | refine below_set ?_ GE316.out) | exact HB.out))) : w.heap.size ≤ gb325)); have n5_ := Aside0.mk ((by rw [hg]; exact Nat.ne_of_lt (blk_lt (g := gb316) (o := .cells #[.int .i64 t313, .string t314, .int .i64 t315] 27 (0, 0)) (by (with_reducible repeat (first | refine blk_drewN ?_ _ | refine blk_drew ?_ | refine blk_alloc ?_ _)); exact BK316.out)) : gb316 ≠ gb325)); have n6_ := Aside0.mk ((by rw [hg]; exact Nat.ne_of_gt (blk_lt (g := gb316) (o := .cells #[.int .i64 t313, .string t314, .int .i64 t315] 27 (0, 0)) (by (with_reducible repeat (first | refine blk_drewN ?_ _ | refine blk_drew ?_ | refine blk_alloc ?_ _)); exact BK316.out)) : gb325 ≠ gb316)); clear BK316; clear HB; have BK316 := n0_; have HB := n1_; have BK325 := n2_; have GW325 := n3_; have GE325 := n4_; have NB316_325 := n5_; have NB325_316 := n6_; clear n0_ n1_ n2_ n3_ n4_ n5_ n6_; clear hb hbox hg; have hnb37 := NB325_316.out; have hnc37 := NB316_325.out; have hcz38_0 : w36.cell? ⟨gb325, 0, none⟩ = some (.int .i64 0) := (blk_cell BK325.out 0).trans rfl; have hcz38_1 : w36.cell? ⟨gb325, 1, none⟩ = some (.string (⟨#[]⟩ : ByteArray)) := (blk_cell BK325.out 1).trans rfl; have hcz38_2 : w36.cell? ⟨gb325, 2, none⟩ = some (.int .i64 0) := (blk_cell BK325.out 2).trans rfl; have hfz38_0 := blk_frozen BK325.out 0; have hfz38_1 := blk_frozen BK325.out 1; have hfz38_2 := blk_frozen BK325.out 2) | ((with_reducible refine gate_callee (f := 9) rfl ?_); refine goesL_ (some 48) rfl rfl Tryd.func9 (by kernel_rfl) rfl #[.string ((⟨#[119, 119, 119, 46]⟩ : ByteArray) ++ t317)] rfl (by (try simp only [List.map_toArray, List.map_cons, List.map_nil]); first | done | rfl | (simp only [List.length_drop, List.length_take]; rfl)) ?_; (with_reducible refine (impl_HostGet.calls kj4 ((⟨#[119, 119, 119, 46]⟩ : ByteArray) ++ t317) t326 t327 t328 t329 _ ?side1 A34.out).mono ?_); (case side1 => exact TabM.below HTB.out.1 (by repeat (first | (with_reducible first | exact HB.out | apply below_alloc | apply pw_below_drewN | apply below_drew1 | refine below_set ?_ GE316.out | refine below_set ?_ GE325.out) | exact HB.out))); rintro e w39 ⟨rfl, hb⟩; refine ⟨_, rfl, ?_⟩; have n0_ := Aside0.mk (blk_below (g := gb316) (o := .cells #[.int .i64 t313, .string t314, .int .i64 t315] 27 (0, 0)) (by (with_reducible repeat (first | refine blk_drewN ?_ _ | refine blk_drew ?_ | refine blk_alloc ?_ _)); refine blk_far ?_ NB316_325.out _; (with_reducible repeat (first | refine blk_drewN ?_ _ | refine blk_drew ?_ | refine blk_alloc ?_ _)); refine blk_far ?_ NB316_325.out _; (with_reducible repeat (first | refine blk_drewN ?_ _ | refine blk_drew ?_ | refine blk_alloc ?_ _)); refine blk_far ?_ NB316_325.out _; (with_reducible repeat (first | refine blk_drewN ?_ _ | refine blk_drew ?_ | refine blk_alloc ?_ _)); exact BK316.out) hb); have n1_ := Aside0.mk (blk_below (g := gb325) (o := .cells #[.int .i64 t321, .string t322, .int .i64 t323] 27 (0, 0)) (by (with_reducible repeat (first | refine blk_drewN ?_ _ | refine blk_drew ?_ | refine blk_alloc ?_ _)); refine blk_put (cs := #[.int .i64 t321, .string t322, .int .i64 0]) ?_ 2 _ rfl; (with_reducible repeat (first | refine blk_drewN ?_ _ | refine blk_drew ?_ | refine blk_alloc ?_ _)); refine blk_put (cs := #[.int .i64 t321, .string (⟨#[]⟩ : ByteArray), .int .i64 0]) ?_ 1 _ rfl; (with_reducible repeat (first | refine blk_drewN ?_ _ | refine blk_drew ?_ | refine blk_alloc ?_ _)); refine blk_put (cs := #[.int .i64 0, .string (⟨#[]⟩ : ByteArray), .int .i64 0]) ?_ 0 _ rfl; (with_reducible repeat (first | refine blk_drewN ?_ _ | refine blk_drew ?_ | refine blk_alloc ?_ _)); exact BK325.out) hb); have n2_ := Aside0.mk (below_step (by repeat (first | (with_reducible first | exact HB.out | apply below_alloc | apply pw_below_drewN | apply below_drew1 | refine below_set ?_ GE316.out | refine below_set ?_ GE325.out) | exact HB.out)) hb); clear BK316; clear BK325; clear HB; have BK316 := n0_; have BK325 := n1_; have HB := n2_; clear n0_ n1_ n2_; (try clear hb); (try clear hb2); (try clear hk); (try clear hi)) | ((with_reducible refine gate_dst (N := 7) rfl ?_); refine box_event ?hg (N := 7) ?hd (cs := #[.int .i64 0, .string (⟨#[]⟩ : ByteArray), .int .i64 0]) (t := 27) ?hr ?_; (case hd => rfl); (case hg => rfl); (case hr => first | (go_simp; done) | (go_simp; rfl)); intro gb330 hg w40 hbox hb; have n0_ := Aside0.mk (blk_below (g := gb316) (o := .cells #[.int .i64 t313, .string t314, .int .i64 t315] 27 (0, 0)) (by (with_reducible repeat (first | refine blk_drewN ?_ _ | refine blk_drew ?_ | refine blk_alloc ?_ _)); exact BK316.out) hb); have n1_ := Aside0.mk (blk_below (g := gb325) (o := .cells #[.int .i64 t321, .string t322, .int .i64 t323] 27 (0, 0)) (by (with_reducible repeat (first | refine blk_drewN ?_ _ | refine blk_drew ?_ | refine blk_alloc ?_ _)); exact BK325.out) hb); have n2_ := Aside0.mk (below_step (by repeat (first | (with_reducible first | exact HB.out | apply below_alloc | apply pw_below_drewN | apply below_drew1 | refine below_set ?_ GE316.out | refine below_set ?_ GE325.out) | exact HB.out)) hb); have n3_ := Aside0.mk (hbox); have n4_ := Aside0.mk ((by rw [hg]; exact (below_size (by repeat (first | (with_reducible first | exact HB.out | apply below_alloc | apply pw_below_drewN | apply below_drew1 | refine below_set ?_ GE316.out | refine below_set ?_ GE325.out) | exact HB.out))) : w.heap.size ≤ gb330)); have n5_ := Aside0.mk ((by rw [hg]; exact (below_size (by repeat (first | (with_reducible first | exact HB.out | apply below_alloc | apply pw_below_drewN | apply below_drew1 | refine below_set ?_ GE316.out | refine below_set ?_ GE325.out) | exact HB.out))) : w.heap.size ≤ gb330)); have n6_ := Aside0.mk ((by rw [hg]; exact Nat.ne_of_lt (blk_lt (g := gb316) (o := .cells #[.int .i64 t313, .string t314, .int .i64 t315] 27 (0, 0)) (by (with_reducible repeat (first | refine blk_drewN ?_ _ | refine blk_drew ?_ | refine blk_alloc ?_ _)); exact BK316.out)) : gb316 ≠ gb330)); have n7_ := Aside0.mk ((by rw [hg]; exact Nat.ne_of_gt (blk_lt (g := gb316) (o := .cells #[.int .i64 t313, .string t314, .int .i64 t315] 27 (0, 0)) (by (with_reducible repeat (first | refine blk_drewN ?_ _ | refine blk_drew ?_ | refine blk_alloc ?_ _)); exact BK316.out)) : gb330 ≠ gb316)); have n8_ := Aside0.mk ((by rw [hg]; exact Nat.ne_of_lt (blk_lt (g := gb325) (o := .cells #[.int .i64 t321, .string t322, .int .i64 t323] 27 (0, 0)) (by (with_reducible repeat (first | refine blk_drewN ?_ _ | refine blk_drew ?_ | refine blk_alloc ?_ _)); exact BK325.out)) : gb325 ≠ gb330)); have n9_ := Aside0.mk ((by rw [hg]; exact Nat.ne_of_gt (blk_lt (g := gb325) (o := .cells #[.int .i64 t321, .string t322, .int .i64 t323] 27 (0, 0)) (by (with_reducible repeat (first | refine blk_drewN ?_ _ | refine blk_drew ?_ | refine blk_alloc ?_ _)); exact BK325.out)) : gb330 ≠ gb325)); clear BK316; clear BK325; clear HB; have BK316 := n0_; have BK325 := n1_; have HB := n2_; have BK330 := n3_; have GW330 := n4_; have GE330 := n5_; have NB316_330 := n6_; have NB330_316 := n7_; have NB325_330 := n8_; have NB330_325 := n9_; clear n0_ n1_ n2_ n3_ n4_ n5_ n6_ n7_ n8_ n9_; clear hb hbox hg; have hnb41 := NB330_316.out; have hnc41 := NB316_330.out; have hnb42 := NB330_325.out; have hnc42 := NB325_330.out; have hcz43_0 : w40.cell? ⟨gb330, 0, none⟩ = some (.int .i64 0) := (blk_cell BK330.out 0).trans rfl; have hcz43_1 : w40.cell? ⟨gb330, 1, none⟩ = some (.string (⟨#[]⟩ : ByteArray)) := (blk_cell BK330.out 1).trans rfl; have hcz43_2 : w40.cell? ⟨gb330, 2, none⟩ = some (.int .i64 0) := (blk_cell BK330.out 2).trans rfl; have hfz43_0 := blk_frozen BK330.out 0; have hfz43_1 := blk_frozen BK330.out 1; have hfz43_2 := blk_frozen BK330.out 2))
            go_loopg [9, 10] kj4 (fun kq v9 v10 w' => ∃ (x9_2 : Int) (x10_2 : Int), v9 = .int .i64 x9_2 ∧ v10 = .int .i64 x10_2 ∧ Aside0 (laws_FnHostSite.l0 kq t317 t324 t329 x9_2 x10_2 t321 t322 t323 t326 t327 t328 = some r) ∧ Aside0 (kq ≤ kj4) ∧ Aside0 (w'.heap[gb316]? = some (.cells #[.int .i64 t313, .string t314, .int .i64 t315] 27 (0, 0))) ∧ Aside0 (w'.heap[gb325]? = some (.cells #[.int .i64 t321, .string t322, .int .i64 t323] 27 (0, 0))) ∧ Aside0 (w'.heap[gb330]? = some (.cells #[.int .i64 t326, .string t327, .int .i64 t328] 27 (0, 0))) ∧ Aside0 (Below w.heap.size w w'))
            case atStart => exact ⟨(0), (0), (by first | rfl | (simp; done) | (simp [*]; done) | (simp [nen, een]; done)), (by first | rfl | (simp; done) | (simp [*]; done) | (simp [nen, een]; done)), H', ⟨Nat.le_refl _⟩, ⟨by (with_reducible repeat (first | refine blk_drewN ?_ _ | refine blk_drew ?_ | refine blk_alloc ?_ _)); refine blk_far ?_ NB316_330.out _; (with_reducible repeat (first | refine blk_drewN ?_ _ | refine blk_drew ?_ | refine blk_alloc ?_ _)); refine blk_far ?_ NB316_330.out _; (with_reducible repeat (first | refine blk_drewN ?_ _ | refine blk_drew ?_ | refine blk_alloc ?_ _)); refine blk_far ?_ NB316_330.out _; (with_reducible repeat (first | refine blk_drewN ?_ _ | refine blk_drew ?_ | refine blk_alloc ?_ _)); exact BK316.out⟩, ⟨by (with_reducible repeat (first | refine blk_drewN ?_ _ | refine blk_drew ?_ | refine blk_alloc ?_ _)); refine blk_far ?_ NB325_330.out _; (with_reducible repeat (first | refine blk_drewN ?_ _ | refine blk_drew ?_ | refine blk_alloc ?_ _)); refine blk_far ?_ NB325_330.out _; (with_reducible repeat (first | refine blk_drewN ?_ _ | refine blk_drew ?_ | refine blk_alloc ?_ _)); refine blk_far ?_ NB325_330.out _; (with_reducible repeat (first | refine blk_drewN ?_ _ | refine blk_drew ?_ | refine blk_alloc ?_ _)); exact BK325.out⟩, ⟨by (with_reducible repeat (first | refine blk_drewN ?_ _ | refine blk_drew ?_ | refine blk_alloc ?_ _)); refine blk_put (cs := #[.int .i64 t326, .string t327, .int .i64 0]) ?_ 2 _ rfl; (with_reducible repeat (first | refine blk_drewN ?_ _ | refine blk_drew ?_ | refine blk_alloc ?_ _)); refine blk_put (cs := #[.int .i64 t326, .string (⟨#[]⟩ : ByteArray), .int .i64 0]) ?_ 1 _ rfl; (with_reducible repeat (first | refine blk_drewN ?_ _ | refine blk_drew ?_ | refine blk_alloc ?_ _)); refine blk_put (cs := #[.int .i64 0, .string (⟨#[]⟩ : ByteArray), .int .i64 0]) ?_ 0 _ rfl; (with_reducible repeat (first | refine blk_drewN ?_ _ | refine blk_drew ?_ | refine blk_alloc ?_ _)); exact BK330.out⟩, ⟨by repeat (first | (with_reducible first | exact HB.out | apply below_alloc | apply pw_below_drewN | apply below_drew1 | refine below_set ?_ GE316.out | refine below_set ?_ GE325.out | refine below_set ?_ GE330.out) | exact HB.out)⟩⟩
            case round =>
              clear H'
              try clear c1
              try clear c2
              try clear c2b0
              try clear c2b1
              try clear p2
              try clear c3
              try clear c4
              try clear c5
              try clear c9
              try clear c11
              try clear c11b0
              try clear c11b1
              try clear c12
              try clear c12b0
              try clear c12b1
              try clear c14
              try clear c17
              try clear c18
              try clear c19
              try clear c28
              try clear c33
              try clear c33b0
              try clear c33b1
              try clear c33b2
              try clear c37
              try clear c41
              try clear c42
              try clear hcz15_0
              try clear hcz15_1
              try clear hcz15_2
              try clear hcz17_0
              try clear hcz17_1
              try clear hcz17_2
              try clear hcz19_0
              try clear hcz19_1
              try clear hcz19_2
              try clear hcz21_0
              try clear hcz21_1
              try clear hcz21_2
              try clear hcz23_0
              try clear hcz23_1
              try clear hcz23_2
              try clear hcz25_0
              try clear hcz25_1
              try clear hcz25_2
              try clear hcz26_0
              try clear hcz26_1
              try clear hcz26_2
              try clear hcz30_0
              try clear hcz30_1
              try clear hcz30_2
              try clear hcz38_0
              try clear hcz38_1
              try clear hcz38_2
              try clear hcz43_0
              try clear hcz43_1
              try clear hcz43_2
              try clear hcz8_0
              try clear hcz8_1
              try clear hcz8_2
              try clear hfz15_0
              try clear hfz15_1
              try clear hfz15_2
              try clear hfz17_0
              try clear hfz17_1
              try clear hfz17_2
              try clear hfz19_0
              try clear hfz19_1
              try clear hfz19_2
              try clear hfz21_0
              try clear hfz21_1
              try clear hfz21_2
              try clear hfz23_0
              try clear hfz23_1
              try clear hfz23_2
              try clear hfz25_0
              try clear hfz25_1
              try clear hfz25_2
              try clear hfz26_0
              try clear hfz26_1
              try clear hfz26_2
              try clear hfz30_0
              try clear hfz30_1
              try clear hfz30_2
              try clear hfz38_0
              try clear hfz38_1
              try clear hfz38_2
              try clear hfz43_0
              try clear hfz43_1
              try clear hfz43_2
              try clear hfz8_0
              try clear hfz8_1
              try clear hfz8_2
              try clear p2
              obtain ⟨x9_2, x10_2, rfl, rfl, HA, HK2, BK316, BK325, BK330, HB⟩ := hrel
              cases gk with
              | zero => exact absurd HA.out (by simp [laws_FnHostSite.l0])
              | succ k2 =>
                have H := HA.out
                clear HA
                simp only [laws_FnHostSite.l0] at H
                by_cases c44 : x10_2 < (t317.size : Int)
                · rw [if_pos c44] at H
                  have c44b0 : decide (x10_2 < (t317.size : Int)) = true := decide_eq_true c44
                  clear c44
                  by_cases c45 : 0 ≤ x10_2
                  · rw [if_pos c45] at H
                    have c45b0 : decide (0 ≤ x10_2) = true := decide_eq_true c45
                    clear c45
                    by_cases c47 : (bt t317 x10_2) = 46
                    · rw [if_pos c47] at H
                      have c47b0 : ((bt t317 x10_2) == 46) = true := beq_iff_eq.mpr c47
                      have c47b1 : ((bt t317 x10_2) != 46) = false := bne_eq_false_iff_eq.mpr c47
                      clear c47
                      have H' := Aside0.mk H
                      clear H
                      have p46 : 0 ≤ (x10_2 : Int) := of_decide_eq_true (by first | (with_reducible assumption) | assumption)
                      have q46 : x10_2 < (t317.size : Int) := of_decide_eq_true (by first | (with_reducible assumption) | assumption)
                      have hx46 := bt_at t317 x10_2
                      replace p46 := eq_true p46
                      replace q46 := eq_true q46
                      go_wp2
                      go_roundg k2
                      case measure => have := HJ4.out; have := HK2.out; omega
                      case rel => exact ⟨(wrap64 (x9_2 + 1)), (wrap64 (x10_2 + 1)), (by first | rfl | (simp; done) | (simp [*]; done) | (simp [nen, een]; done)), (by first | rfl | (simp; done) | (simp [*]; done) | (simp [nen, een]; done)), H', ⟨by have := HJ4.out; have := HK2.out; omega⟩, ⟨by (with_reducible repeat (first | refine blk_drewN ?_ _ | refine blk_drew ?_ | refine blk_alloc ?_ _)); exact BK316.out⟩, ⟨by (with_reducible repeat (first | refine blk_drewN ?_ _ | refine blk_drew ?_ | refine blk_alloc ?_ _)); exact BK325.out⟩, ⟨by (with_reducible repeat (first | refine blk_drewN ?_ _ | refine blk_drew ?_ | refine blk_alloc ?_ _)); exact BK330.out⟩, ⟨by repeat (first | (with_reducible first | exact HB.out | apply below_alloc | apply pw_below_drewN | apply below_drew1 | refine below_set ?_ GE316.out | refine below_set ?_ GE325.out | refine below_set ?_ GE330.out) | exact HB.out)⟩⟩
                    · rw [if_neg c47] at H
                      have c47b0 : ((bt t317 x10_2) == 46) = false := beq_eq_false_iff_ne.mpr c47
                      have c47b1 : ((bt t317 x10_2) != 46) = true := bne_iff_ne.mpr c47
                      have H' := Aside0.mk H
                      clear H
                      have p46 : 0 ≤ (x10_2 : Int) := of_decide_eq_true (by first | (with_reducible assumption) | assumption)
                      have q46 : x10_2 < (t317.size : Int) := of_decide_eq_true (by first | (with_reducible assumption) | assumption)
                      have hx46 := bt_at t317 x10_2
                      replace p46 := eq_true p46
                      replace q46 := eq_true q46
                      go_wp2
                      go_roundg k2
                      case measure => have := HJ4.out; have := HK2.out; omega
                      case rel => exact ⟨(x9_2), (wrap64 (x10_2 + 1)), (by first | rfl | (simp; done) | (simp [*]; done) | (simp [nen, een]; done)), (by first | rfl | (simp; done) | (simp [*]; done) | (simp [nen, een]; done)), H', ⟨by have := HJ4.out; have := HK2.out; omega⟩, ⟨by (with_reducible repeat (first | refine blk_drewN ?_ _ | refine blk_drew ?_ | refine blk_alloc ?_ _)); exact BK316.out⟩, ⟨by (with_reducible repeat (first | refine blk_drewN ?_ _ | refine blk_drew ?_ | refine blk_alloc ?_ _)); exact BK325.out⟩, ⟨by (with_reducible repeat (first | refine blk_drewN ?_ _ | refine blk_drew ?_ | refine blk_alloc ?_ _)); exact BK330.out⟩, ⟨by repeat (first | (with_reducible first | exact HB.out | apply below_alloc | apply pw_below_drewN | apply below_drew1 | refine below_set ?_ GE316.out | refine below_set ?_ GE325.out | refine below_set ?_ GE330.out) | exact HB.out)⟩⟩
                  · rw [if_neg c45] at H
                    exact absurd H (by simp)
                · rw [if_neg c44] at H
                  have c44b0 : decide (x10_2 < (t317.size : Int)) = false := decide_eq_false c44
                  clear c44
                  by_cases c48 : t324 = true
                  · subst c48
                    have H1 : ((impl_HostSite.f k2 t321 t322 t323).bind fun t331 => (if t331.toList = t317.toList then (if x9_2 ≤ 1 then (if t329 = true then (if x9_2 = 0 then (some true) else ((impl_HostSite.f k2 t326 t327 t328).bind fun t332 => (some (t332.toList == t317.toList)))) else (some true)) else (some false)) else (some false))) = some r := by rw [if_pos rfl] at H; exact H
                    clear H
                    have H := H1
                    clear H1
                    replace H := Option.bind_eq_some_iff.mp H
                    obtain ⟨t331, A490, H⟩ := H
                    replace H : (if t331.toList = t317.toList then (if x9_2 ≤ 1 then (if t329 = true then (if x9_2 = 0 then (some true) else ((impl_HostSite.f k2 t326 t327 t328).bind fun t332 => (some (t332.toList == t317.toList)))) else (some true)) else (some false)) else (some false)) = some r := H
                    have A49 := Aside0.mk A490
                    clear A490
                    by_cases c50 : t331.toList = t317.toList
                    · rw [if_pos c50] at H
                      have c50b0 : (t331.toList == t317.toList) = true := beq_iff_eq.mpr c50
                      have c50b1 : (t331.toList != t317.toList) = false := bne_eq_false_iff_eq.mpr c50
                      clear c50
                      by_cases c51 : x9_2 ≤ 1
                      · rw [if_pos c51] at H
                        have c51b0 : decide (x9_2 ≤ 1) = true := decide_eq_true c51
                        clear c51
                        by_cases c52 : t329 = true
                        · subst c52
                          have H1 : (if x9_2 = 0 then (some true) else ((impl_HostSite.f k2 t326 t327 t328).bind fun t332 => (some (t332.toList == t317.toList)))) = some r := by rw [if_pos rfl] at H; exact H
                          clear H
                          have H := H1
                          clear H1
                          by_cases c53 : x9_2 = 0
                          · rw [if_pos c53] at H
                            have c53b0 : (x9_2 == 0) = true := beq_iff_eq.mpr c53
                            have c53b1 : (x9_2 != 0) = false := bne_eq_false_iff_eq.mpr c53
                            clear c53
                            obtain rfl := Option.some.inj H
                            have hnb54 := NB325_316.out
                            have hnc54 := NB316_325.out
                            have hnb55 := NB325_330.out
                            have hnc55 := NB330_325.out
                            have hcz56_0 : wr.cell? ⟨gb325, 0, none⟩ = some (.int .i64 t321) := (blk_cell BK325.out 0).trans rfl
                            have hcz56_1 : wr.cell? ⟨gb325, 1, none⟩ = some (.string t322) := (blk_cell BK325.out 1).trans rfl
                            have hcz56_2 : wr.cell? ⟨gb325, 2, none⟩ = some (.int .i64 t323) := (blk_cell BK325.out 2).trans rfl
                            have hfz56_0 := blk_frozen BK325.out 0
                            have hfz56_1 := blk_frozen BK325.out 1
                            have hfz56_2 := blk_frozen BK325.out 2
                            go_wp2_with (first | (go_at_call 18; (with_reducible refine (impl_HostSite.calls k2 t321 t322 t323 t331 _ ?side1 A49.out).mono ?_); (case side1 => exact TabMI.below HTB.out (by repeat (first | (with_reducible first | exact HB.out | apply below_alloc | apply pw_below_drewN | apply below_drew1 | refine below_set ?_ GE316.out | refine below_set ?_ GE325.out | refine below_set ?_ GE330.out) | exact HB.out))); rintro e w57 ⟨rfl, hb⟩; have n0_ := Aside0.mk (blk_below (g := gb316) (o := .cells #[.int .i64 t313, .string t314, .int .i64 t315] 27 (0, 0)) (by (with_reducible repeat (first | refine blk_drewN ?_ _ | refine blk_drew ?_ | refine blk_alloc ?_ _)); exact BK316.out) hb); have n1_ := Aside0.mk (blk_below (g := gb325) (o := .cells #[.int .i64 t321, .string t322, .int .i64 t323] 27 (0, 0)) (by (with_reducible repeat (first | refine blk_drewN ?_ _ | refine blk_drew ?_ | refine blk_alloc ?_ _)); exact BK325.out) hb); have n2_ := Aside0.mk (blk_below (g := gb330) (o := .cells #[.int .i64 t326, .string t327, .int .i64 t328] 27 (0, 0)) (by (with_reducible repeat (first | refine blk_drewN ?_ _ | refine blk_drew ?_ | refine blk_alloc ?_ _)); exact BK330.out) hb); have n3_ := Aside0.mk (below_step (by repeat (first | (with_reducible first | exact HB.out | apply below_alloc | apply pw_below_drewN | apply below_drew1 | refine below_set ?_ GE316.out | refine below_set ?_ GE325.out | refine below_set ?_ GE330.out) | exact HB.out)) hb); clear BK316; clear BK325; clear BK330; clear HB; have BK316 := n0_; have BK325 := n1_; have BK330 := n2_; have HB := n3_; clear n0_ n1_ n2_ n3_; (try clear hb); (try clear hb2); (try clear hk); (try clear hi)))
                            go_ret
                            exact ⟨by first | rfl | (simp [errW_none, errW_some] <;> rfl) | (simp [*, errW_none, errW_some] <;> rfl) | (simp [nen, een]; done), by repeat (first | (with_reducible first | exact HB.out | apply below_alloc | apply pw_below_drewN | apply below_drew1 | refine below_set ?_ GE316.out | refine below_set ?_ GE325.out | refine below_set ?_ GE330.out) | exact HB.out)⟩
                          · rw [if_neg c53] at H
                            have c53b0 : (x9_2 == 0) = false := beq_eq_false_iff_ne.mpr c53
                            have c53b1 : (x9_2 != 0) = true := bne_iff_ne.mpr c53
                            replace H := Option.bind_eq_some_iff.mp H
                            obtain ⟨t332, A580, H⟩ := H
                            replace H : (some (t332.toList == t317.toList)) = some r := H
                            have A58 := Aside0.mk A580
                            clear A580
                            obtain rfl := Option.some.inj H
                            have hnb59 := NB325_316.out
                            have hnc59 := NB316_325.out
                            have hnb60 := NB325_330.out
                            have hnc60 := NB330_325.out
                            have hcz61_0 : wr.cell? ⟨gb325, 0, none⟩ = some (.int .i64 t321) := (blk_cell BK325.out 0).trans rfl
                            have hcz61_1 : wr.cell? ⟨gb325, 1, none⟩ = some (.string t322) := (blk_cell BK325.out 1).trans rfl
                            have hcz61_2 : wr.cell? ⟨gb325, 2, none⟩ = some (.int .i64 t323) := (blk_cell BK325.out 2).trans rfl
                            have hfz61_0 := blk_frozen BK325.out 0
                            have hfz61_1 := blk_frozen BK325.out 1
                            have hfz61_2 := blk_frozen BK325.out 2
                            go_wp2_with (first | (go_at_call 18; (with_reducible refine (impl_HostSite.calls k2 t321 t322 t323 t331 _ ?side1 A49.out).mono ?_); (case side1 => exact TabMI.below HTB.out (by repeat (first | (with_reducible first | exact HB.out | apply below_alloc | apply pw_below_drewN | apply below_drew1 | refine below_set ?_ GE316.out | refine below_set ?_ GE325.out | refine below_set ?_ GE330.out) | exact HB.out))); rintro e w62 ⟨rfl, hb⟩; have n0_ := Aside0.mk (blk_below (g := gb316) (o := .cells #[.int .i64 t313, .string t314, .int .i64 t315] 27 (0, 0)) (by (with_reducible repeat (first | refine blk_drewN ?_ _ | refine blk_drew ?_ | refine blk_alloc ?_ _)); exact BK316.out) hb); have n1_ := Aside0.mk (blk_below (g := gb325) (o := .cells #[.int .i64 t321, .string t322, .int .i64 t323] 27 (0, 0)) (by (with_reducible repeat (first | refine blk_drewN ?_ _ | refine blk_drew ?_ | refine blk_alloc ?_ _)); exact BK325.out) hb); have n2_ := Aside0.mk (blk_below (g := gb330) (o := .cells #[.int .i64 t326, .string t327, .int .i64 t328] 27 (0, 0)) (by (with_reducible repeat (first | refine blk_drewN ?_ _ | refine blk_drew ?_ | refine blk_alloc ?_ _)); exact BK330.out) hb); have n3_ := Aside0.mk (below_step (by repeat (first | (with_reducible first | exact HB.out | apply below_alloc | apply pw_below_drewN | apply below_drew1 | refine below_set ?_ GE316.out | refine below_set ?_ GE325.out | refine below_set ?_ GE330.out) | exact HB.out)) hb); clear BK316; clear BK325; clear BK330; clear HB; have BK316 := n0_; have BK325 := n1_; have BK330 := n2_; have HB := n3_; clear n0_ n1_ n2_ n3_; (try clear hb); (try clear hb2); (try clear hk); (try clear hi); have hnb63 := NB330_316.out; have hnc63 := NB316_330.out; have hcz64_0 : w62.cell? ⟨gb330, 0, none⟩ = some (.int .i64 t326) := (blk_cell BK330.out 0).trans rfl; have hcz64_1 : w62.cell? ⟨gb330, 1, none⟩ = some (.string t327) := (blk_cell BK330.out 1).trans rfl; have hcz64_2 : w62.cell? ⟨gb330, 2, none⟩ = some (.int .i64 t328) := (blk_cell BK330.out 2).trans rfl; have hfz64_0 := blk_frozen BK330.out 0; have hfz64_1 := blk_frozen BK330.out 1; have hfz64_2 := blk_frozen BK330.out 2) | (go_at_call 18; (with_reducible refine (impl_HostSite.calls k2 t326 t327 t328 t332 _ ?side1 A58.out).mono ?_); (case side1 => exact TabMI.below HTB.out (by repeat (first | (with_reducible first | exact HB.out | apply below_alloc | apply pw_below_drewN | apply below_drew1 | refine below_set ?_ GE316.out | refine below_set ?_ GE325.out | refine below_set ?_ GE330.out) | exact HB.out))); rintro e w65 ⟨rfl, hb⟩; have n0_ := Aside0.mk (blk_below (g := gb316) (o := .cells #[.int .i64 t313, .string t314, .int .i64 t315] 27 (0, 0)) (by (with_reducible repeat (first | refine blk_drewN ?_ _ | refine blk_drew ?_ | refine blk_alloc ?_ _)); exact BK316.out) hb); have n1_ := Aside0.mk (blk_below (g := gb325) (o := .cells #[.int .i64 t321, .string t322, .int .i64 t323] 27 (0, 0)) (by (with_reducible repeat (first | refine blk_drewN ?_ _ | refine blk_drew ?_ | refine blk_alloc ?_ _)); exact BK325.out) hb); have n2_ := Aside0.mk (blk_below (g := gb330) (o := .cells #[.int .i64 t326, .string t327, .int .i64 t328] 27 (0, 0)) (by (with_reducible repeat (first | refine blk_drewN ?_ _ | refine blk_drew ?_ | refine blk_alloc ?_ _)); exact BK330.out) hb); have n3_ := Aside0.mk (below_step (by repeat (first | (with_reducible first | exact HB.out | apply below_alloc | apply pw_below_drewN | apply below_drew1 | refine below_set ?_ GE316.out | refine below_set ?_ GE325.out | refine below_set ?_ GE330.out) | exact HB.out)) hb); clear BK316; clear BK325; clear BK330; clear HB; have BK316 := n0_; have BK325 := n1_; have BK330 := n2_; have HB := n3_; clear n0_ n1_ n2_ n3_; (try clear hb); (try clear hb2); (try clear hk); (try clear hi)))
                            go_ret
                            exact ⟨by first | rfl | (simp [errW_none, errW_some] <;> rfl) | (simp [*, errW_none, errW_some] <;> rfl) | (simp [nen, een]; done), by repeat (first | (with_reducible first | exact HB.out | apply below_alloc | apply pw_below_drewN | apply below_drew1 | refine below_set ?_ GE316.out | refine below_set ?_ GE325.out | refine below_set ?_ GE330.out) | exact HB.out)⟩
                        · replace c52 := Bool.eq_false_iff.mpr c52
                          subst c52
                          have H1 : (some true) = some r := by rw [if_neg (show ¬ (false = true) by decide)] at H; exact H
                          clear H
                          have H := H1
                          clear H1
                          obtain rfl := Option.some.inj H
                          have hnb66 := NB325_316.out
                          have hnc66 := NB316_325.out
                          have hnb67 := NB325_330.out
                          have hnc67 := NB330_325.out
                          have hcz68_0 : wr.cell? ⟨gb325, 0, none⟩ = some (.int .i64 t321) := (blk_cell BK325.out 0).trans rfl
                          have hcz68_1 : wr.cell? ⟨gb325, 1, none⟩ = some (.string t322) := (blk_cell BK325.out 1).trans rfl
                          have hcz68_2 : wr.cell? ⟨gb325, 2, none⟩ = some (.int .i64 t323) := (blk_cell BK325.out 2).trans rfl
                          have hfz68_0 := blk_frozen BK325.out 0
                          have hfz68_1 := blk_frozen BK325.out 1
                          have hfz68_2 := blk_frozen BK325.out 2
                          go_wp2_with (first | (go_at_call 18; (with_reducible refine (impl_HostSite.calls k2 t321 t322 t323 t331 _ ?side1 A49.out).mono ?_); (case side1 => exact TabMI.below HTB.out (by repeat (first | (with_reducible first | exact HB.out | apply below_alloc | apply pw_below_drewN | apply below_drew1 | refine below_set ?_ GE316.out | refine below_set ?_ GE325.out | refine below_set ?_ GE330.out) | exact HB.out))); rintro e w69 ⟨rfl, hb⟩; have n0_ := Aside0.mk (blk_below (g := gb316) (o := .cells #[.int .i64 t313, .string t314, .int .i64 t315] 27 (0, 0)) (by (with_reducible repeat (first | refine blk_drewN ?_ _ | refine blk_drew ?_ | refine blk_alloc ?_ _)); exact BK316.out) hb); have n1_ := Aside0.mk (blk_below (g := gb325) (o := .cells #[.int .i64 t321, .string t322, .int .i64 t323] 27 (0, 0)) (by (with_reducible repeat (first | refine blk_drewN ?_ _ | refine blk_drew ?_ | refine blk_alloc ?_ _)); exact BK325.out) hb); have n2_ := Aside0.mk (blk_below (g := gb330) (o := .cells #[.int .i64 t326, .string t327, .int .i64 t328] 27 (0, 0)) (by (with_reducible repeat (first | refine blk_drewN ?_ _ | refine blk_drew ?_ | refine blk_alloc ?_ _)); exact BK330.out) hb); have n3_ := Aside0.mk (below_step (by repeat (first | (with_reducible first | exact HB.out | apply below_alloc | apply pw_below_drewN | apply below_drew1 | refine below_set ?_ GE316.out | refine below_set ?_ GE325.out | refine below_set ?_ GE330.out) | exact HB.out)) hb); clear BK316; clear BK325; clear BK330; clear HB; have BK316 := n0_; have BK325 := n1_; have BK330 := n2_; have HB := n3_; clear n0_ n1_ n2_ n3_; (try clear hb); (try clear hb2); (try clear hk); (try clear hi)))
                          go_ret
                          exact ⟨by first | rfl | (simp [errW_none, errW_some] <;> rfl) | (simp [*, errW_none, errW_some] <;> rfl) | (simp [nen, een]; done), by repeat (first | (with_reducible first | exact HB.out | apply below_alloc | apply pw_below_drewN | apply below_drew1 | refine below_set ?_ GE316.out | refine below_set ?_ GE325.out | refine below_set ?_ GE330.out) | exact HB.out)⟩
                      · rw [if_neg c51] at H
                        have c51b0 : decide (x9_2 ≤ 1) = false := decide_eq_false c51
                        clear c51
                        obtain rfl := Option.some.inj H
                        have hnb70 := NB325_316.out
                        have hnc70 := NB316_325.out
                        have hnb71 := NB325_330.out
                        have hnc71 := NB330_325.out
                        have hcz72_0 : wr.cell? ⟨gb325, 0, none⟩ = some (.int .i64 t321) := (blk_cell BK325.out 0).trans rfl
                        have hcz72_1 : wr.cell? ⟨gb325, 1, none⟩ = some (.string t322) := (blk_cell BK325.out 1).trans rfl
                        have hcz72_2 : wr.cell? ⟨gb325, 2, none⟩ = some (.int .i64 t323) := (blk_cell BK325.out 2).trans rfl
                        have hfz72_0 := blk_frozen BK325.out 0
                        have hfz72_1 := blk_frozen BK325.out 1
                        have hfz72_2 := blk_frozen BK325.out 2
                        go_wp2_with (first | (go_at_call 18; (with_reducible refine (impl_HostSite.calls k2 t321 t322 t323 t331 _ ?side1 A49.out).mono ?_); (case side1 => exact TabMI.below HTB.out (by repeat (first | (with_reducible first | exact HB.out | apply below_alloc | apply pw_below_drewN | apply below_drew1 | refine below_set ?_ GE316.out | refine below_set ?_ GE325.out | refine below_set ?_ GE330.out) | exact HB.out))); rintro e w73 ⟨rfl, hb⟩; have n0_ := Aside0.mk (blk_below (g := gb316) (o := .cells #[.int .i64 t313, .string t314, .int .i64 t315] 27 (0, 0)) (by (with_reducible repeat (first | refine blk_drewN ?_ _ | refine blk_drew ?_ | refine blk_alloc ?_ _)); exact BK316.out) hb); have n1_ := Aside0.mk (blk_below (g := gb325) (o := .cells #[.int .i64 t321, .string t322, .int .i64 t323] 27 (0, 0)) (by (with_reducible repeat (first | refine blk_drewN ?_ _ | refine blk_drew ?_ | refine blk_alloc ?_ _)); exact BK325.out) hb); have n2_ := Aside0.mk (blk_below (g := gb330) (o := .cells #[.int .i64 t326, .string t327, .int .i64 t328] 27 (0, 0)) (by (with_reducible repeat (first | refine blk_drewN ?_ _ | refine blk_drew ?_ | refine blk_alloc ?_ _)); exact BK330.out) hb); have n3_ := Aside0.mk (below_step (by repeat (first | (with_reducible first | exact HB.out | apply below_alloc | apply pw_below_drewN | apply below_drew1 | refine below_set ?_ GE316.out | refine below_set ?_ GE325.out | refine below_set ?_ GE330.out) | exact HB.out)) hb); clear BK316; clear BK325; clear BK330; clear HB; have BK316 := n0_; have BK325 := n1_; have BK330 := n2_; have HB := n3_; clear n0_ n1_ n2_ n3_; (try clear hb); (try clear hb2); (try clear hk); (try clear hi)))
                        go_ret
                        exact ⟨by first | rfl | (simp [errW_none, errW_some] <;> rfl) | (simp [*, errW_none, errW_some] <;> rfl) | (simp [nen, een]; done), by repeat (first | (with_reducible first | exact HB.out | apply below_alloc | apply pw_below_drewN | apply below_drew1 | refine below_set ?_ GE316.out | refine below_set ?_ GE325.out | refine below_set ?_ GE330.out) | exact HB.out)⟩
                    · rw [if_neg c50] at H
                      have c50b0 : (t331.toList == t317.toList) = false := beq_eq_false_iff_ne.mpr c50
                      have c50b1 : (t331.toList != t317.toList) = true := bne_iff_ne.mpr c50
                      obtain rfl := Option.some.inj H
                      have hnb74 := NB325_316.out
                      have hnc74 := NB316_325.out
                      have hnb75 := NB325_330.out
                      have hnc75 := NB330_325.out
                      have hcz76_0 : wr.cell? ⟨gb325, 0, none⟩ = some (.int .i64 t321) := (blk_cell BK325.out 0).trans rfl
                      have hcz76_1 : wr.cell? ⟨gb325, 1, none⟩ = some (.string t322) := (blk_cell BK325.out 1).trans rfl
                      have hcz76_2 : wr.cell? ⟨gb325, 2, none⟩ = some (.int .i64 t323) := (blk_cell BK325.out 2).trans rfl
                      have hfz76_0 := blk_frozen BK325.out 0
                      have hfz76_1 := blk_frozen BK325.out 1
                      have hfz76_2 := blk_frozen BK325.out 2
                      go_wp2_with (first | (go_at_call 18; (with_reducible refine (impl_HostSite.calls k2 t321 t322 t323 t331 _ ?side1 A49.out).mono ?_); (case side1 => exact TabMI.below HTB.out (by repeat (first | (with_reducible first | exact HB.out | apply below_alloc | apply pw_below_drewN | apply below_drew1 | refine below_set ?_ GE316.out | refine below_set ?_ GE325.out | refine below_set ?_ GE330.out) | exact HB.out))); rintro e w77 ⟨rfl, hb⟩; have n0_ := Aside0.mk (blk_below (g := gb316) (o := .cells #[.int .i64 t313, .string t314, .int .i64 t315] 27 (0, 0)) (by (with_reducible repeat (first | refine blk_drewN ?_ _ | refine blk_drew ?_ | refine blk_alloc ?_ _)); exact BK316.out) hb); have n1_ := Aside0.mk (blk_below (g := gb325) (o := .cells #[.int .i64 t321, .string t322, .int .i64 t323] 27 (0, 0)) (by (with_reducible repeat (first | refine blk_drewN ?_ _ | refine blk_drew ?_ | refine blk_alloc ?_ _)); exact BK325.out) hb); have n2_ := Aside0.mk (blk_below (g := gb330) (o := .cells #[.int .i64 t326, .string t327, .int .i64 t328] 27 (0, 0)) (by (with_reducible repeat (first | refine blk_drewN ?_ _ | refine blk_drew ?_ | refine blk_alloc ?_ _)); exact BK330.out) hb); have n3_ := Aside0.mk (below_step (by repeat (first | (with_reducible first | exact HB.out | apply below_alloc | apply pw_below_drewN | apply below_drew1 | refine below_set ?_ GE316.out | refine below_set ?_ GE325.out | refine below_set ?_ GE330.out) | exact HB.out)) hb); clear BK316; clear BK325; clear BK330; clear HB; have BK316 := n0_; have BK325 := n1_; have BK330 := n2_; have HB := n3_; clear n0_ n1_ n2_ n3_; (try clear hb); (try clear hb2); (try clear hk); (try clear hi)))
                      go_ret
                      exact ⟨by first | rfl | (simp [errW_none, errW_some] <;> rfl) | (simp [*, errW_none, errW_some] <;> rfl) | (simp [nen, een]; done), by repeat (first | (with_reducible first | exact HB.out | apply below_alloc | apply pw_below_drewN | apply below_drew1 | refine below_set ?_ GE316.out | refine below_set ?_ GE325.out | refine below_set ?_ GE330.out) | exact HB.out)⟩
                  · replace c48 := Bool.eq_false_iff.mpr c48
                    subst c48
                    have H1 : (some false) = some r := by rw [if_neg (show ¬ (false = true) by decide)] at H; exact H
                    clear H
                    have H := H1
                    clear H1
                    obtain rfl := Option.some.inj H
                    go_wp2
                    go_ret
                    exact ⟨by first | rfl | (simp [errW_none, errW_some] <;> rfl) | (simp [*, errW_none, errW_some] <;> rfl) | (simp [nen, een]; done), by repeat (first | (with_reducible first | exact HB.out | apply below_alloc | apply pw_below_drewN | apply below_drew1 | refine below_set ?_ GE316.out | refine below_set ?_ GE325.out | refine below_set ?_ GE330.out) | exact HB.out)⟩
          · rw [if_neg c33] at H
            exact absurd H (by simp)

/-- THE ONE PURE STATEMENT of laws_FnHostSite: yours. -/
def laws_FnHostSite.Pure : Prop := ∀ (l0 : List Int), l0.length ≤ maxLen → l0.length * 1 ≤ 140737488351232 → (∀ x ∈ l0, (Lit.int .u8 x).wf = true) → ∃ k, laws_FnHostSite.f k l0 = some true
theorem laws_FnHostSite.walk (P : laws_FnHostSite.Pure) (a0 : Option Addr) (len0 cap0 : Nat) (z0 : List Int) (w : World) (w0 : (a0 = none ∧ len0 = 0 ∧ cap0 = 0 ∧ z0 = []) ∨ ∃ x, a0 = some x ∧ len0 ≤ cap0 ∧ cap0 ≤ maxLen ∧ z0.length = cap0 ∧ (∀ i, i < z0.length → w.cell? (x.add i) = some (.int .u8 (z0.getD i 0))) ∧ ∀ n ∈ z0, (Lit.int .u8 n).wf = true) (y0 : len0 * 1 ≤ 140737488351232) (hT : TabMI w) :
    Calls Tryd.prog 5 #[.slice a0 len0 cap0] w fun e w' => e = .returned (.bool true) ∧ Below w.heap.size w w' := by
  obtain ⟨l0, rfl, hr0, hm0, hw0, hc0⟩ := ReadsInt.ofRowC w0
  obtain ⟨k, h⟩ := P l0 hm0 y0 hw0
  refine (laws_FnHostSite.calls k _ _ l0 true w (Kd.C_of_reads (d := (0 : Int)) (h1 := fun _ => rfl) hr0) hc0 hT h).mono ?_
  rintro e w' ⟨rfl, hd⟩
  exact ⟨rfl, hd⟩

end Go.Proofs.YtmckdmopoeakfaaDoor.PFnHostSite
