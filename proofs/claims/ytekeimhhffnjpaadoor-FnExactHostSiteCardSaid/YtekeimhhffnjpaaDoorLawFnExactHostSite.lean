/- The law FnExactHostSite: its row, by the printed functions' contracts and the plain side. No condition beyond the row's own. -/
import Derived.Test.YtekeimhhffnjpaaDoorRows
import Derived.Test.YtekeimhhffnjpaaDoorPureFnExactHostSite
import Derived.Test.YtekeimhhffnjpaaDoorCards
import Derived.Test.YtekeimhhffnjpaaDoorTie
import Derived.Test.YtekeimhhffnjpaaDoorHA
import Derived.SevenTiedAt
import Derived.OpenVars
import Derived.LaidSub
import Derived.LaidMore
import Derived.Lib.LaidTab
import Derived.Shelf.Vars
import Derived.ChangeVars
import Derived.Lib.SmallJoins
import Derived.Lay
import Derived.WalkKit
import Derived.ProofKit
import Derived.OpenShut
import Derived.ShutString
import Derived.ChangeOld
import Derived.Below
import Derived.SizedLaws
namespace Go.Proofs.YtekeimhhffnjpaaDoor.fnExactHostSite
open Go.ChangeShapes Go.WideShapes Go.ChangeAt Go.RowKit Go.Proofs.YtekeimhhffnjpaaDoorW.PrintWords
set_option linter.unusedVariables false
theorem own : ownKnob Tryd.prog.godebug = none := by kernel_rfl
theorem laidOut : laidOutB Tryd.prog = true := by kernel_rfl
set_option maxRecDepth 100000 in
theorem door_met (os : Os) (args : Array Value) : laidMetH Tryd.prog Rows.fnExactHostSiteRow.laid ((World.laidAll Tryd.prog os Rows.fnExactHostSiteRow.laid).forCall (fun _ _ => 0) ⟨#[], args, []⟩).memory := by
  rw [MakeChecks.laidMetH_plain _ _ _ (by kernel_rfl)]; exact laidMet_laidAll _ (by kernel_rfl) (by kernel_rfl)
set_option maxRecDepth 100000 in
theorem tabI_of {W : World} (h : laidMetH Tryd.prog Rows.fnExactHostSiteRow.laid W) : Go.Proofs.YtekeimhhffnjpaaDoor.H.TabI W := by
  have h1 := h.filter (fun x => x.1 == "internal/strconv.uint64pow10")
  have e : (Rows.fnExactHostSiteRow.laid.filter (fun x => x.1 == "internal/strconv.uint64pow10")) = [("internal/strconv.uint64pow10", Lib.tabData .u64 Lib.pow10Tab)] := by kernel_rfl
  rw [e, MakeChecks.laidMetH_plain _ _ _ (by kernel_rfl)] at h1
  have hg : Tryd.prog.globalNamed "internal/strconv.uint64pow10" = some 4 := by kernel_rfl
  have ht : (Tryd.prog.globals[4]?).map (·.type) = some 125 := by kernel_rfl
  exact Lib.tabIs_of_head hg ht Tryd.underlying125 Tryd.underlying112 (by kernel_rfl) (by kernel_rfl) h1
set_option maxRecDepth 100000 in
theorem lifted (os : Os) (started : os.Started) (H : Type) (enc : TypeId × Value → H) :
    ReturnsInHanded {} Tryd.checked os 14 .any (fun w args => (Rows.fnExactHostSiteSpec.pre enc Tryd.prog Tryd.f14 Rows.fnExactHostSiteRow.domain false w args ∧ laidMetH Tryd.prog Rows.fnExactHostSiteRow.laid w) ∧ sizedMet enc Tryd.prog Tryd.f14 (OpenSpec.ofChange Rows.fnExactHostSiteSpec) false w args) (Rows.fnExactHostSiteSpec.post enc Tryd.prog Tryd.f14 false true false false) := by
  refine Go.Proofs.YtekeimhhffnjpaaDoor.H.returnsInHanded_of_laid (C := Tryd.checked) (X := fun w _ => laidMetH Tryd.prog Rows.fnExactHostSiteRow.laid w) (fun _ _ _ hh h => h.of_heap hh) own started (by kernel_rfl) Tryd.func14
    (ChangeSpec.witness_shaped (enc := enc) (C := Tryd.checked) (os := os) (X := fun w _ => laidMetH Tryd.prog Rows.fnExactHostSiteRow.laid w) false (World.laidAll Tryd.prog os Rows.fnExactHostSiteRow.laid) #[.agg #[.int .i64 0, .string ByteArray.empty, .int .i64 0]] 8 (World.laidAll_os _ _ _) (World.shaped_of_ZipB (by kernel_rfl) (by kernel_rfl)) (by kernel_rfl) (by kernel_rfl) (by kernel_rfl) (door_met os _)) ?_
  intro W base args ds gs before hval0 hW hsz0 hL hsh
  have hsz : (DataW.weightsEach Tryd.prog (Tryd.f14.params.toList ++ Rows.fnExactHostSiteSpec.plain.varTypes Tryd.prog) (ds ++ gs)).all (· ≤ reachBytes) = true := hsz0
  have hval : ∀ (j : Nat) t v, Tryd.f14.params[j]? = some t → args[j]? = some v → Value.okWide Tryd.prog W .any base t v := hval0
  have hW' := hW
  obtain ⟨p, q, hA0, hV, rfl, hfz, hnd⟩ := hW
  have hA : DataW.TrodAll enc Tryd.prog W 0 (fun _ => true) true Tryd.f14.params.toList args.toList ds p := hA0
  rw [Tryd.params14] at hA hval hsz
  obtain ⟨v0, vs0, d0, ds0, p0, q0, hargs, rfl, rfl, h0, r0⟩ := trodAll_cons hA
  obtain ⟨rfl, rfl, rfl⟩ := trodAll_nil r0
  obtain rfl : args = #[v0] := by cases args; simp_all
  obtain ⟨rfl, rfl⟩ := trodVars_none hV
  have k0 := h0
  have lt0 : ∀ x ∈ p0, x.block < W.heap.size := by obtain ⟨m, hm⟩ := k0; exact DataW.trod_lt m _ _ _ hm
  obtain ⟨c0, c1, c2, y0, y1, y2, m, rfl, hd0, hp0, hy0, hy1, hy2⟩ := Go.Joins.open_agg3 Tryd.underlying46 (by kernel_rfl) (by kernel_rfl) (hval 0 46 v0 rfl rfl) h0
  obtain ⟨n0, e0, _, wf0⟩ := DataW.trod_int Tryd.underlying3 hy0
  obtain ⟨s1, e1, _, ws1⟩ := DataW.trod_string Tryd.underlying9 hy1
  obtain ⟨n2, e2, _, wf2⟩ := DataW.trod_int Tryd.underlying3 hy2
  simp only [List.cons.injEq, and_true] at e0 e1 e2
  subst e0 e1 e2
  have hTab : Go.Proofs.YtekeimhhffnjpaaDoor.H.TabMI W := ⟨cell_of_shapedOpen_int (g := 1) (zero := #[.int .i64 0]) (t := 3) hsh (of_decide_eq_true (by kernel_rfl)) (by kernel_rfl) rfl (by kernel_rfl) (by kernel_rfl) Tryd.underlying3, tabI_of hL⟩
  clear hA0 hval0 hsz0 hsz
  obtain ⟨k, hk⟩ := Pure.FnExactHostSite n0 s1 n2 ws1 wf0 wf2
  refine (PFnExactHostSite.laws_FnExactHostSite.calls k n0 s1 n2 true W hTab hk).mono fun e W' ⟨he, bel⟩ => ?_
  subst he
  exact ⟨_, rfl, _, _, _, [], _, [], hW', trodAll_mk1 (shut_bool Tryd.underlying4 _), (trodAll_cons_mk (Below.trod laidOut (by kernel_rfl) (of_decide_eq_true (by kernel_rfl)) k0 bel lt0) trodAll_mk0), rfl, bel.frame _, fun h => by cases h⟩
theorem over : Rows.fnExactHostSiteRow.holds Tryd.pinned (OpenSpec.ofChange Rows.fnExactHostSiteSpec) :=
  OpenClaim.holds_of_wide 14 Tryd.f14 rfl rfl rfl rfl rfl rfl rfl ⟨rfl, rfl, rfl, rfl, rfl⟩ rfl rfl rfl rfl rfl (by kernel_rfl) Tryd.func14 (by kernel_rfl)
    (of_decide_eq_true (by kernel_rfl)) (by unfold Func.isWrapper; first | (rw [if_pos (by decide +kernel)]; kernel_rfl) | (rw [if_neg (by decide +kernel)]; exact ⟨rfl, rfl⟩))
    (fun os started H enc _ => lifted os started H enc)
theorem proved : Rows.FnExactHostSiteSaid := over
theorem card : Rows.FnExactHostSiteCardSaid :=
  Claim7.holds_tied_plain_at .later [] [.data, .data, .data, .data, .pinned] true (true, "b9dd900ba6dd8959fcd985b7715aed24efaf27b9786602cdcc51e86083a6e1a2") false
    proved (fun _ h => by cases h) (by kernel_rfl) (fun _ h => by cases h) fnExactHostSite_row_tie rfl ⟨rfl, rfl⟩ (by kernel_rfl) rfl
    (fun f fn hf hfn => by
      obtain rfl : f = 14 := Option.some.inj ((show Tryd.prog.funcNamed Rows.fnExactHostSiteRow.func = some 14 by kernel_rfl).symm.trans hf) |>.symm
      obtain rfl : fn = Tryd.f14 := (Option.some.inj (Tryd.func14.symm.trans hfn)).symm
      exact ⟨by kernel_rfl, fun j t ht => by
          rw [Tryd.params14] at ht
          rcases j with _ | j
          · obtain rfl : 46 = t := by simpa using ht
            exact (show Tryd.prog.wantsStandIn 46 = false by kernel_rfl)
          · simp at ht
          ⟩)
    (by kernel_rfl)
#print axioms card
end Go.Proofs.YtekeimhhffnjpaaDoor.fnExactHostSite
namespace Go.Proofs.YtekeimhhffnjpaaDoor
/-- The row, under a short name, for the claim. -/
theorem fnExactHostSite_holds : Rows.FnExactHostSiteCardSaid := fnExactHostSite.card
end Go.Proofs.YtekeimhhffnjpaaDoor
