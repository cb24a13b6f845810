-- Written by a program of this session (wip/print/drive.py) for this claim; Lean checks it.
import Derived.Test.YtekeimhhffnjpaaDoorRows
import Derived.Test.YtekeimhhffnjpaaDoorPFnExactPathGetx3
import Derived.Test.YtekeimhhffnjpaaDoorPureFnExactPathGet
import Derived.Test.YtekeimhhffnjpaaDoorCards
import Derived.Test.YtekeimhhffnjpaaDoorTie
import Derived.Test.YtekeimhhffnjpaaDoorHA
import Derived.SevenTiedAt
import Derived.OpenVars
import Derived.LaidSub
import Derived.LaidMore
import Derived.Lib.LaidTab
import Derived.Shelf.Vars
import Derived.ChangeVars
import Derived.Lib.SmallJoins
import Derived.Lay
import Derived.WalkKit
import Derived.ProofKit
import Derived.OpenShut
import Derived.ShutString
import Derived.ChangeOld
import Derived.Below
import Derived.SizedLaws
namespace Go.Proofs.YtekeimhhffnjpaaDoor.fnExactPathGet
open Go.ChangeShapes Go.WideShapes Go.ChangeAt Go.RowKit
open Go.ChangeMaps (open_string shut_string)
set_option linter.unusedVariables false
theorem own : ownKnob Tryd.prog.godebug = none := by kernel_rfl
theorem laidOut : laidOutB Tryd.prog = true := by kernel_rfl
set_option maxRecDepth 100000 in
theorem door_met (os : Os) (args : Array Value) : laidMetH Tryd.prog Rows.fnExactPathGetRow.laid ((World.laidAll Tryd.prog os Rows.fnExactPathGetRow.laid).forCall (fun _ _ => 0) ⟨#[], args, []⟩).memory := by
  rw [MakeChecks.laidMetH_plain _ _ _ (by kernel_rfl)]; exact laidMet_laidAll _ (by kernel_rfl) (by kernel_rfl)
set_option maxRecDepth 100000 in
theorem tabS_of {W : World} (h : laidMetH Tryd.prog Rows.fnExactPathGetRow.laid W) : Go.Proofs.YtekeimhhffnjpaaDoor.H.TabS W := by
  have h1 := h.filter (fun x => x.1 == "loop.example/guilloche/impl.sets")
  have e : (Rows.fnExactPathGetRow.laid.filter (fun x => x.1 == "loop.example/guilloche/impl.sets")) = [("loop.example/guilloche/impl.sets", Rows.laid_loop_example_guilloche_impl_sets)] := by kernel_rfl
  rw [e, MakeChecks.laidMetH_plain _ _ _ (by kernel_rfl)] at h1
  obtain ⟨ps, ⟨g, t, cs, fuel, p, q, hg, ht, hv, hd, _, _⟩, _, _⟩ := h1
  obtain rfl := Option.some.inj ((show Tryd.prog.globalNamed "loop.example/guilloche/impl.sets" = some 0 by kernel_rfl).symm.trans hg)
  obtain rfl := Option.some.inj ((show (Tryd.prog.globals[0]?).map (·.type) = some 37 by kernel_rfl).symm.trans ht)
  have c9 : Tryd.prog.cellsOf 9 = 1 := by kernel_rfl
  obtain ⟨a, cap, hcs, _, hel⟩ := open_row Tryd.underlying37 c9 hd
  refine ⟨a, cap, ?_, ?_⟩
  · have := World.var?_cell hg hv 0
    rw [Array.eq_one_of_toList hcs] at this
    simpa using this
  · have one : ∀ (i : Nat) (l : List UInt8), ([.lit (.string []), .lit (.string [32, 34, 35, 60, 62, 63, 123, 125, 96]), .lit (.string [32, 34, 35, 60, 62, 39]), .lit (.string [32, 34, 60, 62, 96]), .lit (.string [32, 34, 35, 60, 62, 63, 123, 125, 96, 47, 58, 59, 61, 64, 91, 92, 93, 94, 124]), .lit (.string [32])] : List (DataW Unit))[i]? = some (.lit (.string l)) → W.cell? (a.add i) = some (.string (Go.Proofs.YtekeimhhffnjpaaDoor.Base.B l)) := by
      intro i l hi
      obtain ⟨v, n, q, hc, hr⟩ := hel i _ hi
      obtain ⟨s, hs, hx, _⟩ := DataW.trod_string Tryd.underlying9 hr
      obtain rfl : v = .string s := by simpa using hs
      obtain ⟨hl, _⟩ : l = s.data.toList ∧ q = [] := by simpa using hx
      rw [hc, hl, ← Go.Proofs.YtekeimhhffnjpaaDoor.Base.eq_B]
    intro j hj
    match j, hj with
    | 0, _ => exact one 0 _ rfl
    | 1, _ => exact one 1 _ rfl
    | 2, _ => exact one 2 _ rfl
    | 3, _ => exact one 3 _ rfl
    | 4, _ => exact one 4 _ rfl
    | 5, _ => exact one 5 _ rfl
set_option maxRecDepth 100000 in
theorem lifted (os : Os) (started : os.Started) (H : Type) (enc : TypeId × Value → H) :
    ReturnsInHanded {} Tryd.checked os 8 .any (fun w args => (Rows.fnExactPathGetSpec.pre enc Tryd.prog Tryd.f8 Rows.fnExactPathGetRow.domain false w args ∧ laidMetH Tryd.prog Rows.fnExactPathGetRow.laid w) ∧ sizedMet enc Tryd.prog Tryd.f8 (OpenSpec.ofChange Rows.fnExactPathGetSpec) false w args) (Rows.fnExactPathGetSpec.post enc Tryd.prog Tryd.f8 false true false false) := by
  refine Go.Proofs.YtekeimhhffnjpaaDoor.H.returnsInHanded_of_laid (C := Tryd.checked) (X := fun w _ => laidMetH Tryd.prog Rows.fnExactPathGetRow.laid w) (fun _ _ _ hh h => h.of_heap hh) own started (by kernel_rfl) Tryd.func8
    (ChangeSpec.witness_shaped (enc := enc) (C := Tryd.checked) (os := os) (X := fun w _ => laidMetH Tryd.prog Rows.fnExactPathGetRow.laid w) false (World.laidAll Tryd.prog os Rows.fnExactPathGetRow.laid) #[.string ByteArray.empty] 8 (World.laidAll_os _ _ _) (World.shaped_of_ZipB (by kernel_rfl) (by kernel_rfl)) (by kernel_rfl) (by kernel_rfl) (by kernel_rfl) (door_met os _)) ?_
  intro W base args ds gs before hval0 hW hsz0 hL hsh
  have hsz : (DataW.weightsEach Tryd.prog (Tryd.f8.params.toList ++ Rows.fnExactPathGetSpec.plain.varTypes Tryd.prog) (ds ++ gs)).all (· ≤ reachBytes) = true := hsz0
  have hval : ∀ (j : Nat) t v, Tryd.f8.params[j]? = some t → args[j]? = some v → Value.okWide Tryd.prog W .any base t v := hval0
  have hW' := hW
  obtain ⟨p, q, hA0, hV, rfl, hfz, hnd⟩ := hW
  have hA : DataW.TrodAll enc Tryd.prog W 0 (fun _ => true) true Tryd.f8.params.toList args.toList ds p := hA0
  rw [Tryd.params8] at hA hval hsz
  obtain ⟨v0, vs0, d0, ds0, p0, q0, hargs, rfl, rfl, h0, r0⟩ := trodAll_cons hA
  obtain ⟨rfl, rfl, rfl⟩ := trodAll_nil r0
  obtain rfl : args = #[v0] := by cases args; simp_all
  obtain ⟨gv, tv, csv, fv, dv, pv, rfl, hg1, ht1, hv1, hd1, rfl⟩ := trodVars_one hV
  obtain ⟨a0, rfl, rfl, rfl, y0⟩ := open_string Tryd.underlying9 (hval 0 9 v0 rfl rfl) h0
  have w0 : a0.size ≤ 140737488351232 := by
    have z := sized_string hsz (j := 0) (t := 9) rfl rfl
    rw [Array.length_toList] at z
    exact z
  have hTab : Go.Proofs.YtekeimhhffnjpaaDoor.H.TabSM W := ⟨tabS_of hL, cell_of_shapedOpen_int (g := 1) (zero := #[.int .i64 0]) (t := 3) hsh (of_decide_eq_true (by kernel_rfl)) (by kernel_rfl) rfl (by kernel_rfl) (by kernel_rfl) Tryd.underlying3⟩
  clear hA0 hval0 hsz0 hsz
  refine (PFnExactPathGet.laws_FnExactPathGet.walk Pure.FnExactPathGet a0 W w0 hTab).mono fun e W' ⟨he, bel⟩ => ?_
  subst he
  exact ⟨_, rfl, _, _, _, [], _, _, hW', trodAll_mk1 (shut_bool Tryd.underlying4 _), (trodAll_cons_mk (shut_string Tryd.underlying9 y0) trodAll_mk0), Below.trodVars laidOut bel (by kernel_rfl) hV, bel.frame _, fun h => by cases h⟩
theorem over : Rows.fnExactPathGetRow.holds Tryd.pinned (OpenSpec.ofChange Rows.fnExactPathGetSpec) :=
  OpenClaim.holds_of_wide 8 Tryd.f8 rfl rfl rfl rfl rfl rfl rfl ⟨rfl, rfl, rfl, rfl, rfl⟩ rfl rfl rfl rfl rfl (by kernel_rfl) Tryd.func8 (by kernel_rfl)
    (of_decide_eq_true (by kernel_rfl)) (by unfold Func.isWrapper; first | (rw [if_pos (by decide +kernel)]; kernel_rfl) | (rw [if_neg (by decide +kernel)]; exact ⟨rfl, rfl⟩))
    (fun os started H enc _ => lifted os started H enc)
theorem proved : Rows.FnExactPathGetSaid := over
theorem card : Rows.FnExactPathGetCardSaid :=
  Claim7.holds_tied_plain_at .later [] [.data, .data, .pinned] true (true, "b9dd900ba6dd8959fcd985b7715aed24efaf27b9786602cdcc51e86083a6e1a2") false
    proved (fun _ h => by cases h) (by kernel_rfl) (fun _ h => by cases h) fnExactPathGet_row_tie rfl ⟨rfl, rfl⟩ (by kernel_rfl) rfl
    (fun f fn hf hfn => by
      obtain rfl : f = 8 := Option.some.inj ((show Tryd.prog.funcNamed Rows.fnExactPathGetRow.func = some 8 by kernel_rfl).symm.trans hf) |>.symm
      obtain rfl : fn = Tryd.f8 := (Option.some.inj (Tryd.func8.symm.trans hfn)).symm
      exact ⟨by kernel_rfl, fun j t ht => by
          rw [Tryd.params8] at ht
          rcases j with _ | j
          · obtain rfl : 9 = t := by simpa using ht
            exact (show Tryd.prog.wantsStandIn 9 = false by kernel_rfl)
          · simp at ht
          ⟩)
    (by kernel_rfl)
#print axioms card
end Go.Proofs.YtekeimhhffnjpaaDoor.fnExactPathGet
namespace Go.Proofs.YtekeimhhffnjpaaDoor
/-- The row, under a short name, for the claim. -/
theorem fnExactPathGet_holds : Rows.FnExactPathGetCardSaid := fnExactPathGet.card
end Go.Proofs.YtekeimhhffnjpaaDoor
