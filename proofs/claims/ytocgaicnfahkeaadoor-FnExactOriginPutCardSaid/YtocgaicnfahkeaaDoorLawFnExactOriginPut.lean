/- The law FnExactOriginPut: its row, by the printed functions' contracts and the plain side. No condition beyond the row's own. -/
import Derived.Test.YtocgaicnfahkeaaDoorRows
import Derived.Test.YtocgaicnfahkeaaDoorPureFnExactOriginPut
import Derived.Deep.Strs
import Derived.Test.YtocgaicnfahkeaaDoorCards
import Derived.Test.YtocgaicnfahkeaaDoorTie
import Derived.Test.YtocgaicnfahkeaaDoorHA
import Derived.SevenTiedAt
import Derived.OpenVars
import Derived.LaidSub
import Derived.LaidMore
import Derived.Lib.LaidTab
import Derived.Shelf.Vars
import Derived.ChangeVars
import Derived.Lib.SmallJoins
import Derived.Lay
import Derived.WalkKit
import Derived.ProofKit
import Derived.OpenShut
import Derived.ShutString
import Derived.ChangeOld
import Derived.Below
import Derived.SizedLaws
namespace Go.Proofs.YtocgaicnfahkeaaDoor.fnExactOriginPut
open Go.ChangeShapes Go.WideShapes Go.ChangeAt Go.RowKit Go.Proofs.YtocgaicnfahkeaaDoorW.PrintWords
set_option linter.unusedVariables false
theorem own : ownKnob Tryd.prog.godebug = none := by kernel_rfl
theorem laidOut : laidOutB Tryd.prog = true := by kernel_rfl
theorem array5 {α : Type} {cs : Array α} (h : cs.size = 5) : ∃ c0 c1 c2 c3 c4, cs = #[c0, c1, c2, c3, c4] := by
  obtain ⟨l⟩ := cs
  match l, h with
  | [c0, c1, c2, c3, c4], _ => exact ⟨c0, c1, c2, c3, c4, rfl⟩
set_option maxRecDepth 100000 in
theorem door_met (os : Os) (args : Array Value) : laidMetH Tryd.prog Rows.fnExactOriginPutRow.laid ((World.laidAll Tryd.prog os Rows.fnExactOriginPutRow.laid).forCall (fun _ _ => 0) ⟨#[], args, []⟩).memory := by
  rw [MakeChecks.laidMetH_plain _ _ _ (by kernel_rfl)]; exact laidMet_laidAll _ (by kernel_rfl) (by kernel_rfl)
set_option maxRecDepth 100000 in
theorem tabI_of {W : World} (h : laidMetH Tryd.prog Rows.fnExactOriginPutRow.laid W) : Go.Proofs.YtocgaicnfahkeaaDoor.H.TabI W := by
  have h1 := h.filter (fun x => x.1 == "internal/strconv.uint64pow10")
  have e : (Rows.fnExactOriginPutRow.laid.filter (fun x => x.1 == "internal/strconv.uint64pow10")) = [("internal/strconv.uint64pow10", Lib.tabData .u64 Lib.pow10Tab)] := by kernel_rfl
  rw [e, MakeChecks.laidMetH_plain _ _ _ (by kernel_rfl)] at h1
  have hg : Tryd.prog.globalNamed "internal/strconv.uint64pow10" = some 0 := by kernel_rfl
  have ht : (Tryd.prog.globals[0]?).map (·.type) = some 78 := by kernel_rfl
  exact Lib.tabIs_of_head hg ht Tryd.underlying78 Tryd.underlying67 (by kernel_rfl) (by kernel_rfl) h1
set_option maxRecDepth 100000 in
theorem lifted (os : Os) (started : os.Started) (H : Type) (enc : TypeId × Value → H) :
    ReturnsInHanded {} Tryd.checked os 3 .any (fun w args => (Rows.fnExactOriginPutSpec.pre enc Tryd.prog Tryd.f3 Rows.fnExactOriginPutRow.domain false w args ∧ laidMetH Tryd.prog Rows.fnExactOriginPutRow.laid w) ∧ sizedMet enc Tryd.prog Tryd.f3 (OpenSpec.ofChange Rows.fnExactOriginPutSpec) false w args) (Rows.fnExactOriginPutSpec.post enc Tryd.prog Tryd.f3 false true false false) := by
  refine Go.Proofs.YtocgaicnfahkeaaDoor.H.returnsInHanded_of_laid (C := Tryd.checked) (X := fun w _ => laidMetH Tryd.prog Rows.fnExactOriginPutRow.laid w) (fun _ _ _ hh h => h.of_heap hh) own started (by kernel_rfl) Tryd.func3
    (ChangeSpec.witness_shaped (enc := enc) (C := Tryd.checked) (os := os) (X := fun w _ => laidMetH Tryd.prog Rows.fnExactOriginPutRow.laid w) false (World.laidAll Tryd.prog os Rows.fnExactOriginPutRow.laid) #[.agg #[.string ByteArray.empty, .int .i64 0, .string ByteArray.empty, .int .i64 0, .int .i64 0]] 8 (World.laidAll_os _ _ _) (World.shaped_of_ZipB (by kernel_rfl) (by kernel_rfl)) (by kernel_rfl) (by kernel_rfl) (by kernel_rfl) (door_met os _)) ?_
  intro W base args ds gs before hval0 hW hsz0 hL hsh
  have hsz : (DataW.weightsEach Tryd.prog (Tryd.f3.params.toList ++ Rows.fnExactOriginPutSpec.plain.varTypes Tryd.prog) (ds ++ gs)).all (· ≤ reachBytes) = true := hsz0
  have hval : ∀ (j : Nat) t v, Tryd.f3.params[j]? = some t → args[j]? = some v → Value.okWide Tryd.prog W .any base t v := hval0
  have hW' := hW
  obtain ⟨p, q, hA0, hV, rfl, hfz, hnd⟩ := hW
  have hA : DataW.TrodAll enc Tryd.prog W 0 (fun _ => true) true Tryd.f3.params.toList args.toList ds p := hA0
  rw [Tryd.params3] at hA hval hsz
  obtain ⟨v0, vs0, d0, ds0, p0, q0, hargs, rfl, rfl, h0, r0⟩ := trodAll_cons hA
  obtain ⟨rfl, rfl, rfl⟩ := trodAll_nil r0
  obtain rfl : args = #[v0] := by cases args; simp_all
  obtain ⟨rfl, rfl⟩ := trodVars_none hV
  have k0 := h0
  have lt0 : ∀ x ∈ p0, x.block < W.heap.size := by obtain ⟨m, hm⟩ := k0; exact DataW.trod_lt m _ _ _ hm
  have hC0 : Tryd.prog.cellsOf 25 = 5 := by kernel_rfl
  have hCH : Tryd.prog.cellsOf 23 = 3 := by kernel_rfl
  have hCI : Tryd.prog.cellsOf 3 = 1 := by kernel_rfl
  have hCS : Tryd.prog.cellsOf 9 = 1 := by kernel_rfl
  obtain ⟨cs, rfl, hcs⟩ := Go.WideShapes.okWide_struct Tryd.underlying25 (hval 0 25 v0 rfl rfl)
  obtain ⟨c0, c1, c2, c3, c4, rfl⟩ := array5 (hcs.trans hC0)
  obtain ⟨fuel, hf⟩ := h0
  obtain ⟨y0, y1, y2, n, hx, _, g0, g1, g2⟩ := Go.Deep.trod_struct3 Tryd.underlying25 hf
  have g0' : DataW.trod enc Tryd.prog W 0 (fun _ => true) true n 9 [c0] = some y0 := by simpa [Value.cells, hCS] using g0
  have g1' : DataW.trod enc Tryd.prog W 0 (fun _ => true) true n 23 [c1, c2, c3] = some y1 := by simpa [Value.cells, hCH] using g1
  have g2' : DataW.trod enc Tryd.prog W 0 (fun _ => true) true n 3 [c4] = some y2 := by simpa [Value.cells, hCI] using g2
  obtain ⟨z0, z1, z2, n', hx', _, b0, b1, b2⟩ := Go.Deep.trod_struct3 Tryd.underlying23 g1'
  have b0' : DataW.trod enc Tryd.prog W 0 (fun _ => true) true n' 3 [c1] = some z0 := by simpa [hCI] using b0
  have b1' : DataW.trod enc Tryd.prog W 0 (fun _ => true) true n' 9 [c2] = some z1 := by simpa [hCS] using b1
  have b2' : DataW.trod enc Tryd.prog W 0 (fun _ => true) true n' 3 [c3] = some z2 := by simpa [hCI] using b2
  obtain ⟨s0, e0, _, ws0⟩ := DataW.trod_string Tryd.underlying9 g0'
  obtain ⟨n1, e1, _, wf1⟩ := DataW.trod_int Tryd.underlying3 b0'
  obtain ⟨s2, e2, _, ws2⟩ := DataW.trod_string Tryd.underlying9 b1'
  obtain ⟨n3, e3, _, wf3⟩ := DataW.trod_int Tryd.underlying3 b2'
  obtain ⟨n4, e4, _, wf4⟩ := DataW.trod_int Tryd.underlying3 g2'
  simp only [List.cons.injEq, and_true] at e0 e1 e2 e3 e4
  subst e0 e1 e2 e3 e4
  have hTab : Go.Proofs.YtocgaicnfahkeaaDoor.H.TabMI W := ⟨cell_of_shapedOpen_int (g := 1) (zero := #[.int .i64 0]) (t := 3) hsh (of_decide_eq_true (by kernel_rfl)) (by kernel_rfl) rfl (by kernel_rfl) (by kernel_rfl) Tryd.underlying3, tabI_of hL⟩
  clear hA0 hval0 hsz0 hsz
  obtain ⟨k, hk⟩ := Pure.FnExactOriginPut s0 n1 s2 n3 n4 ws0 ws2 wf1 wf3 wf4
  refine (PFnExactOriginPut.laws_FnExactOriginPut.calls k s0 n1 s2 n3 n4 true W hTab hk).mono fun e W' ⟨he, bel⟩ => ?_
  subst he
  exact ⟨_, rfl, _, _, _, [], _, [], hW', trodAll_mk1 (shut_bool Tryd.underlying4 _), (trodAll_cons_mk (Below.trod laidOut (by kernel_rfl) (of_decide_eq_true (by kernel_rfl)) k0 bel lt0) trodAll_mk0), rfl, bel.frame _, fun h => by cases h⟩
theorem over : Rows.fnExactOriginPutRow.holds Tryd.pinned (OpenSpec.ofChange Rows.fnExactOriginPutSpec) :=
  OpenClaim.holds_of_wide 3 Tryd.f3 rfl rfl rfl rfl rfl rfl rfl ⟨rfl, rfl, rfl, rfl, rfl⟩ rfl rfl rfl rfl rfl (by kernel_rfl) Tryd.func3 (by kernel_rfl)
    (of_decide_eq_true (by kernel_rfl)) (by unfold Func.isWrapper; first | (rw [if_pos (by decide +kernel)]; kernel_rfl) | (rw [if_neg (by decide +kernel)]; exact ⟨rfl, rfl⟩))
    (fun os started H enc _ => lifted os started H enc)
theorem proved : Rows.FnExactOriginPutSaid := over
theorem card : Rows.FnExactOriginPutCardSaid :=
  Claim7.holds_tied_plain_at .later [] [.data, .data, .data, .data, .pinned] true (true, "d0a37dc18b606eb15acb6eafbfa907a7444df202c544de16f42637ba5a7bca17") false
    proved (fun _ h => by cases h) (by kernel_rfl) (fun _ h => by cases h) fnExactOriginPut_row_tie rfl ⟨rfl, rfl⟩ (by kernel_rfl) rfl
    (fun f fn hf hfn => by
      obtain rfl : f = 3 := Option.some.inj ((show Tryd.prog.funcNamed Rows.fnExactOriginPutRow.func = some 3 by kernel_rfl).symm.trans hf) |>.symm
      obtain rfl : fn = Tryd.f3 := (Option.some.inj (Tryd.func3.symm.trans hfn)).symm
      exact ⟨by kernel_rfl, fun j t ht => by
          rw [Tryd.params3] at ht
          rcases j with _ | j
          · obtain rfl : 25 = t := by simpa using ht
            exact (show Tryd.prog.wantsStandIn 25 = false by kernel_rfl)
          · simp at ht
          ⟩)
    (by kernel_rfl)
#print axioms card
end Go.Proofs.YtocgaicnfahkeaaDoor.fnExactOriginPut
namespace Go.Proofs.YtocgaicnfahkeaaDoor
/-- The row, under a short name, for the claim. -/
theorem fnExactOriginPut_holds : Rows.FnExactOriginPutCardSaid := fnExactOriginPut.card
end Go.Proofs.YtocgaicnfahkeaaDoor
