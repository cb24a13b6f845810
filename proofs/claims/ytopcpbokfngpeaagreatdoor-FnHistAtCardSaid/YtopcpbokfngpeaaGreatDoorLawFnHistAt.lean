/- The law FnHistAt: its row, by the walk of the law's function. No condition beyond the row's own. -/
import Derived.Test.YtopcpbokfngpeaaGreatDoorRows
import Derived.Test.YtopcpbokfngpeaaGreatDoorB19
import Derived.Deep.Strs
import Derived.Test.YtopcpbokfngpeaaGreatDoorCards
import Derived.Test.YtopcpbokfngpeaaGreatDoorTie
import Derived.Test.YtopcpbokfngpeaaGreatDoorB02
import Derived.SevenTiedAt
import Derived.OpenVars
import Derived.LaidSub
import Derived.LaidMore
import Derived.Lib.LaidTab
import Derived.Shelf.Vars
import Derived.ChangeVars
import Derived.Lib.SmallJoins
import Derived.Lay
import Derived.WalkKit
import Derived.ProofKit
import Derived.OpenShut
import Derived.ShutString
import Derived.ChangeOld
import Derived.Below
import Derived.SizedLaws
import Derived.Test.YtopcpbokfngpeaaGreatDoorB17
namespace Go.Proofs.YtopcpbokfngpeaaGreatDoor.fnHistAt
open Go.ChangeShapes Go.WideShapes Go.ChangeAt Go.RowKit Go.Proofs.YtopcpbokfngpeaaGreatDoorW.PrintWords Go.Proofs.YtopcpbokfngpeaaGreatDoor.H
set_option linter.unusedVariables false
def IsRow (k : IntKind) (w : World) (a : Option Addr) (len cap : Nat) (zs : List Int) : Prop :=
  (a = none ∧ len = 0 ∧ cap = 0 ∧ zs = []) ∨
  ∃ x, a = some x ∧ len ≤ cap ∧ cap ≤ maxLen ∧ zs.length = cap ∧ (∀ i, i < zs.length → w.cell? (x.add i) = some (.int k (zs.getD i 0))) ∧ ∀ n ∈ zs, (Lit.int k n).wf = true
theorem own : ownKnob Tryz.prog.godebug = none := by kernel_rfl
theorem laidOut : laidOutB Tryz.prog = true := by kernel_rfl
set_option maxRecDepth 100000 in
theorem door_met (os : Os) (args : Array Value) : laidMetH Tryz.prog Rows.fnHistAtRow.laid ((World.laidAll Tryz.prog os Rows.fnHistAtRow.laid).forCall (fun _ _ => 0) ⟨#[], args, []⟩).memory := by
  rw [MakeChecks.laidMetH_plain _ _ _ (by kernel_rfl)]; exact laidMet_laidAll _ (by kernel_rfl) (by kernel_rfl)
set_option maxRecDepth 100000 in
theorem tabS_of {W : World} (h : laidMetH Tryz.prog Rows.fnHistAtRow.laid W) : Go.Proofs.YtopcpbokfngpeaaGreatDoor.H.TabS W := by
  have h1 := h.filter (fun x => x.1 == "loop.example/guilloche/impl.sets")
  have e : (Rows.fnHistAtRow.laid.filter (fun x => x.1 == "loop.example/guilloche/impl.sets")) = [("loop.example/guilloche/impl.sets", Rows.laid_loop_example_guilloche_impl_sets)] := by kernel_rfl
  rw [e, MakeChecks.laidMetH_plain _ _ _ (by kernel_rfl)] at h1
  obtain ⟨ps, ⟨g, t, cs, fuel, p, q, hg, ht, hv, hd, _, _⟩, _, _⟩ := h1
  obtain rfl := Option.some.inj ((show Tryz.prog.globalNamed "loop.example/guilloche/impl.sets" = some 0 by kernel_rfl).symm.trans hg)
  obtain rfl := Option.some.inj ((show (Tryz.prog.globals[0]?).map (·.type) = some 25 by kernel_rfl).symm.trans ht)
  have c9 : Tryz.prog.cellsOf 9 = 1 := by kernel_rfl
  obtain ⟨a, cap, hcs, _, hel⟩ := open_row Tryz.underlying25 c9 hd
  refine ⟨a, cap, ?_, ?_⟩
  · have := World.var?_cell hg hv 0
    rw [Array.eq_one_of_toList hcs] at this
    simpa using this
  · have one : ∀ (i : Nat) (l : List UInt8), ([.lit (.string []), .lit (.string [32, 34, 35, 60, 62, 63, 123, 125, 96]), .lit (.string [32, 34, 35, 60, 62, 39]), .lit (.string [32, 34, 60, 62, 96]), .lit (.string [32, 34, 35, 60, 62, 63, 123, 125, 96, 47, 58, 59, 61, 64, 91, 92, 93, 94, 124]), .lit (.string [32])] : List (DataW Unit))[i]? = some (.lit (.string l)) → W.cell? (a.add i) = some (.string (Go.Proofs.YtopcpbokfngpeaaGreatDoor.Base.B l)) := by
      intro i l hi
      obtain ⟨v, n, q, hc, hr⟩ := hel i _ hi
      obtain ⟨s, hs, hx, _⟩ := DataW.trod_string Tryz.underlying9 hr
      obtain rfl : v = .string s := by simpa using hs
      obtain ⟨hl, _⟩ : l = s.data.toList ∧ q = [] := by simpa using hx
      rw [hc, hl, ← Go.Proofs.YtopcpbokfngpeaaGreatDoor.Base.eq_B]
    intro j hj
    match j, hj with
    | 0, _ => exact one 0 _ rfl
    | 1, _ => exact one 1 _ rfl
    | 2, _ => exact one 2 _ rfl
    | 3, _ => exact one 3 _ rfl
    | 4, _ => exact one 4 _ rfl
    | 5, _ => exact one 5 _ rfl
set_option maxRecDepth 100000 in
theorem tabI_of {W : World} (h : laidMetH Tryz.prog Rows.fnHistAtRow.laid W) : Go.Proofs.YtopcpbokfngpeaaGreatDoor.H.TabI W := by
  have h1 := h.filter (fun x => x.1 == "internal/strconv.uint64pow10")
  have e : (Rows.fnHistAtRow.laid.filter (fun x => x.1 == "internal/strconv.uint64pow10")) = [("internal/strconv.uint64pow10", Lib.tabData .u64 Lib.pow10Tab)] := by kernel_rfl
  rw [e, MakeChecks.laidMetH_plain _ _ _ (by kernel_rfl)] at h1
  have hg : Tryz.prog.globalNamed "internal/strconv.uint64pow10" = some 2 := by kernel_rfl
  have ht : (Tryz.prog.globals[2]?).map (·.type) = some 144 := by kernel_rfl
  exact Lib.tabIs_of_head hg ht Tryz.underlying144 Tryz.underlying123 (by kernel_rfl) (by kernel_rfl) h1
set_option maxRecDepth 100000 in
theorem lifted (os : Os) (started : os.Started) (H : Type) (enc : TypeId × Value → H) :
    ReturnsInHanded {} Tryz.checked os 7 .any (fun w args => (Rows.fnHistAtSpec.pre enc Tryz.prog Tryz.f7 Rows.fnHistAtRow.domain false w args ∧ laidMetH Tryz.prog Rows.fnHistAtRow.laid w) ∧ sizedMet enc Tryz.prog Tryz.f7 (OpenSpec.ofChange Rows.fnHistAtSpec) false w args) (Rows.fnHistAtSpec.post enc Tryz.prog Tryz.f7 false true false false) := by
  refine Go.Proofs.YtopcpbokfngpeaaGreatDoor.H.returnsInHanded_of_laid (C := Tryz.checked) (X := fun w _ => laidMetH Tryz.prog Rows.fnHistAtRow.laid w) (fun _ _ _ hh h => h.of_heap hh) own started (by kernel_rfl) Tryz.func7
    (ChangeSpec.witness_shaped (enc := enc) (C := Tryz.checked) (os := os) (X := fun w _ => laidMetH Tryz.prog Rows.fnHistAtRow.laid w) false (World.laidAll Tryz.prog os Rows.fnHistAtRow.laid) #[.slice none 0 0] 8 (World.laidAll_os _ _ _) (World.shaped_of_ZipB (by kernel_rfl) (by kernel_rfl)) (by kernel_rfl) (by kernel_rfl) (by kernel_rfl) (door_met os _)) ?_
  intro W base args ds gs before hval0 hW hsz0 hL hsh
  have hsz : (DataW.weightsEach Tryz.prog (Tryz.f7.params.toList ++ Rows.fnHistAtSpec.plain.varTypes Tryz.prog) (ds ++ gs)).all (· ≤ reachBytes) = true := hsz0
  have hval : ∀ (j : Nat) t v, Tryz.f7.params[j]? = some t → args[j]? = some v → Value.okWide Tryz.prog W .any base t v := hval0
  have hW' := hW
  obtain ⟨p, q, hA0, hV, rfl, hfz, hnd⟩ := hW
  have hA : DataW.TrodAll enc Tryz.prog W 0 (fun _ => true) true Tryz.f7.params.toList args.toList ds p := hA0
  rw [Tryz.params7] at hA hval hsz
  obtain ⟨v0, vs0, d0, ds0, p0, q0, hargs, rfl, rfl, h0, r0⟩ := trodAll_cons hA
  obtain ⟨rfl, rfl, rfl⟩ := trodAll_nil r0
  obtain rfl : args = #[v0] := by cases args; simp_all
  obtain ⟨gv, tv, csv, fv, dv, pv, rfl, hg1, ht1, hv1, hd1, rfl⟩ := trodVars_one hV
  have k0 := h0
  have lt0 : ∀ x ∈ p0, x.block < W.heap.size := by obtain ⟨m, hm⟩ := k0; exact DataW.trod_lt m _ _ _ hm
  obtain ⟨a0, len0, cap0, rfl⟩ := okWide_slice Tryz.underlying22 (hval 0 22 v0 rfl rfl)
  obtain ⟨z0, w0⟩ : ∃ zs, IsRow .u8 W a0 len0 cap0 zs := by
    obtain ⟨fuel, hf⟩ := h0
    rcases open_ints Tryz.underlying22 Tryz.underlying5 (by kernel_rfl) hf with ⟨hcs, _⟩ | ⟨x, l, c, zs, hcs, _, hl, hm, hz, _, hcell, hwz⟩
    · simp [Value.cells] at hcs
      obtain ⟨rfl, rfl, rfl⟩ := hcs
      exact ⟨[], .inl ⟨rfl, rfl, rfl, rfl⟩⟩
    · simp [Value.cells] at hcs
      obtain ⟨rfl, rfl, rfl⟩ := hcs
      exact ⟨zs, .inr ⟨_, rfl, hl, hm, by simpa using hz, hcell, hwz⟩⟩
  have y0 : len0 * 1 ≤ 140737488351232 := Go.Proofs.YtopcpbokfngpeaaGreatDoorW.PrintWords.sized_ints hsz (j := 0) (t := 22) rfl rfl Tryz.underlying22 Tryz.underlying5 (by kernel_rfl) (by kernel_rfl) h0
  have hTab : Go.Proofs.YtopcpbokfngpeaaGreatDoor.H.Tabs W := ⟨tabS_of hL, cell_of_shapedOpen_int (g := 1) (zero := #[.int .i64 0]) (t := 3) hsh (of_decide_eq_true (by kernel_rfl)) (by kernel_rfl) rfl (by kernel_rfl) (by kernel_rfl) Tryz.underlying3, tabI_of hL⟩
  clear hA0 hval0 hsz0 hsz
  refine (FnHistAt_walk a0 len0 cap0 z0 W w0 y0 hTab).mono fun e W' ⟨he, bel⟩ => ?_
  subst he
  exact ⟨_, rfl, _, _, _, [], _, _, hW', trodAll_mk1 (shut_bool Tryz.underlying4 _), (trodAll_cons_mk (Below.trod laidOut (by kernel_rfl) (of_decide_eq_true (by kernel_rfl)) k0 bel lt0) trodAll_mk0), Below.trodVars laidOut bel (by kernel_rfl) hV, bel.frame _, fun h => by cases h⟩
set_option maxHeartbeats 8000000 in
set_option maxRecDepth 100000 in
theorem joined : joinedFacts Tryz.prog 7 Tryz.f7 Rows.fnHistAtSpec Rows.fnHistAtRow = true := by
  unfold joinedFacts
  simp only [Bool.and_eq_true]
  repeat' apply And.intro
  all_goals (as_aux_lemma => kernel_rfl)
theorem over : Rows.fnHistAtRow.holds Tryz.pinned (OpenSpec.ofChange Rows.fnHistAtSpec) :=
  OpenClaim.holds_of_wide 7 Tryz.f7 rfl rfl rfl rfl rfl rfl rfl ⟨rfl, rfl, rfl, rfl, rfl⟩ rfl rfl rfl rfl rfl (by as_aux_lemma => kernel_rfl) Tryz.func7 joined
    (of_decide_eq_true (by as_aux_lemma => kernel_rfl)) (by unfold Func.isWrapper; first | (rw [if_pos (by decide +kernel)]; kernel_rfl) | (rw [if_neg (by decide +kernel)]; exact ⟨rfl, rfl⟩))
    (fun os started H enc _ => lifted os started H enc)
theorem proved : Rows.FnHistAtSaid := over
theorem card : Rows.FnHistAtCardSaid :=
  Claim7.holds_tied_plain_at .later [] [.data, .data, .data, .data, .data, .pinned] true (true, "09ea2a416016d82cfa67af8009d4c4b65f6461b53fd65eadc6ecab0c0914026f") false
    proved (fun _ h => by cases h) (by kernel_rfl) (fun _ h => by cases h) fnHistAt_row_tie rfl ⟨rfl, rfl⟩ (by kernel_rfl) rfl
    (fun f fn hf hfn => by
      obtain rfl : f = 7 := Option.some.inj ((show Tryz.prog.funcNamed Rows.fnHistAtRow.func = some 7 by kernel_rfl).symm.trans hf) |>.symm
      obtain rfl : fn = Tryz.f7 := (Option.some.inj (Tryz.func7.symm.trans hfn)).symm
      exact ⟨by kernel_rfl, fun j t ht => by
          rw [Tryz.params7] at ht
          rcases j with _ | j
          · obtain rfl : 22 = t := by simpa using ht
            exact (show Tryz.prog.wantsStandIn 22 = false by kernel_rfl)
          · simp at ht
          ⟩)
    (by kernel_rfl)
#print axioms card
end Go.Proofs.YtopcpbokfngpeaaGreatDoor.fnHistAt
namespace Go.Proofs.YtopcpbokfngpeaaGreatDoor
/-- The row, under a short name, for the claim. -/
theorem fnHistAt_holds : Rows.FnHistAtCardSaid := fnHistAt.card
end Go.Proofs.YtopcpbokfngpeaaGreatDoor
