/- The law FnExactFormPut: its row, by the printed functions' contracts and the plain side. No condition beyond the row's own. -/
import Derived.Test.YtafdpgdllmhhmaaRows
import Derived.Test.YtafdpgdllmhhmaaPureFnExactFormPut
import Derived.WalkKit
import Derived.ProofKit
import Derived.OpenShut
import Derived.ShutString
import Derived.ChangeSame
import Derived.ChangeArms
import Derived.DataReads
import Derived.ChangeOld
import Derived.Below
import Derived.SizedLaws
namespace Go.Proofs.Ytafdpgdllmhhmaa.fnExactFormPut
open Go.ChangeShapes Go.WideShapes Go.ChangeAt Go.RowKit Go.Proofs.YtafdpgdllmhhmaaW.PrintWords
set_option linter.unusedVariables false
theorem own : ownKnob Try.prog.godebug = none := by kernel_rfl
theorem laidOut : laidOutB Try.prog = true := by kernel_rfl
set_option maxRecDepth 100000 in
theorem lifted (os : Os) (started : os.Started) (H : Type) (enc : TypeId × Value → H) :
    ReturnsInHanded {} Try.checked os 5 .any (Rows.fnExactFormPutSpec.pre6 enc Try.prog Try.f5 Rows.fnExactFormPutRow.domain false) (Rows.fnExactFormPutSpec.post enc Try.prog Try.f5 false true false false) := by
  refine returnsInHanded_of_change_sized (C := Try.checked) own started (by kernel_rfl) Try.func5
    (ChangeSpec.witness6 (enc := enc) (C := Try.checked) false ⟨#[], #[.slice none 0 0], []⟩ 8 (by kernel_rfl) (by kernel_rfl) (by kernel_rfl) (by kernel_rfl)) ?_
  intro W base args ds gs before hval0 hW hcnd hsz0 _
  have hval : ∀ (j : Nat) t v, Try.f5.params[j]? = some t → args[j]? = some v → Value.okWide Try.prog W .any base t v := hval0
  have hW' := hW
  obtain ⟨p, q, hA0, hV, rfl, hfz, hnd⟩ := hW
  have hA : DataW.TrodAll enc Try.prog W 0 (fun _ => true) true Try.f5.params.toList args.toList ds p := hA0
  rw [Try.params5] at hA hval
  obtain ⟨v0, vs0, d0, ds0, p0, q0, hargs, rfl, rfl, h0, r0⟩ := trodAll_cons hA
  obtain ⟨rfl, rfl, rfl⟩ := trodAll_nil r0
  obtain rfl : args = #[v0] := by cases args; simp_all
  obtain ⟨rfl, rfl⟩ := trodVars_none hV
  obtain ⟨a0, len0, cap0, rfl⟩ := okWide_slice Try.underlying27 (hval 0 27 v0 rfl rfl)
  have k0 := h0
  have lt0 : ∀ x ∈ p0, x.block < W.heap.size := by obtain ⟨m, hm⟩ := k0; exact DataW.trod_lt m _ _ _ hm
  obtain ⟨l0, e0, hr0, hc0, hm0, hs0⟩ : ∃ l0 : List PFnExactFormPut.S51, l0.length = len0 ∧ Kd.C PFnExactFormPut.k51 W a0 len0 l0 ∧ len0 ≤ cap0 ∧ cap0 ≤ maxLen ∧ ∀ s ∈ l0, s.f0.size ≤ maxLen ∧ s.f1.size ≤ maxLen := by
    obtain ⟨fuel, hf⟩ := h0
    rcases DataW.trod_slice Try.underlying27 hf with ⟨hcs, _⟩ | ⟨x, len, cap, elems, rest, n, _, hcs, _, _, hl, hm, hlen, hel, _, _⟩
    · simp [Value.cells] at hcs
      obtain ⟨rfl, rfl, rfl⟩ := hcs
      exact ⟨[], rfl, ⟨rfl, by omega, fun h => by omega⟩, Nat.le_refl _, Nat.zero_le _, fun s h => by cases h⟩
    · simp [Value.cells] at hcs
      obtain ⟨rfl, rfl, rfl⟩ := hcs
      have c2 : Try.prog.cellsOf 51 = 2 := by kernel_rfl
      have each : ∀ i, i < len0 → ∃ s : PFnExactFormPut.S51, W.cell? (x.add (i * 2)) = some (.string s.f0) ∧ W.cell? (x.add (i * 2 + 1)) = some (.string s.f1) ∧ s.f0.size ≤ maxLen ∧ s.f1.size ≤ maxLen := by
        intro i hi
        have h := hel i hi
        rw [List.getElem?_eq_getElem (by omega), c2, Option.bind_eq_some_iff] at h
        obtain ⟨cs, hcs, hy⟩ := h
        obtain ⟨y0, y1, m, _, hl2, k0, k1⟩ := trod_struct2 Try.underlying51 hy
        obtain ⟨s0, e0, _, w0⟩ := DataW.trod_string Try.underlying9 k0
        obtain ⟨s1, e1, _, w1⟩ := DataW.trod_string Try.underlying9 k1
        obtain ⟨_, hlen2, hcell⟩ := World.cells?_some hcs
        match cs, hlen2, e0, e1, hcell with
        | [v0, v1], _, e0, e1, hcell =>
          have f0 : v0 = .string s0 := by simpa [show Try.prog.cellsOf 9 = 1 by kernel_rfl] using e0
          have f1 : v1 = .string s1 := by simpa [show Try.prog.cellsOf 9 = 1 by kernel_rfl] using e1
          subst f0 f1
          have g0 := hcell 0 (by omega)
          have g1 := hcell 1 (by omega)
          have ha : (x.add (i * 2)).add 1 = x.add (i * 2 + 1) := by
            unfold Addr.add
            by_cases hz : i * 2 = 0
            · rw [if_pos hz, hz]
            · rw [if_neg hz, if_neg (by omega), if_neg (by omega)]; simp; omega
          rw [ha] at g1
          exact ⟨⟨s0, s1⟩, g0, g1, w0, w1⟩
      have hf := fun i hi => Classical.choose_spec (each i hi)
      refine ⟨List.ofFn (fun i : Fin len0 => Classical.choose (each i.1 i.2)), by simp, ⟨by simp, by unfold maxLen at hm; omega, fun _ => ⟨x, rfl, fun j p hp => ?_⟩⟩, hl, hm, fun s hs => ?_⟩
      · obtain ⟨hj', hp'⟩ := List.getElem?_eq_some_iff.1 hp
        have hj : j < len0 := by simpa using hj'
        rw [List.getElem_ofFn] at hp'
        subst hp'
        have h := hf j hj
        refine ⟨[.string (Classical.choose (each j hj)).f0, .string (Classical.choose (each j hj)).f1], rfl, ⟨_, _, rfl, rfl, rfl⟩, fun i u hu => ?_⟩
        match i, hu with
        | 0, hu => obtain rfl := Option.some.inj hu; exact h.1
        | 1, hu => obtain rfl := Option.some.inj hu; exact h.2.1
        | i + 2, hu => simp at hu
      · obtain ⟨j, hj', hp'⟩ := List.getElem_of_mem hs
        have hj : j < len0 := by simpa using hj'
        rw [List.getElem_ofFn] at hp'
        subst hp'
        exact (hf j hj).2.2
  subst e0
  clear hA0 hval0 hsz0
  obtain ⟨k, hk⟩ := Pure.FnExactFormPut l0 (by unfold maxLen at hm0; omega) hs0
  refine (PFnExactFormPut.laws_FnExactFormPut.calls k a0 cap0 l0 true W hr0 hc0 hk).mono fun e W' ⟨he, bel⟩ => ?_
  subst he
  exact ⟨_, rfl, _, _, _, [], _, [], hW', trodAll_mk1 (shut_bool Try.underlying4 _), (trodAll_cons_mk (Below.trod laidOut (by kernel_rfl) (of_decide_eq_true (by kernel_rfl)) k0 bel lt0) trodAll_mk0), rfl, bel.frame _, fun h => by cases h⟩
theorem over : Rows.fnExactFormPutRow.holds Try.pinned (OpenSpec.ofChange Rows.fnExactFormPutSpec) :=
  OpenClaim.holds_of_wide 5 Try.f5 rfl rfl rfl rfl rfl rfl rfl ⟨rfl, rfl, rfl, rfl, rfl⟩ rfl rfl rfl rfl rfl (by kernel_rfl) Try.func5 (by kernel_rfl)
    (of_decide_eq_true (by kernel_rfl)) (by unfold Func.isWrapper; first | (rw [if_pos (by decide +kernel)]; kernel_rfl) | (rw [if_neg (by decide +kernel)]; exact ⟨rfl, rfl⟩))
    (fun os started H enc _ => lifted os started H enc)
theorem proved : Rows.FnExactFormPutSaid := over
#print axioms proved
end Go.Proofs.Ytafdpgdllmhhmaa.fnExactFormPut
namespace Go.Proofs.Ytafdpgdllmhhmaa
/-- The row, under a short name, for the claim. -/
theorem fnExactFormPut_holds : Rows.FnExactFormPutSaid := fnExactFormPut.proved
end Go.Proofs.Ytafdpgdllmhhmaa
