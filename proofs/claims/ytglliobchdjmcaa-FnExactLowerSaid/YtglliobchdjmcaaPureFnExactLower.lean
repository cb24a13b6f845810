/- The pure side of the law FnExactLower: what the printed functions tell is what the law says, for every input within the law's bounds. -/
import Derived.Test.YtglliobchdjmcaaPFnExactLowerx1
import Derived.Test.YtglliobchdjmcaaBase
set_option linter.unusedVariables false
set_option linter.unusedSimpArgs false
namespace Go.Proofs.Ytglliobchdjmcaa.Pure
open Go.RowKit Go.Proofs.Ytglliobchdjmcaa.H Go.Proofs.Ytglliobchdjmcaa.PFnExactLower Go.Proofs.YtglliobchdjmcaaW.PrintWords Go.Proofs.YtglliobchdjmcaaW.PrintLast Go.Proofs.Ytglliobchdjmcaa.Base

theorem impl_Lower_some (l : Bs) (h : l.length ≤ 140737488355328) : impl_Lower.f (B l) = some (B (lower l)) := by
  unfold impl_Lower.f; rw [if_pos (by simpa using h), B_data]
theorem lower_length (l : Bs) : (lower l).length = l.length := by simp [lower]
theorem spec_Lower_l0 (l : Bs) (hl : l.length ≤ 140737488355327) (d : Nat) : ∀ i : Nat, i + d = l.length → Ev (fun k => spec_Lower.l0 k (B l) (ns ((l.take i).map lowB)) i) (B (lower l)) := by
  induction d with
  | zero =>
    intro i hi
    refine ev_1 fun k => ?_
    simp only [spec_Lower.l0]
    rw [if_neg (by rw [B_size]; omega), str_ns, List.take_of_length_le (by omega)]; rfl
  | succ d ih =>
    intro i hi
    have hlt : i < l.length := by omega
    have e := ih (i + 1) (by omega)
    rw [List.take_succ_eq_append_getElem hlt, List.map_append, List.map_singleton, ns_append, ns_one] at e
    refine Ev.step (fun k => by rw [spec_Lower.l0]) ?_
    have hi0 : (0 : Int) ≤ (i : Int) := by omega
    have hi1 : (i : Int) < (l.length : Int) := by omega
    have hln : (ns ((l.take i).map lowB)).length < 140737488355328 := by simp; omega
    have hw : wrap64 ((i : Int) + 1) = ((i + 1 : Nat) : Int) := by rw [w64 (by omega) (by omega)]; rfl
    simp only [B_size, bt_B, Int.toNat_natCast, get_eq hlt, if_pos hi0, if_pos hi1, if_pos hln, hw]
    have h1 := lt256 l[i]
    by_cases c1 : ((l[i].toNat : Nat) : Int) ≥ 65
    · by_cases c2 : ((l[i].toNat : Nat) : Int) ≤ 90
      · have : ((lowB l[i]).toNat : Int) = (((l[i].toNat : Nat) : Int) + 32) % 256 := by
          unfold lowB; rw [if_pos (by omega)]; simp
        simp only [if_pos c1, if_pos c2, ← this]; exact e
      · have : lowB l[i] = l[i] := by unfold lowB; rw [if_neg (by omega)]
        rw [this] at e
        simp only [if_pos c1, if_neg c2]; exact e
    · have : lowB l[i] = l[i] := by unfold lowB; rw [if_neg (by omega)]
      rw [this] at e
      simp only [if_neg c1]; exact e
theorem spec_Lower_ev (l : Bs) (hl : l.length ≤ 140737488355327) : Ev (fun k => spec_Lower.f k (B l)) (B (lower l)) := by
  unfold spec_Lower.f
  have := spec_Lower_l0 l hl l.length 0 (by omega)
  simpa [ns] using this

theorem FnExactLower : laws_FnExactLower.Pure := by
  intro a0 h0
  obtain ⟨l, rfl, hl⟩ := exBn a0 _ h0
  refine Ev.rounds ?_
  unfold laws_FnExactLower.f
  by_cases hb : ((B l).size : Int) > 1048576
  · simp only [if_pos hb]; exact Ev.now _
  · simp only [if_neg hb]
    refine ev_bind (spec_Lower_ev l (by omega)) ?_
    simp only [impl_Lower_some l (by omega), Option.bind_some]
    simp only [if_true]
    exact Ev.now _

end Go.Proofs.Ytglliobchdjmcaa.Pure
