/- impl.FormGet, told in the pairs that the print of FnForm makes: the call comes to the pairs, for every text; internal/bytealg.MaxLen holds some integer. -/
import Derived.Test.YtekeimhhffnjpaaDoorPFnFormx0
import Derived.Test.YtekeimhhffnjpaaDoorHFrm
set_option linter.unusedVariables false
namespace Go.Proofs.YtekeimhhffnjpaaDoor.PFnForm
open Go.RowKit Go.Proofs.YtekeimhhffnjpaaDoor.H Go.Proofs.YtekeimhhffnjpaaDoorW.PrintWords Go.Proofs.YtekeimhhffnjpaaDoor.Base
def toP (p : Bs × Bs) : S71 := ⟨B p.1, B p.2⟩
theorem reps_pairs (w : World) (base : Nat) (ok : Nat → Prop) (ps : List (Bs × Bs)) : Reps (k71.M w base ok) 2 (ps.map toP) (pairV ps) := by
  refine ⟨by rw [pairV_len, List.length_map], fun j p hj => ?_⟩
  rw [List.getElem?_map, Option.map_eq_some_iff] at hj
  obtain ⟨q, hq, rfl⟩ := hj
  have e : ((pairV ps).drop (j * 2)).take 2 = [.string (B q.1), .string (B q.2)] := by
    obtain ⟨hl, hv⟩ := List.getElem?_eq_some_iff.1 hq
    have hs : ps = ps.take j ++ q :: ps.drop (j + 1) := by
      conv => lhs; rw [← List.take_append_drop j ps]
      rw [List.drop_eq_getElem_cons hl, hv]
    conv => lhs; rw [hs]
    have e1 : pairV (ps.take j ++ q :: ps.drop (j + 1)) = pairV (ps.take j) ++ ([.string (B q.1), .string (B q.2)] ++ pairV (ps.drop (j + 1))) := by simp [pairV]
    have e2 : (pairV (ps.take j)).length = j * 2 := by rw [pairV_len, List.length_take, Nat.min_eq_left (Nat.le_of_lt hl)]
    rw [e1, ← e2, List.drop_left]; rfl
  rw [e]
  exact k71_mkM w base ok (toP q)
def impl_FormGet.f (a0 : ByteArray) : Option (List S71) := some ((formGet a0.data.toList).map toP)
theorem impl_FormGet.calls (a0 : ByteArray) (r : List S71) (w : World) (hT : TabM w) (h : impl_FormGet.f a0 = some r) :
    Calls Tryd.prog 20 #[.string a0] w fun e w' => ∃ v0_ : Value, e = .returned (v0_) ∧ Kd.Q k71 71 w' w.heap.size (fun _ => True) v0_ r ∧ Below w.heap.size w w' := by
  obtain ⟨l, rfl⟩ := exB a0
  unfold impl_FormGet.f at h
  rw [B_data] at h
  obtain rfl := Option.some.inj h
  refine (formGet_any l w hT).mono ?_
  rintro e w' ⟨v, rfl, h1, h2⟩
  refine ⟨v, rfl, ⟨fun _ _ => trivial, pairV (formGet l), ?_, reps_pairs _ _ _ _⟩, h2⟩
  rw [List.length_map]; exact h1
end Go.Proofs.YtekeimhhffnjpaaDoor.PFnForm
