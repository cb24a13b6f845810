/- laws.markPairS, told in the pairs that the print of FnExactFormGet makes. -/
import Derived.Test.YtekeimhhffnjpaaDoorPFnExactFormGetXFormGet
import Derived.Test.YtekeimhhffnjpaaDoorHMk
set_option linter.unusedVariables false
namespace Go.Proofs.YtekeimhhffnjpaaDoor.PFnExactFormGet
open Go.RowKit Go.Proofs.YtekeimhhffnjpaaDoor.H Go.Proofs.YtekeimhhffnjpaaDoor.HS Go.Proofs.YtekeimhhffnjpaaDoorW.PrintWords Go.Proofs.YtekeimhhffnjpaaDoor.Base
def ofP (x : S71) : Bs × Bs := (x.f0.data.toList, x.f1.data.toList)
theorem toP_ofP (x : S71) : toP (ofP x) = x := by
  cases x; simp [toP, ofP, ← eq_B]
theorem reps_back {w : World} {base : Nat} {ok : Nat → Prop} {l : List S71} {cs : List Value} (h : Reps (k71.M w base ok) 2 l cs) : cs = pairV (l.map ofP) := by
  obtain ⟨h1, h2⟩ := h
  induction l generalizing cs with
  | nil => simpa [pairV] using h1
  | cons x t ih =>
    have h3 := k71_openM (h2 0 x rfl)
    rw [Nat.zero_mul, List.drop_zero] at h3
    have hl : cs.length = (t.length + 1) * 2 := by simpa using h1
    have hs : cs = cs.take 2 ++ cs.drop 2 := (List.take_append_drop 2 cs).symm
    have ht := ih (cs := cs.drop 2) (by rw [List.length_drop]; omega) (fun j p hj => by
      have := h2 (j + 1) p (by simpa using hj)
      rw [List.drop_drop]
      have e : 2 + j * 2 = (j + 1) * 2 := by omega
      rw [e]; exact this)
    rw [hs, h3, ht]
    simp [pairV, ofP, ← eq_B]
def laws_markPairS.f (l0 : List S71) (a1 : Int) : Option (Int × List S71) := if 1 ≤ a1 ∧ a1 + 2 * (l0.length : Int) ≤ 1099511627776 then some (a1 + 2 * (l0.length : Int), (marksP l0.length a1.toNat).map toP) else none
theorem laws_markPairS.calls (P0_ : Nat → Prop) (u9000_ : Value) (l0 : List S71) (a1 : Int) (r1 : Int) (r2 : List S71) (w0 w : World) (hB : Below w0.heap.size w0 w) (ho0 : Kd.Q k71 71 w w0.heap.size P0_ u9000_ l0) (h : laws_markPairS.f l0 a1 = some (r1, r2)) :
    Calls Tryd.prog 24 #[u9000_, .int .i64 a1] w fun e w' => e = .returned (.int .i64 r1) ∧ Kd.Q k71 71 w' w0.heap.size (fun k_ => (P0_ k_ ∨ w.heap.size ≤ k_)) u9000_ r2 ∧ Below w0.heap.size w0 w' ∧ Kept w w' (fun k_ => P0_ k_) := by
  unfold laws_markPairS.f at h
  by_cases hc : 1 ≤ a1 ∧ a1 + 2 * (l0.length : Int) ≤ 1099511627776
  case neg => rw [if_neg hc] at h; cases h
  rw [if_pos hc] at h
  obtain ⟨rfl, rfl⟩ := Prod.mk.inj (Option.some.inj h)
  obtain ⟨a, rfl⟩ := Int.eq_ofNat_of_zero_le (show 0 ≤ a1 by omega)
  have hQ := ho0
  obtain ⟨hP, inner, hq, hr⟩ := ho0
  have hin := reps_back hr
  have hsz : k71.sz = 2 := rfl
  by_cases hz : l0.length = 0
  · obtain ⟨A, c, rfl, _⟩ := q_slice hq
    obtain rfl : l0 = [] := List.eq_nil_of_length_eq_zero hz
    refine (markP_none A c a w).mono ?_
    rintro e w' ⟨rfl, rfl⟩
    exact ⟨by simp, Kd.Q_mono hQ (fun k hk => Or.inl hk), hB, Kept.refl _ _⟩
  · rcases hq.2 with ⟨h0, _⟩ | ⟨g, off, cap, cur, rfl, hg, hh, hnc, hcm, hcs, ht⟩
    · exact absurd h0 hz
    have hgw : g < w.heap.size := (Array.getElem?_eq_some_iff.1 hh).1
    rw [hsz] at hcs ht
    have hM0 : MarkAt 71 w w g (off * 2) cur.size (pairV (l0.map ofP)) := by
      refine ⟨⟨cur, hh, rfl, fun j hj => ?_⟩, ⟨rfl, rfl, rfl, Nat.le_refl _, fun _ _ _ => rfl⟩⟩
      have hj' : j < l0.length * 2 := by rw [pairV_len, List.length_map] at hj; exact hj
      have e1 : (pairV (l0.map ofP))[j]? = some (pairV (l0.map ofP))[j] := List.getElem?_eq_getElem hj
      rw [← e1, ← hin, ← ht, List.getElem?_take, if_pos hj', List.getElem?_drop, Array.getElem?_toList]
    have hW := markP_walk g (off * 2) cap cur.size (l0.map ofP) a w hM0 hgw (by rw [List.length_map]; exact hnc) (by omega) (by rw [List.length_map]; omega)
    rw [List.length_map] at hW
    refine hW.mono ?_
    rintro e w' ⟨rfl, hm⟩
    obtain ⟨cur', g1, g2, g3⟩ := hm.row
    have hPg := hP g rfl
    have hlen : (pairV (marksP l0.length a)).length = l0.length * 2 := by rw [pairV_len, marksP_len]
    have ha : (Int.ofNat a).toNat = a := rfl
    refine ⟨by simp, ⟨fun k hk => Or.inl (hP k hk), pairV (marksP l0.length a), ⟨?_, .inr ⟨g, off, cap, cur', by simp [marksP_len], hg, g1, by simp [marksP_len]; exact hnc, hcm, by rw [g2]; exact hcs, ?_⟩⟩, reps_pairs _ _ _ _⟩, hB.grown hm.far (by have := hB.size; omega) (fun k hk => by cases hk; exact hg), ⟨hm.far.size, fun i hi hni => hm.far.block i hi (fun q => hni (by cases q; exact hPg))⟩⟩
    · rw [List.length_map]; exact hlen.trans (by simp [marksP_len, hsz])
    · have hlt' : cur'.toList.length = cur.size := by rw [Array.length_toList]; exact g2
      have hb0 : off * 2 + l0.length * 2 ≤ cur'.toList.length := by rw [Nat.add_mul] at hcs; have := Nat.mul_le_mul_right 2 hnc; omega
      show (cur'.toList.drop (off * 2)).take (((marksP l0.length a).map toP).length * 2) = _
      apply List.ext_getElem (by rw [hlen, List.length_take, List.length_drop]; simp [marksP_len]; omega)
      intro j hj hj'
      rw [← Option.some_inj, ← List.getElem?_eq_getElem, ← g3 j hj', List.getElem?_take, if_pos (by simp [marksP_len]; rw [hlen] at hj'; omega), List.getElem?_drop, Array.getElem?_toList]
end Go.Proofs.YtekeimhhffnjpaaDoor.PFnExactFormGet
