/- The pure side of the law FnExactDecode: what the printed functions tell is what the law says, for every input within the law's bounds. -/
import Derived.Test.YtafdpgdllmhhmaaPFnExactDecodex2
import Derived.Test.YtafdpgdllmhhmaaBase
set_option linter.unusedVariables false
set_option linter.unusedSimpArgs false
namespace Go.Proofs.Ytafdpgdllmhhmaa.Pure
open Go.RowKit Go.Proofs.Ytafdpgdllmhhmaa.H Go.Proofs.Ytafdpgdllmhhmaa.PFnExactDecode Go.Proofs.YtafdpgdllmhhmaaW.PrintWords Go.Proofs.YtafdpgdllmhhmaaW.PrintLast Go.Proofs.Ytafdpgdllmhhmaa.Base

theorem spec_hex (c : UInt8) : Ev (fun k => spec_l1Hex.f k ((c.toNat : Nat) : Int)) (hexI c) := by
  have h255 := lt256 c
  unfold spec_l1Hex.f
  have j1 : ∀ b : Bool, (b = decide (65 ≤ c.toNat ∧ c.toNat ≤ 70)) → ¬ (48 ≤ c.toNat ∧ c.toNat ≤ 57) → Ev (fun k => spec_l1Hex.j1 k ((c.toNat : Nat) : Int) b) (hexI c) := by
    intro b hb h0
    refine ev_1 fun k => ?_
    simp only [spec_l1Hex.j1]
    unfold hexI
    rw [if_neg h0]
    by_cases h1 : 65 ≤ c.toNat ∧ c.toNat ≤ 70
    · rw [hb, if_pos (by simpa using h1), if_neg (by omega), if_pos h1]; congr 1; omega
    · rw [hb, if_neg (by simpa using h1)]
      by_cases h2 : ((c.toNat : Nat) : Int) ≥ 97
      · rw [if_pos h2]
        by_cases h3 : ((c.toNat : Nat) : Int) ≤ 102
        · rw [if_pos h3, if_pos (by omega)]; congr 1; omega
        · rw [if_neg h3, if_neg (by omega), if_neg h1]
      · rw [if_neg h2, if_neg (by omega), if_neg h1]
  have j0 : ∀ b : Bool, (b = decide (48 ≤ c.toNat ∧ c.toNat ≤ 57)) → Ev (fun k => spec_l1Hex.j0 k ((c.toNat : Nat) : Int) b) (hexI c) := by
    intro b hb
    refine Ev.step (fun k => by rw [spec_l1Hex.j0]) ?_
    by_cases h0 : 48 ≤ c.toNat ∧ c.toNat ≤ 57
    · simp only [if_pos (show b = true by rw [hb]; simpa using h0)]
      have : (((c.toNat : Nat) : Int) - 48) % 256 = hexI c := by unfold hexI; rw [if_pos h0]; omega
      rw [this]; exact Ev.now _
    · simp only [if_neg (show ¬ b = true by rw [hb]; simpa using h0)]
      by_cases h1 : ((c.toNat : Nat) : Int) ≥ 65
      · simp only [if_pos h1]; exact j1 _ (by congr 1; simp; omega) h0
      · simp only [if_neg h1]; exact j1 _ (by symm; simp; omega) h0
  by_cases h1 : ((c.toNat : Nat) : Int) ≥ 48
  · simp only [if_pos h1]; exact j0 _ (by congr 1; simp; omega)
  · simp only [if_neg h1]; exact j0 _ (by symm; simp; omega)

theorem impl_Decode_some (l : Bs) : impl_Decode.f (B l) = some (B (decodeMax l)) := by
  unfold impl_Decode.f; rw [B_data]
theorem spec_Decode_l0 (l : Bs) (hl : l.length ≤ 600) (d : Nat) : ∀ (i : Nat) (D : Bs), i + d = l.length → D.length ≤ i → D ++ pctDec (l.drop i) = pctDec l → Ev (fun k => spec_Decode.l0 k (B l) (ns D) i) (B (pctDec l)) := by
  induction d using Nat.strongRecOn with
  | _ d ih =>
  intro i D hi hD hE
  refine Ev.step (fun k => by rw [spec_Decode.l0]) ?_
  simp only [B_size]
  by_cases hlt : i < l.length
  · simp only [if_pos (show (i : Int) < (l.length : Int) by omega), show decide ((l.length : Int) ≤ 600) = true from decide_eq_true (by omega)]
    refine Ev.step (fun k => by rw [spec_Decode.j1]) ?_
    have hi0 : (0 : Int) ≤ (i : Int) := by omega
    have hi1 : (i : Int) < (l.length : Int) := by omega
    have w1 : wrap64 ((i : Int) + 1) = ((i + 1 : Nat) : Int) := by rw [w64 (by omega) (by omega)]; rfl
    have w2 : wrap64 ((i : Int) + 2) = ((i + 2 : Nat) : Int) := by rw [w64 (by omega) (by omega)]; rfl
    have w3 : wrap64 (((i + 2 : Nat) : Int) + 1) = ((i + 3 : Nat) : Int) := by rw [w64 (by omega) (by omega)]; rfl
    have z1 : (0 : Int) ≤ ((i + 1 : Nat) : Int) := by omega
    have z2 : (0 : Int) ≤ ((i + 2 : Nat) : Int) := by omega
    have hln : (ns D).length < 140737488355328 := by simp; omega
    have hst := decode_at l i hlt
    have no : escAt l i = false → Ev (fun k => spec_Decode.j2 k (B l) (ns D) i false) (B (pctDec l)) := by
      intro he
      refine Ev.step (fun k => by rw [spec_Decode.j2]) ?_
      simp only [Bool.false_eq_true, if_false, B_size, bt_B, Int.toNat_natCast, get_eq hlt, if_pos hi0, if_pos hi1, if_pos hln, w1]
      rw [he, if_neg (by simp)] at hst
      have := ih (d - 1) (by omega) (i + 1) (D ++ [l[i]]) (by omega) (by simp; omega) (by rw [← hE, hst]; simp)
      rw [ns_append, ns_one] at this
      exact this
    simp only [if_true, B_size, bt_B, Int.toNat_natCast, get_eq hlt, if_pos hi0, if_pos hi1, w1, w2]
    by_cases c0 : l[i] = 37
    · simp only [if_pos (show ((l[i].toNat : Nat) : Int) = 37 from (byte_eq _ 37 (by decide)).2 c0)]
      by_cases c1 : i + 2 < l.length
      · have y1 : ((i + 1 : Nat) : Int) < (l.length : Int) := by omega
        have y2 : ((i + 2 : Nat) : Int) < (l.length : Int) := by omega
        simp only [if_pos y1, if_pos y2, if_pos z1, if_pos z2, get_eq c1, get_eq (show i + 1 < l.length by omega)]
        refine ev_bind (spec_hex _) ?_
        by_cases c2 : 0 ≤ hexI l[i + 1]
        · simp only [if_pos (show hexI l[i + 1] ≥ 0 from c2)]
          refine ev_bind (spec_hex _) ?_
          by_cases c3 : 0 ≤ hexI l[i + 2]
          · have he : escAt l i = true := by unfold escAt; rw [get_eq hlt, get_eq (show i + 1 < l.length by omega), get_eq c1]; simp [c0, c1, c2, c3]
            simp only [show decide (hexI l[i + 2] ≥ 0) = true from decide_eq_true c3]
            refine Ev.step (fun k => by rw [spec_Decode.j2]) ?_
            simp only [if_true, B_size, bt_B, w1, w2, w3, Int.toNat_natCast, if_pos y1, if_pos y2, if_pos z1, if_pos z2, get_eq c1, get_eq (show i + 1 < l.length by omega)]
            refine ev_bind (spec_hex _) ?_
            refine ev_bind (spec_hex _) ?_
            have r1 := hexI_rng l[i + 1]
            have r2 := hexI_rng l[i + 2]
            have hv : (wrap64 ((wrap64 (16 * hexI l[i + 1])) + hexI l[i + 2])) % 256 = ((escByte l[i + 1] l[i + 2]).toNat : Int) := by
              rw [w64 (n := 16 * hexI l[i + 1]) (by omega) (by omega), w64 (by omega) (by omega), escByte_val _ _ c2 c3]; omega
            simp only [if_pos hln, hv]
            rw [he, if_pos rfl, get_eq (show i + 1 < l.length by omega), get_eq c1] at hst
            have := ih (d - 3) (by omega) (i + 3) (D ++ [escByte l[i + 1] l[i + 2]]) (by omega) (by simp; omega) (by rw [← hE, hst]; simp)
            rw [ns_append, ns_one] at this
            exact this
          · simp only [show decide (hexI l[i + 2] ≥ 0) = false from decide_eq_false (by omega)]
            exact no (by unfold escAt; rw [get_eq hlt, get_eq (show i + 1 < l.length by omega), get_eq c1]; simp [c3])
        · simp only [if_neg (show ¬ hexI l[i + 1] ≥ 0 by omega)]
          exact no (by unfold escAt; rw [get_eq hlt, get_eq (show i + 1 < l.length by omega), get_eq c1]; simp [c2])
      · simp only [if_neg (show ¬ ((i + 2 : Nat) : Int) < (l.length : Int) by omega)]
        exact no (by unfold escAt; simp [c1])
    · simp only [if_neg (show ¬ ((l[i].toNat : Nat) : Int) = 37 from fun e => c0 ((byte_eq _ 37 (by decide)).1 e))]
      exact no (by unfold escAt; rw [get_eq hlt]; simp [c0])
  · simp only [if_neg (show ¬ (i : Int) < (l.length : Int) by omega)]
    refine ev_1 fun k => ?_
    simp only [spec_Decode.j1, Bool.false_eq_true, if_false, str_ns]
    have : l.drop i = [] := List.drop_eq_nil_of_le (by omega)
    rw [this, decode_nil, List.append_nil] at hE
    rw [hE]
theorem spec_Decode_ev (l : Bs) : Ev (fun k => spec_Decode.f k (B l)) (B (decodeMax l)) := by
  unfold spec_Decode.f decodeMax
  by_cases hl : l.length ≤ 600
  · rw [if_pos hl]
    exact spec_Decode_l0 l hl l.length 0 [] (by omega) (by simp) (by simp)
  · rw [if_neg hl]
    refine Ev.step (fun k => by rw [spec_Decode.l0]) ?_
    simp only [B_size, if_pos (show (0 : Int) < (l.length : Int) by omega), show decide ((l.length : Int) ≤ 600) = false from decide_eq_false (by omega)]
    refine ev_1 fun k => ?_
    simp only [spec_Decode.j1, Bool.false_eq_true, if_false]
    exact congrArg some (str_ns [])

theorem FnExactDecode : laws_FnExactDecode.Pure := by
  intro a0 h0
  obtain ⟨l, rfl, hl⟩ := exBn a0 _ h0
  refine Ev.rounds ?_
  unfold laws_FnExactDecode.f
  by_cases hb : ((B l).size : Int) > 1048576
  · simp only [if_pos hb]; exact Ev.now _
  · simp only [if_neg hb]
    refine ev_bind (spec_Decode_ev l) ?_
    simp only [impl_Decode_some l, Option.bind_some, if_true]
    exact Ev.now _

end Go.Proofs.Ytafdpgdllmhhmaa.Pure
