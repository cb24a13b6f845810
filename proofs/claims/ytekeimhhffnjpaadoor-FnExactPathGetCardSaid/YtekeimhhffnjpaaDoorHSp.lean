/- spec.l1Cut and spec.Decode: what their calls come to, for every text of at most 2^42 bytes. · spec.l1Plus: the call comes to the text with its plus signs as blanks, decoded, for every text of at most 2^47 bytes. · spec.l3Pieces: the call comes to the pieces between slashes of either kind, for every text of at most 2^42 bytes. -/
import Derived.Test.YtekeimhhffnjpaaDoorLpx2
import Derived.Test.YtekeimhhffnjpaaDoorHM
import Derived.Test.YtekeimhhffnjpaaDoorBase
import Derived.Test.YtekeimhhffnjpaaDoorHImp
import Derived.Test.YtekeimhhffnjpaaDoorHA
import Derived.Tactics
import Derived.KernelRfl
import Derived.RowKit3
import Derived.Deep.LoopGhost
import Derived.Laws.Slices
import Derived.Laws.Rows
import Derived.Laws.BitsLemmas
import Derived.RowKit
import Derived.Outline
import Derived.Lib.Hide
import Derived.Test.YtekeimhhffnjpaaDoorHWay
set_option linter.unusedVariables false
set_option linter.unusedSimpArgs false
namespace Go.Proofs.YtekeimhhffnjpaaDoor.HS
open Go.RowKit Go.Proofs.YtekeimhhffnjpaaDoor.H Go.Proofs.YtekeimhhffnjpaaDoor.Lp Go.Proofs.YtekeimhhffnjpaaDoorW.PrintWords Go.Proofs.YtekeimhhffnjpaaDoorW.PrintLast Go.Proofs.YtekeimhhffnjpaaDoor.Base
theorem spec_hex (c : UInt8) : Ev (fun k => spec_l1Hex.f k ((c.toNat : Nat) : Int)) (hexI c) := by
  have h255 := lt256 c
  unfold spec_l1Hex.f
  have j1 : ∀ b : Bool, (b = decide (65 ≤ c.toNat ∧ c.toNat ≤ 70)) → ¬ (48 ≤ c.toNat ∧ c.toNat ≤ 57) → Ev (fun k => spec_l1Hex.j1 k ((c.toNat : Nat) : Int) b) (hexI c) := by
    intro b hb h0
    refine ev_1 fun k => ?_
    simp only [spec_l1Hex.j1]
    unfold hexI
    rw [if_neg h0]
    by_cases h1 : 65 ≤ c.toNat ∧ c.toNat ≤ 70
    · rw [hb, if_pos (by simpa using h1), if_neg (by omega), if_pos h1]; congr 1; omega
    · rw [hb, if_neg (by simpa using h1)]
      by_cases h2 : ((c.toNat : Nat) : Int) ≥ 97
      · rw [if_pos h2]
        by_cases h3 : ((c.toNat : Nat) : Int) ≤ 102
        · rw [if_pos h3, if_pos (by omega)]; congr 1; omega
        · rw [if_neg h3, if_neg (by omega), if_neg h1]
      · rw [if_neg h2, if_neg (by omega), if_neg h1]
  have j0 : ∀ b : Bool, (b = decide (48 ≤ c.toNat ∧ c.toNat ≤ 57)) → Ev (fun k => spec_l1Hex.j0 k ((c.toNat : Nat) : Int) b) (hexI c) := by
    intro b hb
    refine Ev.step (fun k => by rw [spec_l1Hex.j0]) ?_
    by_cases h0 : 48 ≤ c.toNat ∧ c.toNat ≤ 57
    · simp only [if_pos (show b = true by rw [hb]; simpa using h0)]
      have : (((c.toNat : Nat) : Int) - 48) % 256 = hexI c := by unfold hexI; rw [if_pos h0]; omega
      rw [this]; exact Ev.now _
    · simp only [if_neg (show ¬ b = true by rw [hb]; simpa using h0)]
      by_cases h1 : ((c.toNat : Nat) : Int) ≥ 65
      · simp only [if_pos h1]; exact j1 _ (by congr 1; simp; omega) h0
      · simp only [if_neg h1]; exact j1 _ (by symm; simp; omega) h0
  by_cases h1 : ((c.toNat : Nat) : Int) ≥ 48
  · simp only [if_pos h1]; exact j0 _ (by congr 1; simp; omega)
  · simp only [if_neg h1]; exact j0 _ (by symm; simp; omega)
theorem spec_Cut_l0 (c : UInt8) (l : Bs) (hl : l.length ≤ 8796093022207) (d : Nat) : ∀ (f i : Nat) (X : List ByteArray), i + d = l.length → f ≤ i → X.length ≤ f → (∀ x ∈ (l.drop f).take (i - f), x ≠ c) → Ev (fun k => spec_l1Cut.l0 k (B l) ((c.toNat : Nat) : Int) X f i) (X ++ (splitC c (l.drop f)).map B) := by
  induction d with
  | zero =>
    intro f i X hi hf hX h
    refine ev_1 fun k => ?_
    simp only [spec_l1Cut.l0]
    rw [if_neg (by rw [B_size]; omega), if_pos (by omega), if_pos (by rw [B_size]; omega), if_pos (by omega)]
    rw [List.take_of_length_le (by simp; omega)] at h
    rw [splitC_plain c _ h, Int.toNat_natCast, B_extract, B_size, List.take_of_length_le (by simp)]
    rfl
  | succ d ih =>
    intro f i X hi hf hX h
    have hlt : i < l.length := by omega
    refine Ev.step (fun k => by rw [spec_l1Cut.l0]) ?_
    have hi0 : (0 : Int) ≤ (i : Int) := by omega
    have hi1 : (i : Int) < (l.length : Int) := by omega
    have hi2 : (i : Int) ≤ (l.length : Int) := by omega
    have hw : wrap64 ((i : Int) + 1) = ((i + 1 : Nat) : Int) := by rw [w64 (by omega) (by omega)]; rfl
    simp only [B_size, bt_B, Int.toNat_natCast, get_eq hlt, if_pos hi0, if_pos hi1, if_pos hi2, hw]
    have hcat : l.drop f = (l.drop f).take (i - f) ++ l[i] :: l.drop (i + 1) := by
      conv => lhs; rw [← List.take_append_drop (i - f) (l.drop f)]
      rw [List.drop_drop, show f + (i - f) = i by omega, List.drop_eq_getElem_cons hlt]
    by_cases e : l[i] = c
    · have e1 : ((l[i].toNat : Nat) : Int) = ((c.toNat : Nat) : Int) := by rw [e]
      simp only [if_pos e1, if_pos (show (0 : Int) ≤ (f : Int) by omega), if_pos (show (f : Int) ≤ (i : Int) by omega), if_pos (show X.length < 8796093022208 by omega)]
      have := ih (i + 1) (i + 1) (X ++ [B ((l.drop f).take (i - f))]) (by omega) (by omega) (by simp; omega) (by simp)
      have hs : splitC c (l.drop f) = (l.drop f).take (i - f) :: splitC c (l.drop (i + 1)) := by
        conv => lhs; rw [hcat, e, splitC_cut c _ _ h]
      rw [B_extract, hs]
      simpa using this
    · have e1 : ¬ ((l[i].toNat : Nat) : Int) = ((c.toNat : Nat) : Int) := fun h => e (UInt8.toNat_inj.1 (by omega))
      simp only [if_neg e1]
      refine ih f (i + 1) X (by omega) (by omega) hX ?_
      have ht : (l.drop f).take (i + 1 - f) = (l.drop f).take (i - f) ++ [l[i]] := by
        rw [show i + 1 - f = (i - f) + 1 by omega, List.take_succ_eq_append_getElem (by simp; omega)]
        simp [show f + (i - f) = i by omega]
      rw [ht]
      intro x hx
      rcases List.mem_append.1 hx with hx | hx
      · exact h x hx
      · rw [List.mem_singleton.1 hx]; exact e
theorem spec_Cut (c : UInt8) (n : Nat) (hn : c = UInt8.ofNat n) (hn' : n < 256) (l : Bs) (hl : l.length ≤ 8796093022207) : Ev (fun k => spec_l1Cut.f k (B l) ((n : Nat) : Int)) ((splitC c l).map B) := by
  have e : ((n : Nat) : Int) = ((c.toNat : Nat) : Int) := by subst hn; simp; omega
  rw [e]
  unfold spec_l1Cut.f
  exact spec_Cut_l0 c l hl l.length 0 0 [] (by omega) (by omega) (by simp) (by simp)
theorem spec_Decode_l0 (l : Bs) (hl : l.length ≤ 600) (d : Nat) : ∀ (i : Nat) (D : Bs), i + d = l.length → D.length ≤ i → D ++ pctDec (l.drop i) = pctDec l → Ev (fun k => spec_Decode.l0 k (B l) (ns D) i) (B (pctDec l)) := by
  induction d using Nat.strongRecOn with
  | _ d ih =>
  intro i D hi hD hE
  refine Ev.step (fun k => by rw [spec_Decode.l0]) ?_
  simp only [B_size]
  by_cases hlt : i < l.length
  · simp only [if_pos (show (i : Int) < (l.length : Int) by omega), show decide ((l.length : Int) ≤ 600) = true from decide_eq_true (by omega)]
    refine Ev.step (fun k => by rw [spec_Decode.j1]) ?_
    have hi0 : (0 : Int) ≤ (i : Int) := by omega
    have hi1 : (i : Int) < (l.length : Int) := by omega
    have w1 : wrap64 ((i : Int) + 1) = ((i + 1 : Nat) : Int) := by rw [w64 (by omega) (by omega)]; rfl
    have w2 : wrap64 ((i : Int) + 2) = ((i + 2 : Nat) : Int) := by rw [w64 (by omega) (by omega)]; rfl
    have w3 : wrap64 (((i + 2 : Nat) : Int) + 1) = ((i + 3 : Nat) : Int) := by rw [w64 (by omega) (by omega)]; rfl
    have z1 : (0 : Int) ≤ ((i + 1 : Nat) : Int) := by omega
    have z2 : (0 : Int) ≤ ((i + 2 : Nat) : Int) := by omega
    have hln : (ns D).length < 140737488355328 := by simp; omega
    have hst := decode_at l i hlt
    have no : escAt l i = false → Ev (fun k => spec_Decode.j2 k (B l) (ns D) i false) (B (pctDec l)) := by
      intro he
      refine Ev.step (fun k => by rw [spec_Decode.j2]) ?_
      simp only [Bool.false_eq_true, if_false, B_size, bt_B, Int.toNat_natCast, get_eq hlt, if_pos hi0, if_pos hi1, if_pos hln, w1]
      rw [he, if_neg (by simp)] at hst
      have := ih (d - 1) (by omega) (i + 1) (D ++ [l[i]]) (by omega) (by simp; omega) (by rw [← hE, hst]; simp)
      rw [ns_append, ns_one] at this
      exact this
    simp only [if_true, B_size, bt_B, Int.toNat_natCast, get_eq hlt, if_pos hi0, if_pos hi1, w1, w2]
    by_cases c0 : l[i] = 37
    · simp only [if_pos (show ((l[i].toNat : Nat) : Int) = 37 from (byte_eq _ 37 (by decide)).2 c0)]
      by_cases c1 : i + 2 < l.length
      · have y1 : ((i + 1 : Nat) : Int) < (l.length : Int) := by omega
        have y2 : ((i + 2 : Nat) : Int) < (l.length : Int) := by omega
        simp only [if_pos y1, if_pos y2, if_pos z1, if_pos z2, get_eq c1, get_eq (show i + 1 < l.length by omega)]
        refine ev_bind (spec_hex _) ?_
        by_cases c2 : 0 ≤ hexI l[i + 1]
        · simp only [if_pos (show hexI l[i + 1] ≥ 0 from c2)]
          refine ev_bind (spec_hex _) ?_
          by_cases c3 : 0 ≤ hexI l[i + 2]
          · have he : escAt l i = true := by unfold escAt; rw [get_eq hlt, get_eq (show i + 1 < l.length by omega), get_eq c1]; simp [c0, c1, c2, c3]
            simp only [show decide (hexI l[i + 2] ≥ 0) = true from decide_eq_true c3]
            refine Ev.step (fun k => by rw [spec_Decode.j2]) ?_
            simp only [if_true, B_size, bt_B, w1, w2, w3, Int.toNat_natCast, if_pos y1, if_pos y2, if_pos z1, if_pos z2, get_eq c1, get_eq (show i + 1 < l.length by omega)]
            refine ev_bind (spec_hex _) ?_
            refine ev_bind (spec_hex _) ?_
            have r1 := hexI_rng l[i + 1]
            have r2 := hexI_rng l[i + 2]
            have hv : (wrap64 ((wrap64 (16 * hexI l[i + 1])) + hexI l[i + 2])) % 256 = ((escByte l[i + 1] l[i + 2]).toNat : Int) := by
              rw [w64 (n := 16 * hexI l[i + 1]) (by omega) (by omega), w64 (by omega) (by omega), escByte_val _ _ c2 c3]; omega
            simp only [if_pos hln, hv]
            rw [he, if_pos rfl, get_eq (show i + 1 < l.length by omega), get_eq c1] at hst
            have := ih (d - 3) (by omega) (i + 3) (D ++ [escByte l[i + 1] l[i + 2]]) (by omega) (by simp; omega) (by rw [← hE, hst]; simp)
            rw [ns_append, ns_one] at this
            exact this
          · simp only [show decide (hexI l[i + 2] ≥ 0) = false from decide_eq_false (by omega)]
            exact no (by unfold escAt; rw [get_eq hlt, get_eq (show i + 1 < l.length by omega), get_eq c1]; simp [c3])
        · simp only [if_neg (show ¬ hexI l[i + 1] ≥ 0 by omega)]
          exact no (by unfold escAt; rw [get_eq hlt, get_eq (show i + 1 < l.length by omega), get_eq c1]; simp [c2])
      · simp only [if_neg (show ¬ ((i + 2 : Nat) : Int) < (l.length : Int) by omega)]
        exact no (by unfold escAt; simp [c1])
    · simp only [if_neg (show ¬ ((l[i].toNat : Nat) : Int) = 37 from fun e => c0 ((byte_eq _ 37 (by decide)).1 e))]
      exact no (by unfold escAt; rw [get_eq hlt]; simp [c0])
  · simp only [if_neg (show ¬ (i : Int) < (l.length : Int) by omega)]
    refine ev_1 fun k => ?_
    simp only [spec_Decode.j1, Bool.false_eq_true, if_false, str_ns]
    have : l.drop i = [] := List.drop_eq_nil_of_le (by omega)
    rw [this, decode_nil, List.append_nil] at hE
    rw [hE]
theorem spec_Decode_ev (l : Bs) : Ev (fun k => spec_Decode.f k (B l)) (B (decodeMax l)) := by
  unfold spec_Decode.f decodeMax
  by_cases hl : l.length ≤ 600
  · rw [if_pos hl]
    exact spec_Decode_l0 l hl l.length 0 [] (by omega) (by simp) (by simp)
  · rw [if_neg hl]
    refine Ev.step (fun k => by rw [spec_Decode.l0]) ?_
    simp only [B_size, if_pos (show (0 : Int) < (l.length : Int) by omega), show decide ((l.length : Int) ≤ 600) = false from decide_eq_false (by omega)]
    refine ev_1 fun k => ?_
    simp only [spec_Decode.j1, Bool.false_eq_true, if_false]
    exact congrArg some (str_ns [])
theorem specCut_walk (c : UInt8) (n : Nat) (hn : c = UInt8.ofNat n) (hn' : n < 256) (l : Bs) (w : World) (hl : l.length ≤ 8796093022207) :
    Calls Tryd.prog 62 #[.string (B l), .int .u8 ((n : Nat) : Int)] w fun e w' => ∃ v0_ : Value, e = .returned (v0_) ∧ Kd.R Kd.string 9 w' w.heap.size (fun _ => True) v0_ ((splitC c l).map B) ∧ Below w.heap.size w w' := by
  obtain ⟨K, hK⟩ := spec_Cut c n hn hn' l hl
  exact spec_l1Cut.calls K _ _ _ w (hK K (Nat.le_refl _))
theorem specDecode_walk (l : Bs) (w : World) :
    Calls Tryd.prog 82 #[.string (B l)] w fun e w' => e = .returned (.string (B (decodeMax l))) ∧ Below w.heap.size w w' := by
  obtain ⟨K, hK⟩ := spec_Decode_ev l
  exact spec_Decode.calls K _ _ w (hK K (Nat.le_refl _))
end Go.Proofs.YtekeimhhffnjpaaDoor.HS
namespace Go.Proofs.YtekeimhhffnjpaaDoor.H
open Go.RowKit Go.Proofs.YtekeimhhffnjpaaDoor.HS Go.Proofs.YtekeimhhffnjpaaDoorW.PrintWords Go.Proofs.YtekeimhhffnjpaaDoor.Base
set_option maxHeartbeats 1000000 in
set_option maxRecDepth 100000 in
theorem plus_walk (l : Bs) (w : World) (hl : l.length ≤ 140737488351232) :
    Calls Tryd.prog 64 #[.string (B l)] w fun e w' => e = .returned (.string (B (decodeMax (swapC 43 32 l)))) ∧ Below w.heap.size w w' := by
  have hconv := fun W => Lib.run_convert_string_bytes (P := Tryd.prog) W 9 22 5 (B l) Tryd.underlying9 Tryd.underlying22 Tryd.underlying5
  have hback := fun (W : World) (k : Nat) (c : Nat) (h : BRow W w.heap.size (swK 43 32 l k)) => h.string (c := c) (P := Tryd.prog) (by rw [swK_length]; omega) Tryd.underlying22 Tryd.underlying5 Tryd.underlying9
  go_enter Tryd.func64, Tryd.ntmps64
  go_wp2
  go_loopw [4] (fun i wr => ∃ k : Nat, k ≤ l.length ∧ i = .int .i64 k ∧ BRow wr w.heap.size (swK 43 32 l k) ∧ Below w.heap.size w wr) (fun i _ => l.length - (intOf i).toNat)
  case atStart => exact ⟨0, Nat.zero_le _, rfl, by rw [swK_zero]; exact BRow.start w 5 l, bytes_below (Below.refl _ _) (Nat.le_refl _) _ _⟩
  case round =>
    obtain ⟨k, hk, rfl, hrow, hb⟩ := hrel
    by_cases hlt : k < l.length
    · have hc := (hrow k (by rw [swK_length]; exact hlt)).1
      have hf := (hrow k (by rw [swK_length]; exact hlt)).2
      rw [swK_get 43 32 l k hlt] at hc
      by_cases c3 : l[k] = 43
      · have c3b : (((l[k].toNat : Nat) : Int) == 43) = true := by rw [c3]; rfl
        have hs := swK_succ 43 32 l k hlt
        rw [if_pos c3] at hs
        have HS := Lib.hid hs
        clear hs c3
        go_wp2
        go_roundw
        case rel =>
          refine ⟨k + 1, by omega, by go_num, ?_, hb.setCell (Nat.le_refl _) _⟩
          rw [HS.out]
          exact hrow.set k 32 (by rw [swK_length]; exact hlt)
        case measure => simp [intOf]; omega
      · have c3b : (((l[k].toNat : Nat) : Int) == 43) = false := by
          rw [beq_eq_false_iff_ne]; intro e; exact c3 ((byte_eq _ 43 (by decide)).1 e)
        have HS := Lib.hid (swK_same 43 32 l k hlt c3)
        clear c3
        go_wp2
        go_roundw
        case rel => exact ⟨k + 1, by omega, by go_num, by rw [HS.out]; exact hrow, hb⟩
        case measure => simp [intOf]; omega
    · obtain rfl : k = l.length := by omega
      have hcv := hback wr l.length (grownCap w l.length 0 5) hrow
      rw [swK_length, swK_all 43 32 l _ (Nat.le_refl _)] at hcv
      have hb' := Lib.hid hb
      clear hb hback
      go_wp2_with fail
      refine (specDecode_walk (swapC 43 32 l) _).mono ?_
      rintro e w1 ⟨rfl, hb1⟩
      go_wp2
      go_ret
      exact ⟨rfl, below_then hb'.out hb'.out.size hb1⟩
def spec_l1Plus.f (a0 : ByteArray) : Option ByteArray := if a0.size ≤ 140737488351232 then some (B (decodeMax (swapC 43 32 a0.data.toList))) else none
theorem spec_l1Plus.calls (a0 : ByteArray) (r : ByteArray) (w : World) (h : spec_l1Plus.f a0 = some r) :
    Calls Tryd.prog 64 #[.string a0] w fun e w' => e = .returned (.string r) ∧ Below w.heap.size w w' := by
  obtain ⟨l, rfl⟩ := exB a0
  unfold spec_l1Plus.f at h
  rw [B_data, B_size] at h
  by_cases c : l.length ≤ 140737488351232
  · rw [if_pos c] at h
    obtain rfl := Option.some.inj h
    exact plus_walk l w c
  · rw [if_neg c] at h; cases h
end Go.Proofs.YtekeimhhffnjpaaDoor.H
namespace Go.Proofs.YtekeimhhffnjpaaDoor.H
open Go.RowKit Go.Proofs.YtekeimhhffnjpaaDoor.HS Go.Proofs.YtekeimhhffnjpaaDoorW.PrintWords Go.Proofs.YtekeimhhffnjpaaDoor.Base
set_option maxHeartbeats 1000000 in
set_option maxRecDepth 100000 in
theorem pieces_walk (l : Bs) (w : World) (hl : l.length ≤ 8796093022207) :
    Calls Tryd.prog 71 #[.string (B l)] w fun e w' => ∃ v0_ : Value, e = .returned (v0_) ∧ Kd.R Kd.string 9 w' w.heap.size (fun _ => True) v0_ ((pieces l).map B) ∧ Below w.heap.size w w' := by
  have hconv := fun W => Lib.run_convert_string_bytes (P := Tryd.prog) W 9 22 5 (B l) Tryd.underlying9 Tryd.underlying22 Tryd.underlying5
  have hback := fun (W : World) (k : Nat) (c : Nat) (h : BRow W w.heap.size (swK 92 47 l k)) => h.string (c := c) (P := Tryd.prog) (by rw [swK_length]; omega) Tryd.underlying22 Tryd.underlying5 Tryd.underlying9
  go_enter Tryd.func71, Tryd.ntmps71
  go_wp2
  go_loopw [4] (fun i wr => ∃ k : Nat, k ≤ l.length ∧ i = .int .i64 k ∧ BRow wr w.heap.size (swK 92 47 l k) ∧ Below w.heap.size w wr) (fun i _ => l.length - (intOf i).toNat)
  case atStart => exact ⟨0, Nat.zero_le _, rfl, by rw [swK_zero]; exact BRow.start w 5 l, bytes_below (Below.refl _ _) (Nat.le_refl _) _ _⟩
  case round =>
    obtain ⟨k, hk, rfl, hrow, hb⟩ := hrel
    by_cases hlt : k < l.length
    · have hc := (hrow k (by rw [swK_length]; exact hlt)).1
      have hf := (hrow k (by rw [swK_length]; exact hlt)).2
      rw [swK_get 92 47 l k hlt] at hc
      by_cases c3 : l[k] = 92
      · have c3b : (((l[k].toNat : Nat) : Int) == 92) = true := by rw [c3]; rfl
        have hs := swK_succ 92 47 l k hlt
        rw [if_pos c3] at hs
        have HS := Lib.hid hs
        clear hs c3
        go_wp2
        go_roundw
        case rel =>
          refine ⟨k + 1, by omega, by go_num, ?_, hb.setCell (Nat.le_refl _) _⟩
          rw [HS.out]
          exact hrow.set k 47 (by rw [swK_length]; exact hlt)
        case measure => simp [intOf]; omega
      · have c3b : (((l[k].toNat : Nat) : Int) == 92) = false := by
          rw [beq_eq_false_iff_ne]; intro e; exact c3 ((byte_eq _ 92 (by decide)).1 e)
        have HS := Lib.hid (swK_same 92 47 l k hlt c3)
        clear c3
        go_wp2
        go_roundw
        case rel => exact ⟨k + 1, by omega, by go_num, by rw [HS.out]; exact hrow, hb⟩
        case measure => simp [intOf]; omega
    · obtain rfl : k = l.length := by omega
      have hcv := hback wr l.length (grownCap w l.length 0 5) hrow
      rw [swK_length, swK_all 92 47 l _ (Nat.le_refl _)] at hcv
      have hb' := Lib.hid hb
      clear hb hback
      have hwr : w.heap.size ≤ wr.heap.size := hb'.out.size
      go_wp2_with fail
      refine (specCut_walk 47 47 rfl (by decide) (swapC 92 47 l) _ (by rw [swapC_length]; omega)).mono ?_
      rintro e w1 ⟨v, rfl, hv, hb1⟩
      go_wp2
      go_ret
      exact ⟨v, rfl, Kd.R_lower hv hwr, below_then hb'.out hwr hb1⟩
def spec_l3Pieces.f (a0 : ByteArray) : Option (List ByteArray) := if a0.size ≤ 8796093022207 then some ((pieces a0.data.toList).map B) else none
theorem spec_l3Pieces.calls (a0 : ByteArray) (r : List ByteArray) (w : World) (h : spec_l3Pieces.f a0 = some r) :
    Calls Tryd.prog 71 #[.string a0] w fun e w' => ∃ v0_ : Value, e = .returned (v0_) ∧ Kd.R Kd.string 9 w' w.heap.size (fun _ => True) v0_ r ∧ Below w.heap.size w w' := by
  obtain ⟨l, rfl⟩ := exB a0
  unfold spec_l3Pieces.f at h
  rw [B_data, B_size] at h
  by_cases c : l.length ≤ 8796093022207
  · rw [if_pos c] at h
    obtain rfl := Option.some.inj h
    exact pieces_walk l w c
  · rw [if_neg c] at h; cases h
end Go.Proofs.YtekeimhhffnjpaaDoor.H
