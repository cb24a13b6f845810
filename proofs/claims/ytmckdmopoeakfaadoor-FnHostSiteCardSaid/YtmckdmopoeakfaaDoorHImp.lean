/- impl.Lower: the call comes to the text with its capital letters made small, for every text of at most 2^47 bytes. · impl.hex and impl.Decode: the calls come to the figure's number, and to the decoded text ("" past 600 bytes), for every argument. -/
import Derived.Test.YtmckdmopoeakfaaDoorHA
import Derived.Test.YtmckdmopoeakfaaDoorProg
import Derived.Tactics
import Derived.KernelRfl
import Derived.RowKit3
import Derived.Deep.LoopGhost
import Derived.Laws.Slices
import Derived.Laws.Rows
import Derived.Laws.BitsLemmas
import Derived.RowKit
import Derived.Outline
import Derived.Lib.Hide
import Derived.Test.YtmckdmopoeakfaaDoorHM
import Derived.Test.YtmckdmopoeakfaaDoorShelf
import Derived.Deep.QuietTactic
import Derived.BigQuiet
import Derived.StillTailTactics
import Derived.Deep.RegionWith
namespace Go.Proofs.YtmckdmopoeakfaaDoor.H
open Go.RowKit Go.Proofs.YtmckdmopoeakfaaDoorW.PrintWords Go.Proofs.YtmckdmopoeakfaaDoor.Base

def lowB (c : UInt8) : UInt8 := if 65 ≤ c.toNat ∧ c.toNat ≤ 90 then c + 32 else c
def lower (l : Bs) : Bs := l.map lowB
def lowK (l : Bs) (k : Nat) : Bs := (l.take k).map lowB ++ l.drop k
theorem lowK_length (l : Bs) (k : Nat) : (lowK l k).length = l.length := by simp [lowK]; omega
theorem lowK_zero (l : Bs) : lowK l 0 = l := by simp [lowK]
theorem lowK_all (l : Bs) (k : Nat) (h : l.length ≤ k) : lowK l k = lower l := by simp [lowK, lower, List.take_of_length_le h, List.drop_eq_nil_of_le h]
theorem lowK_get (l : Bs) (k : Nat) (h : k < l.length) (h' : k < (lowK l k).length) : (lowK l k)[k] = l[k] := by
  simp only [lowK]
  rw [List.getElem_append_right (by simp; omega)]
  simp [Nat.min_eq_left (Nat.le_of_lt h)]
theorem lowK_succ (l : Bs) (k : Nat) (h : k < l.length) : lowK l (k + 1) = (lowK l k).set k (lowB l[k]) := by
  have hm : ((l.take k).map lowB).length = k := by simp; omega
  simp only [lowK]
  rw [List.take_succ_eq_append_getElem h, List.map_append, List.set_append_right (h := by omega), hm, Nat.sub_self, List.drop_eq_getElem_cons h]
  simp only [List.map_cons, List.map_nil, List.append_assoc, List.singleton_append, List.set_cons_zero]
theorem lowK_same (l : Bs) (k : Nat) (h : k < l.length) (hc : ¬ (65 ≤ l[k].toNat ∧ l[k].toNat ≤ 90)) : lowK l (k + 1) = lowK l k := by
  rw [lowK_succ l k h]
  have e : lowB l[k] = (lowK l k)[k]'(by rw [lowK_length]; exact h) := by rw [lowK_get l k h]; simp [lowB, hc]
  rw [e, List.set_getElem_self]
set_option maxHeartbeats 1000000 in
set_option maxRecDepth 100000 in
theorem lower_walk (l : Bs) (w : World) (hl : l.length ≤ 140737488355328) :
    Calls Tryd.prog 28 #[.string (B l)] w fun e w' => e = .returned (.string (B (lower l))) ∧ Below w.heap.size w w' := by
  have hconv := fun W => Lib.run_convert_string_bytes (P := Tryd.prog) W 9 22 5 (B l) Tryd.underlying9 Tryd.underlying22 Tryd.underlying5
  have hback := fun (W : World) (k : Nat) (c : Nat) (h : BRow W w.heap.size (lowK l k)) => h.string (c := c) (P := Tryd.prog) (by rw [lowK_length]; omega) Tryd.underlying22 Tryd.underlying5 Tryd.underlying9
  go_enter Tryd.func28, Tryd.ntmps28
  go_wp2
  go_loopw [10] (fun i wr => ∃ k : Nat, k ≤ l.length ∧ i = .int .i64 k ∧ BRow wr w.heap.size (lowK l k) ∧ Below w.heap.size w wr) (fun i _ => l.length - (intOf i).toNat)
  case atStart => exact ⟨0, Nat.zero_le _, rfl, by rw [lowK_zero]; exact BRow.start w 5 l, bytes_below (Below.refl _ _) (Nat.le_refl _) _ _⟩
  case round =>
    obtain ⟨k, hk, rfl, hrow, hb⟩ := hrel
    by_cases hlt : k < l.length
    · have hc := (hrow k (by rw [lowK_length]; exact hlt)).1
      have hf := (hrow k (by rw [lowK_length]; exact hlt)).2
      rw [lowK_get l k hlt] at hc
      have hs := lowK_succ l k hlt
      have hcap : ∀ h1 : 65 ≤ (l[k].toNat : Int), ∀ h2 : (l[k].toNat : Int) ≤ 90, ((l[k].toNat : Int) + 97 - 65) = ((lowB l[k]).toNat : Int) := by
        intro h1 h2
        unfold lowB
        rw [if_pos (by omega)]
        simp; omega
      have HS := Lib.hid hs; have HC := Lib.hid hcap
      clear hs hcap
      go_wp2
      · go_roundw
        case rel =>
          refine ⟨k + 1, by omega, by go_num, ?_, hb.setCell (Nat.le_refl _) _⟩
          rw [HC.out (by assumption) (by assumption), HS.out]
          exact hrow.set k _ (by rw [lowK_length]; exact hlt)
        case measure => simp [intOf]; omega
      all_goals
        go_roundw
        case rel => exact ⟨k + 1, by omega, by go_num, by rw [lowK_same l k hlt (by omega)]; exact hrow, hb⟩
        case measure => simp [intOf]; omega
    · obtain rfl : k = l.length := by omega
      have hcv := hback wr l.length (grownCap w l.length 0 5) hrow
      rw [lowK_length, lowK_all l _ (Nat.le_refl _)] at hcv
      have hb' := Lib.hid hb
      clear hb hback
      go_wp2
      go_ret
      exact ⟨rfl, hb'.out⟩
def impl_Lower.f (a0 : ByteArray) : Option (ByteArray) := if a0.size ≤ 140737488355328 then some (B (lower a0.data.toList)) else none
theorem impl_Lower.calls (a0 : ByteArray) (r : ByteArray) (w : World) (h : impl_Lower.f a0 = some r) :
    Calls Tryd.prog 28 #[.string a0] w fun e w' => e = .returned (.string r) ∧ Below w.heap.size w w' := by
  unfold impl_Lower.f at h
  by_cases c : a0.size ≤ 140737488355328
  · rw [if_pos c] at h
    obtain ⟨l, rfl⟩ := exB a0
    obtain rfl := Option.some.inj h
    rw [B_data]
    exact lower_walk l w (by simpa using c)
  · rw [if_neg c] at h; cases h
end Go.Proofs.YtmckdmopoeakfaaDoor.H
namespace Go.Proofs.YtmckdmopoeakfaaDoor.H
open Go.RowKit Go.Proofs.YtmckdmopoeakfaaDoorW.PrintWords Go.Proofs.YtmckdmopoeakfaaDoor.Base

theorem ret_int {k : IntKind} {a b : Int} (h : a = b) : Ending.returned (.int k a) = .returned (.int k b) := by rw [h]
theorem hex_walk (c : UInt8) (w : World) : Calls Tryd.prog 46 #[.int .u8 ((c.toNat : Nat) : Int)] w fun e w' => e = .returned (.int .i64 (hexI c)) ∧ w' = w := by
  obtain ⟨n, hn, hN⟩ : ∃ n : Int, n = hexI c ∧ Hid (n = hexI c) := ⟨_, rfl, Lib.hid rfl⟩
  have h255 : ((c.toNat : Nat) : Int) ≤ 255 := by have := lt256 c; omega
  rw [← hn]
  have h1 : 48 ≤ c.toNat ∧ c.toNat ≤ 57 → n = (c.toNat : Int) - 48 := fun h => by rw [hn]; unfold hexI; rw [if_pos h]
  have h2 : ¬ (48 ≤ c.toNat ∧ c.toNat ≤ 57) → 97 ≤ c.toNat ∧ c.toNat ≤ 102 → n = (c.toNat : Int) - 87 := fun h h' => by rw [hn]; unfold hexI; rw [if_neg h, if_pos h']
  have h3 : ¬ (48 ≤ c.toNat ∧ c.toNat ≤ 57) → ¬ (97 ≤ c.toNat ∧ c.toNat ≤ 102) → 65 ≤ c.toNat ∧ c.toNat ≤ 70 → n = (c.toNat : Int) - 55 := fun h h' h'' => by rw [hn]; unfold hexI; rw [if_neg h, if_neg h', if_pos h'']
  have h4 : ¬ (48 ≤ c.toNat ∧ c.toNat ≤ 57) → ¬ (97 ≤ c.toNat ∧ c.toNat ≤ 102) → ¬ (65 ≤ c.toNat ∧ c.toNat ≤ 70) → n = -1 := fun h h' h'' => by rw [hn]; unfold hexI; rw [if_neg h, if_neg h', if_neg h'']
  have H1 := Lib.hid h1; have H2 := Lib.hid h2; have H3 := Lib.hid h3; have H4 := Lib.hid h4
  clear h1 h2 h3 h4 hn
  go_enter Tryd.func46, Tryd.ntmps46
  go_wp2
  all_goals
    go_ret
    refine ⟨ret_int ?_, rfl⟩
    have a1 := H1.out
    have a2 := H2.out
    have a3 := H3.out
    have a4 := H4.out
    omega
theorem cells_snoc (D : Bs) (c : UInt8) : Lib.byteCells (D ++ [c]) = Lib.byteCells D ++ [.int .u8 ((c.toNat : Nat) : Int)] := by simp [Lib.byteCells]
set_option maxHeartbeats 1000000 in
set_option maxRecDepth 100000 in
theorem decode_walk (l : Bs) (w : World) (hl : l.length ≤ 600) :
    Calls Tryd.prog 29 #[.string (B l)] w fun e w' => e = .returned (.string (B (pctDec l))) ∧ Below w.heap.size w w' := by
  have hb0 : Lib.IsBuilder 61 5 w.heap.size w.heap.size (Lib.byteCells []) (w.alloc (.cells #[.pointer none, .slice none 0 0] 61)) := Lib.fresh_isBuilder 61 5 w
  have hw0 : Below w.heap.size w (w.alloc (.cells #[.pointer none, .slice none 0 0] 61)) := (Below.refl _ w).alloc (Nat.le_refl _) _
  go_enter Tryd.func29, Tryd.ntmps29
  go_wp2
  go_loopw [4] (fun i wr => ∃ (k : Nat) (D : Bs), k ≤ l.length ∧ i = .int .i64 k ∧ D.length ≤ k ∧ Hid (D ++ pctDec (l.drop k) = pctDec l) ∧ Lib.IsBuilder 61 5 w.heap.size w.heap.size (Lib.byteCells D) wr ∧ Below w.heap.size w wr) (fun i _ => l.length - (intOf i).toNat)
  case atStart => exact ⟨0, [], by omega, rfl, by simp, Lib.hid (by simp), hb0, hw0⟩
  case round =>
    obtain ⟨k, D, hk, rfl, hD, HE, hbld, hb⟩ := hrel
    by_cases hlt : k < l.length
    · have hz : (l.length : Int) ≤ 600 := by omega
      have hwr : w.heap.size ≤ wr.heap.size := hb.size
      have hst := decode_at l k hlt
      by_cases c0 : l[k] = 37
      · have c0a : ((l[k].toNat : Nat) : Int) = 37 := by rw [c0]; rfl
        have c0b : (((l[k].toNat : Nat) : Int) == 37) = true := by rw [c0a]; rfl
        clear c0a
        by_cases c1 : k + 2 < l.length
        · have x1 := hex_walk l[k + 1]
          have x2 := hex_walk l[k + 2]
          have k1 : (k : Int) + 2 < (l.length : Int) := by omega
          have k0 : (k : Int) + 1 < (l.length : Int) := by omega
          by_cases c2 : 0 ≤ hexI l[k + 1]
          · have c2a : decide (0 ≤ hexI l[k + 1]) = true := decide_eq_true c2
            by_cases c3 : 0 ≤ hexI l[k + 2]
            · have c3a : decide (0 ≤ hexI l[k + 2]) = true := decide_eq_true c3
              have r1 := hexI_rng l[k + 1]
              have r2 := hexI_rng l[k + 2]
              have he : escAt l k = true := by unfold escAt; rw [get_eq hlt, get_eq (show k + 1 < l.length by omega), get_eq c1]; simp [c0, c1, c2, c3]
              rw [he, if_pos rfl, get_eq (show k + 1 < l.length by omega), get_eq c1] at hst
              have HS := Lib.hid hst
              have HV : Hid ((16 * hexI l[k + 1] + hexI l[k + 2]) % 256 = ((escByte l[k + 1] l[k + 2]).toNat : Int)) := Lib.hid (by
                rw [escByte_val l[k + 1] l[k + 2] c2 c3]; omega)
              clear hst he c0 c2 c3
              go_wp2_with fail
              refine (x1 _).mono ?_
              rintro e w' ⟨rfl, rfl⟩
              go_wp2_with fail
              refine (x2 _).mono ?_
              rintro e w' ⟨rfl, rfl⟩
              go_wp2_with fail
              have hw1 : IntKind.i64.wrap ((k : Int) + 1) = (k : Int) + 1 := by rw [i64wrap]; exact w64 (by omega) (by omega)
              have hw2 : IntKind.i64.wrap ((k : Int) + 2) = (k : Int) + 2 := by rw [i64wrap]; exact w64 (by omega) (by omega)
              have hw3 : IntKind.i64.wrap (16 * hexI l[k + 1]) = 16 * hexI l[k + 1] := by rw [i64wrap]; exact w64 (by omega) (by omega)
              have hw4 : IntKind.i64.wrap (16 * hexI l[k + 1] + hexI l[k + 2]) = 16 * hexI l[k + 1] + hexI l[k + 2] := by rw [i64wrap]; exact w64 (by omega) (by omega)
              have ht1 : ((k : Int) + 1).toNat = k + 1 := by omega
              have ht2 : ((k : Int) + 2).toNat = k + 2 := by omega
              have hp1 : 0 ≤ (k : Int) + 1 := by omega
              have hp2 : 0 ≤ (k : Int) + 2 := by omega
              go_still_tail 13, (by kernel_rfl)
              still_call (x1 _)
              repeat still_step
              still_call (x2 _)
              repeat still_step
              refine wpStill_nil ?_
              have hbld1 : Lib.IsBuilder 61 5 w.heap.size w.heap.size (Lib.byteCells D) w'.drew := hbld
              have hb1 : Below w.heap.size w w'.drew := hb.drew
              have hwr1 : w.heap.size ≤ w'.drew.heap.size := hwr
              change wpList _ _ _ _ _ w'.drew
              generalize w'.drew = w2 at hbld1 hb1 hwr1 ⊢
              clear hbld hb hwr
              go_wp2_with fail
              refine (Builder_WriteByte w.heap.size w.heap.size (Lib.byteCells D) _ _ hbld1 (by simp [Lib.byteCells]; omega) hwr1).mono ?_
              rintro e w1 ⟨rfl, h1, hb2⟩
              rw [HV.out] at h1
              go_wp2
              go_roundw
              case rel => exact ⟨k + 3, D ++ [escByte l[k + 1] l[k + 2]], by omega, by go_num, by simp; omega, Lib.hid (by rw [← HE.out, HS.out]; simp), Or.inr (by rw [cells_snoc]; exact h1), hb1.trans hb2⟩
              case measure => simp [intOf]; omega
            · have c3a : decide (0 ≤ hexI l[k + 2]) = false := decide_eq_false c3
              have he : escAt l k = false := by unfold escAt; rw [get_eq hlt, get_eq (show k + 1 < l.length by omega), get_eq c1]; simp [c0, c1, c2, c3]
              rw [he, if_neg (by simp)] at hst
              have HS := Lib.hid hst
              clear hst he c0 c2 c3
              go_wp2_with fail
              refine (x1 _).mono ?_
              rintro e w' ⟨rfl, rfl⟩
              go_wp2_with fail
              refine (x2 _).mono ?_
              rintro e w' ⟨rfl, rfl⟩
              go_wp2_with (go_at_call 49; refine (Builder_WriteByte w.heap.size w.heap.size (Lib.byteCells D) _ _ hbld (by simp [Lib.byteCells]; omega) hwr).mono ?_; rintro e w1 ⟨rfl, h1, hb1⟩)
              go_roundw
              case rel => exact ⟨k + 1, D ++ [l[k]], by omega, by go_num, by simp; omega, Lib.hid (by rw [← HE.out, HS.out]; simp), Or.inr (by rw [cells_snoc]; exact h1), hb.trans hb1⟩
              case measure => simp [intOf]; omega
          · have c2a : decide (0 ≤ hexI l[k + 1]) = false := decide_eq_false c2
            have he : escAt l k = false := by unfold escAt; rw [get_eq hlt, get_eq (show k + 1 < l.length by omega), get_eq c1]; simp [c0, c1, c2]
            rw [he, if_neg (by simp)] at hst
            have HS := Lib.hid hst
            clear hst he c0 c2
            go_wp2_with fail
            refine (x1 _).mono ?_
            rintro e w' ⟨rfl, rfl⟩
            go_wp2_with (go_at_call 49; refine (Builder_WriteByte w.heap.size w.heap.size (Lib.byteCells D) _ _ hbld (by simp [Lib.byteCells]; omega) hwr).mono ?_; rintro e w1 ⟨rfl, h1, hb1⟩)
            go_roundw
            case rel => exact ⟨k + 1, D ++ [l[k]], by omega, by go_num, by simp; omega, Lib.hid (by rw [← HE.out, HS.out]; simp), Or.inr (by rw [cells_snoc]; exact h1), hb.trans hb1⟩
            case measure => simp [intOf]; omega
        · have k1 : ¬ ((k : Int) + 2 < (l.length : Int)) := by omega
          have he : escAt l k = false := by unfold escAt; simp [c1]
          rw [he, if_neg (by simp)] at hst
          have HS := Lib.hid hst
          clear hst he c0
          go_wp2_with (go_at_call 49; refine (Builder_WriteByte w.heap.size w.heap.size (Lib.byteCells D) _ _ hbld (by simp [Lib.byteCells]; omega) hwr).mono ?_; rintro e w1 ⟨rfl, h1, hb1⟩)
          go_roundw
          case rel => exact ⟨k + 1, D ++ [l[k]], by omega, by go_num, by simp; omega, Lib.hid (by rw [← HE.out, HS.out]; simp), Or.inr (by rw [cells_snoc]; exact h1), hb.trans hb1⟩
          case measure => simp [intOf]; omega
      · have c0b : (((l[k].toNat : Nat) : Int) == 37) = false := by
          rw [beq_eq_false_iff_ne]; intro e; exact c0 ((byte_eq _ 37 (by decide)).1 e)
        have he : escAt l k = false := by unfold escAt; rw [get_eq hlt]; simp [c0]
        rw [he, if_neg (by simp)] at hst
        have HS := Lib.hid hst
        clear hst he c0
        go_wp2_with (go_at_call 49; refine (Builder_WriteByte w.heap.size w.heap.size (Lib.byteCells D) _ _ hbld (by simp [Lib.byteCells]; omega) hwr).mono ?_; rintro e w1 ⟨rfl, h1, hb1⟩)
        go_roundw
        case rel => exact ⟨k + 1, D ++ [l[k]], by omega, by go_num, by simp; omega, Lib.hid (by rw [← HE.out, HS.out]; simp), Or.inr (by rw [cells_snoc]; exact h1), hb.trans hb1⟩
        case measure => simp [intOf]; omega
    · obtain rfl : k = l.length := by omega
      have hD' : D = pctDec l := by have := HE.out; rw [List.drop_length, decode_nil, List.append_nil] at this; exact this
      have hwr : w.heap.size ≤ wr.heap.size := hb.size
      rw [hD'] at hbld
      clear hD' HE
      go_wp2_with (go_at_call 50; refine (Tryd.Builder_String_any w.heap.size w.heap.size (pctDec l) wr hbld hwr).mono ?_; rintro e w1 ⟨rfl, hb1⟩)
      go_ret
      exact ⟨rfl, hb.trans hb1⟩
theorem decode_far (l : Bs) (w : World) (hl : ¬ l.length ≤ 600) :
    Calls Tryd.prog 29 #[.string (B l)] w fun e w' => e = .returned (.string (B [])) ∧ Below w.heap.size w w' := by
  have h1 : decide (600 < (l.length : Int)) = true := decide_eq_true (by omega)
  go_enter Tryd.func29, Tryd.ntmps29
  go_wp2
  go_ret
  exact ⟨rfl, Below.refl _ _⟩
def decodeMax (l : Bs) : Bs := if l.length ≤ 600 then pctDec l else []
def impl_Decode.f (a0 : ByteArray) : Option (ByteArray) := some (B (decodeMax a0.data.toList))
theorem impl_Decode.calls (a0 : ByteArray) (r : ByteArray) (w : World) (h : impl_Decode.f a0 = some r) :
    Calls Tryd.prog 29 #[.string a0] w fun e w' => e = .returned (.string r) ∧ Below w.heap.size w w' := by
  obtain ⟨l, rfl⟩ := exB a0
  unfold impl_Decode.f decodeMax at h
  rw [B_data] at h
  obtain rfl := Option.some.inj h
  by_cases c : l.length ≤ 600
  · rw [if_pos c]; exact decode_walk l w c
  · rw [if_neg c]; exact decode_far l w c
end Go.Proofs.YtmckdmopoeakfaaDoor.H
