/- impl.Lower: the call comes to the text with its capital letters made small, for every text of at most 2^47 bytes. · impl.PathPut: the call comes to each segment with a slash ahead, if that takes at most 2^47 bytes. · impl.hex and impl.Decode: the calls come to the figure's number, and to the decoded text ("" past 600 bytes), for every argument. · impl.percent, impl.isLetter, impl.isDigit, strings.IndexByte: what their calls come to, for every byte. · impl.form: the call comes to the text written for form data, if that takes at most 2^47 bytes. · impl.encode: the call comes to the text with the set's bytes, and all that is not plain, told by percent; if that takes at most 2^47 bytes; impl.sets reads as its table. -/
import Derived.Test.YtekeimhhffnjpaaDoorHA
import Derived.Test.YtekeimhhffnjpaaDoorProg
import Derived.Tactics
import Derived.KernelRfl
import Derived.RowKit3
import Derived.Deep.LoopGhost
import Derived.Laws.Slices
import Derived.Laws.Rows
import Derived.Laws.BitsLemmas
import Derived.RowKit
import Derived.Outline
import Derived.Lib.Hide
import Derived.Test.YtekeimhhffnjpaaDoorShelf
import Derived.Test.YtekeimhhffnjpaaDoorWMore
import Derived.Test.YtekeimhhffnjpaaDoorHM
import Derived.Deep.QuietTactic
import Derived.BigQuiet
import Derived.StillTailTactics
import Derived.Deep.RegionWith
import Derived.Test.YtekeimhhffnjpaaDoorLfx1
import Derived.Lib.Bytealg
namespace Go.Proofs.YtekeimhhffnjpaaDoor.H
open Go.RowKit Go.Proofs.YtekeimhhffnjpaaDoorW.PrintWords Go.Proofs.YtekeimhhffnjpaaDoor.Base

/-- A capital letter's small one. -/
def lowB (c : UInt8) : UInt8 := if 65 ≤ c.toNat ∧ c.toNat ≤ 90 then c + 32 else c
def lower (l : Bs) : Bs := l.map lowB
/-- The first k bytes made small. -/
def lowK (l : Bs) (k : Nat) : Bs := (l.take k).map lowB ++ l.drop k
theorem lowK_length (l : Bs) (k : Nat) : (lowK l k).length = l.length := by simp [lowK]; omega
theorem lowK_zero (l : Bs) : lowK l 0 = l := by simp [lowK]
theorem lowK_all (l : Bs) (k : Nat) (h : l.length ≤ k) : lowK l k = lower l := by simp [lowK, lower, List.take_of_length_le h, List.drop_eq_nil_of_le h]
theorem lowK_get (l : Bs) (k : Nat) (h : k < l.length) (h' : k < (lowK l k).length) : (lowK l k)[k] = l[k] := by
  simp only [lowK]
  rw [List.getElem_append_right (by simp; omega)]
  simp [Nat.min_eq_left (Nat.le_of_lt h)]
theorem lowK_succ (l : Bs) (k : Nat) (h : k < l.length) : lowK l (k + 1) = (lowK l k).set k (lowB l[k]) := by
  have hm : ((l.take k).map lowB).length = k := by simp; omega
  simp only [lowK]
  rw [List.take_succ_eq_append_getElem h, List.map_append, List.set_append_right (h := by omega), hm, Nat.sub_self, List.drop_eq_getElem_cons h]
  simp only [List.map_cons, List.map_nil, List.append_assoc, List.singleton_append, List.set_cons_zero]
theorem lowK_same (l : Bs) (k : Nat) (h : k < l.length) (hc : ¬ (65 ≤ l[k].toNat ∧ l[k].toNat ≤ 90)) : lowK l (k + 1) = lowK l k := by
  rw [lowK_succ l k h]
  have e : lowB l[k] = (lowK l k)[k]'(by rw [lowK_length]; exact h) := by rw [lowK_get l k h]; simp [lowB, hc]
  rw [e, List.set_getElem_self]
set_option maxHeartbeats 1000000 in
set_option maxRecDepth 100000 in
theorem lower_walk (l : Bs) (w : World) (hl : l.length ≤ 140737488355328) :
    Calls Tryd.prog 77 #[.string (B l)] w fun e w' => e = .returned (.string (B (lower l))) ∧ Below w.heap.size w w' := by
  have hconv := fun W => Lib.run_convert_string_bytes (P := Tryd.prog) W 9 22 5 (B l) Tryd.underlying9 Tryd.underlying22 Tryd.underlying5
  have hback := fun (W : World) (k : Nat) (c : Nat) (h : BRow W w.heap.size (lowK l k)) => h.string (c := c) (P := Tryd.prog) (by rw [lowK_length]; omega) Tryd.underlying22 Tryd.underlying5 Tryd.underlying9
  go_enter Tryd.func77, Tryd.ntmps77
  go_wp2
  go_loopw [10] (fun i wr => ∃ k : Nat, k ≤ l.length ∧ i = .int .i64 k ∧ BRow wr w.heap.size (lowK l k) ∧ Below w.heap.size w wr) (fun i _ => l.length - (intOf i).toNat)
  case atStart => exact ⟨0, Nat.zero_le _, rfl, by rw [lowK_zero]; exact BRow.start w 5 l, bytes_below (Below.refl _ _) (Nat.le_refl _) _ _⟩
  case round =>
    obtain ⟨k, hk, rfl, hrow, hb⟩ := hrel
    by_cases hlt : k < l.length
    · have hc := (hrow k (by rw [lowK_length]; exact hlt)).1
      have hf := (hrow k (by rw [lowK_length]; exact hlt)).2
      rw [lowK_get l k hlt] at hc
      have hs := lowK_succ l k hlt
      have hcap : ∀ h1 : 65 ≤ (l[k].toNat : Int), ∀ h2 : (l[k].toNat : Int) ≤ 90, ((l[k].toNat : Int) + 97 - 65) = ((lowB l[k]).toNat : Int) := by
        intro h1 h2
        unfold lowB
        rw [if_pos (by omega)]
        simp; omega
      have HS := Lib.hid hs; have HC := Lib.hid hcap
      clear hs hcap
      go_wp2
      · go_roundw
        case rel =>
          refine ⟨k + 1, by omega, by go_num, ?_, hb.setCell (Nat.le_refl _) _⟩
          rw [HC.out (by assumption) (by assumption), HS.out]
          exact hrow.set k _ (by rw [lowK_length]; exact hlt)
        case measure => simp [intOf]; omega
      all_goals
        go_roundw
        case rel => exact ⟨k + 1, by omega, by go_num, by rw [lowK_same l k hlt (by omega)]; exact hrow, hb⟩
        case measure => simp [intOf]; omega
    · obtain rfl : k = l.length := by omega
      have hcv := hback wr l.length (grownCap w l.length 0 5) hrow
      rw [lowK_length, lowK_all l _ (Nat.le_refl _)] at hcv
      have hb' := Lib.hid hb
      clear hb hback
      go_wp2
      go_ret
      exact ⟨rfl, hb'.out⟩
def impl_Lower.f (a0 : ByteArray) : Option (ByteArray) := if a0.size ≤ 140737488355328 then some (B (lower a0.data.toList)) else none
theorem impl_Lower.calls (a0 : ByteArray) (r : ByteArray) (w : World) (h : impl_Lower.f a0 = some r) :
    Calls Tryd.prog 77 #[.string a0] w fun e w' => e = .returned (.string r) ∧ Below w.heap.size w w' := by
  unfold impl_Lower.f at h
  by_cases c : a0.size ≤ 140737488355328
  · rw [if_pos c] at h
    obtain ⟨l, rfl⟩ := exB a0
    obtain rfl := Option.some.inj h
    rw [B_data]
    exact lower_walk l w (by simpa using c)
  · rw [if_neg c] at h; cases h
end Go.Proofs.YtekeimhhffnjpaaDoor.H
set_option linter.unusedVariables false
namespace Go.Proofs.YtekeimhhffnjpaaDoor.H
open Go.RowKit Go.Proofs.YtekeimhhffnjpaaDoorW.PrintWords Go.Proofs.YtekeimhhffnjpaaDoor.Base

def pathPut (ls : List Bs) : Bs := (ls.map fun s => 47 :: s).flatten
theorem pathPut_snoc (ls : List Bs) (s : Bs) : pathPut (ls ++ [s]) = pathPut ls ++ 47 :: s := by simp [pathPut]
theorem pathPut_take (ls : List Bs) (k : Nat) (h : k < ls.length) : pathPut (ls.take (k + 1)) = pathPut (ls.take k) ++ 47 :: ls[k] := by
  rw [List.take_succ_eq_append_getElem h, pathPut_snoc]
theorem pathPut_mono (ls : List Bs) (k : Nat) : (pathPut (ls.take k)).length ≤ (pathPut ls).length := by
  conv => rhs; rw [← List.take_append_drop k ls]
  unfold pathPut
  rw [List.map_append, List.flatten_append, List.length_append]; omega
theorem pp_app (a b : Bs) : Lib.byteCells (a ++ b) = Lib.byteCells a ++ Lib.byteCells b := by simp [Lib.byteCells]
theorem pp_len (a : Bs) : (Lib.byteCells a).length = a.length := by simp [Lib.byteCells]
def segs (l : List ByteArray) : List Bs := l.map fun s => s.data.toList
set_option maxHeartbeats 1000000 in
set_option maxRecDepth 100000 in
theorem pathPut_walk (A0 : Option Addr) (c0 : Nat) (l0 : List ByteArray) (w : World) (hr0 : Kd.C Kd.string w A0 l0.length l0) (hc0 : l0.length ≤ c0) (hm : l0.length ≤ 140737488355328) (hl : (pathPut (segs l0)).length ≤ 140737488355328) :
    Calls Tryd.prog 36 #[.slice A0 l0.length c0] w fun e w' => e = .returned (.string (B (pathPut (segs l0)))) ∧ Below w.heap.size w w' := by
  have hb0 : Lib.IsBuilder 60 5 w.heap.size w.heap.size [] (w.alloc (.cells #[.pointer none, .slice none 0 0] 60)) := Lib.fresh_isBuilder 60 5 w
  have hw0 : Below w.heap.size w (w.alloc (.cells #[.pointer none, .slice none 0 0] 60)) := (Below.refl _ w).alloc (Nat.le_refl _) _
  have HR := Lib.hid hr0
  clear hr0
  have hsl : (segs l0).length = l0.length := by simp [segs]
  go_enter Tryd.func36, Tryd.ntmps36
  go_wp2
  go_loopw [8] (fun i wr => ∃ k : Nat, k ≤ l0.length ∧ i = .int .i64 k ∧ Lib.IsBuilder 60 5 w.heap.size w.heap.size (Lib.byteCells (pathPut ((segs l0).take k))) wr ∧ Below w.heap.size w wr) (fun i _ => l0.length - (intOf i).toNat)
  case atStart => exact ⟨0, by omega, rfl, hb0, hw0⟩
  case round =>
    obtain ⟨k, hk, rfl, hbld, hb⟩ := hrel
    by_cases hlt : k < l0.length
    · have hst := pathPut_take (segs l0) k (by omega)
      have hmo := pathPut_mono (segs l0) (k + 1)
      have hln : (segs l0)[k]'(by omega) = l0[k].data.toList := by simp [segs]
      rw [hln] at hst
      have hmx : (pathPut ((segs l0).take k)).length + (47 :: l0[k].data.toList).length ≤ 140737488355328 := by
        rw [hst, List.length_append] at hmo; omega
      obtain ⟨ad, e0, hcell⟩ := Kd.at_string (Kd.C_below HR.out hb) (k : Int) (by omega) (by omega)
      have hrd : rdOf ByteArray.empty l0 (k : Int) = l0[k] := by unfold rdOf; rw [Int.toNat_natCast, List.getD_eq_getElem?_getD, List.getElem?_eq_getElem hlt]; rfl
      rw [hrd, Int.toNat_natCast] at hcell
      obtain ⟨q, hq⟩ := exB l0[k]
      rw [hq] at hcell
      have hmx : (pathPut ((segs l0).take k)).length + (47 :: q).length ≤ 140737488355328 := by
        rw [hq, B_data] at hmx; exact hmx
      rw [hq, B_data] at hst
      have hdot : (⟨#[47]⟩ : ByteArray) ++ B q = B (47 :: q) := by rw [lit_B [47], B_append]; rfl
      have hwr : w.heap.size ≤ wr.heap.size := hb.size
      have hsz : (B q).size ≤ 140737488355328 := by rw [B_size]; simp at hmx; omega
      have hno : ¬ 9223372036854775807 < 1 + (B q).size := by omega
      have HS := Lib.hid hst
      have HD := Lib.hid hdot
      have HB := Lib.hid hbld
      clear hst hrd hln hmo hq hdot hbld
      subst e0
      go_wp2_with (go_at_call 75; go_loud (refine (Builder_WriteString w.heap.size w.heap.size _ _ _ HB.out (by rw [HD.out]; simpa [pp_len] using hmx) hwr).mono ?_; rintro e w5 ⟨rfl, h1, hb6⟩))
      go_roundw
      case rel => exact ⟨k + 1, by omega, by go_num, Or.inr (by rw [HD.out] at h1; rw [HS.out, pp_app]; exact h1), hb.trans hb6⟩
      case measure => simp [intOf]; omega
    · obtain rfl : k = l0.length := by omega
      have hwr : w.heap.size ≤ wr.heap.size := hb.size
      rw [List.take_of_length_le (by omega)] at hbld
      go_wp2_with (go_at_call 56; go_loud (refine (Tryd.Builder_String_any w.heap.size w.heap.size (pathPut (segs l0)) wr hbld hwr).mono ?_; rintro e w1 ⟨rfl, hb1⟩))
      go_ret
      exact ⟨rfl, hb.trans hb1⟩
def impl_PathPut.f (l0 : List ByteArray) : Option (ByteArray) := if l0.length ≤ 140737488355328 ∧ (pathPut (segs l0)).length ≤ 140737488355328 then some (B (pathPut (segs l0))) else none
theorem impl_PathPut.calls (A0 : Option Addr) (c0 : Nat) (l0 : List ByteArray) (r : ByteArray) (w : World) (hr0 : Kd.C Kd.string w A0 l0.length l0) (hc0 : l0.length ≤ c0) (h : impl_PathPut.f l0 = some r) :
    Calls Tryd.prog 36 #[.slice A0 l0.length c0] w fun e w' => e = .returned (.string r) ∧ Below w.heap.size w w' := by
  unfold impl_PathPut.f at h
  split at h
  · rename_i c
    obtain rfl := Option.some.inj h
    exact pathPut_walk A0 c0 l0 w hr0 hc0 c.1 c.2
  · cases h
end Go.Proofs.YtekeimhhffnjpaaDoor.H
namespace Go.Proofs.YtekeimhhffnjpaaDoor.H
open Go.RowKit Go.Proofs.YtekeimhhffnjpaaDoorW.PrintWords Go.Proofs.YtekeimhhffnjpaaDoor.Base

theorem ret_int {k : IntKind} {a b : Int} (h : a = b) : Ending.returned (.int k a) = .returned (.int k b) := by rw [h]
theorem hex_walk (c : UInt8) (w : World) : Calls Tryd.prog 54 #[.int .u8 ((c.toNat : Nat) : Int)] w fun e w' => e = .returned (.int .i64 (hexI c)) ∧ w' = w := by
  obtain ⟨n, hn, hN⟩ : ∃ n : Int, n = hexI c ∧ Hid (n = hexI c) := ⟨_, rfl, Lib.hid rfl⟩
  have h255 : ((c.toNat : Nat) : Int) ≤ 255 := by have := lt256 c; omega
  rw [← hn]
  have h1 : 48 ≤ c.toNat ∧ c.toNat ≤ 57 → n = (c.toNat : Int) - 48 := fun h => by rw [hn]; unfold hexI; rw [if_pos h]
  have h2 : ¬ (48 ≤ c.toNat ∧ c.toNat ≤ 57) → 97 ≤ c.toNat ∧ c.toNat ≤ 102 → n = (c.toNat : Int) - 87 := fun h h' => by rw [hn]; unfold hexI; rw [if_neg h, if_pos h']
  have h3 : ¬ (48 ≤ c.toNat ∧ c.toNat ≤ 57) → ¬ (97 ≤ c.toNat ∧ c.toNat ≤ 102) → 65 ≤ c.toNat ∧ c.toNat ≤ 70 → n = (c.toNat : Int) - 55 := fun h h' h'' => by rw [hn]; unfold hexI; rw [if_neg h, if_neg h', if_pos h'']
  have h4 : ¬ (48 ≤ c.toNat ∧ c.toNat ≤ 57) → ¬ (97 ≤ c.toNat ∧ c.toNat ≤ 102) → ¬ (65 ≤ c.toNat ∧ c.toNat ≤ 70) → n = -1 := fun h h' h'' => by rw [hn]; unfold hexI; rw [if_neg h, if_neg h', if_neg h'']
  have H1 := Lib.hid h1; have H2 := Lib.hid h2; have H3 := Lib.hid h3; have H4 := Lib.hid h4
  clear h1 h2 h3 h4 hn
  go_enter Tryd.func54, Tryd.ntmps54
  go_wp2
  all_goals
    go_ret
    refine ⟨ret_int ?_, rfl⟩
    have a1 := H1.out
    have a2 := H2.out
    have a3 := H3.out
    have a4 := H4.out
    omega
theorem cells_snoc (D : Bs) (c : UInt8) : Lib.byteCells (D ++ [c]) = Lib.byteCells D ++ [.int .u8 ((c.toNat : Nat) : Int)] := by simp [Lib.byteCells]
set_option maxHeartbeats 1000000 in
set_option maxRecDepth 100000 in
theorem decode_walk (l : Bs) (w : World) (hl : l.length ≤ 600) :
    Calls Tryd.prog 18 #[.string (B l)] w fun e w' => e = .returned (.string (B (pctDec l))) ∧ Below w.heap.size w w' := by
  have hb0 : Lib.IsBuilder 60 5 w.heap.size w.heap.size (Lib.byteCells []) (w.alloc (.cells #[.pointer none, .slice none 0 0] 60)) := Lib.fresh_isBuilder 60 5 w
  have hw0 : Below w.heap.size w (w.alloc (.cells #[.pointer none, .slice none 0 0] 60)) := (Below.refl _ w).alloc (Nat.le_refl _) _
  go_enter Tryd.func18, Tryd.ntmps18
  go_wp2
  go_loopw [4] (fun i wr => ∃ (k : Nat) (D : Bs), k ≤ l.length ∧ i = .int .i64 k ∧ D.length ≤ k ∧ Hid (D ++ pctDec (l.drop k) = pctDec l) ∧ Lib.IsBuilder 60 5 w.heap.size w.heap.size (Lib.byteCells D) wr ∧ Below w.heap.size w wr) (fun i _ => l.length - (intOf i).toNat)
  case atStart => exact ⟨0, [], by omega, rfl, by simp, Lib.hid (by simp), hb0, hw0⟩
  case round =>
    obtain ⟨k, D, hk, rfl, hD, HE, hbld, hb⟩ := hrel
    by_cases hlt : k < l.length
    · have hz : (l.length : Int) ≤ 600 := by omega
      have hwr : w.heap.size ≤ wr.heap.size := hb.size
      have hst := decode_at l k hlt
      by_cases c0 : l[k] = 37
      · have c0a : ((l[k].toNat : Nat) : Int) = 37 := by rw [c0]; rfl
        have c0b : (((l[k].toNat : Nat) : Int) == 37) = true := by rw [c0a]; rfl
        clear c0a
        by_cases c1 : k + 2 < l.length
        · have x1 := hex_walk l[k + 1]
          have x2 := hex_walk l[k + 2]
          have k1 : (k : Int) + 2 < (l.length : Int) := by omega
          have k0 : (k : Int) + 1 < (l.length : Int) := by omega
          by_cases c2 : 0 ≤ hexI l[k + 1]
          · have c2a : decide (0 ≤ hexI l[k + 1]) = true := decide_eq_true c2
            by_cases c3 : 0 ≤ hexI l[k + 2]
            · have c3a : decide (0 ≤ hexI l[k + 2]) = true := decide_eq_true c3
              have r1 := hexI_rng l[k + 1]
              have r2 := hexI_rng l[k + 2]
              have he : escAt l k = true := by unfold escAt; rw [get_eq hlt, get_eq (show k + 1 < l.length by omega), get_eq c1]; simp [c0, c1, c2, c3]
              rw [he, if_pos rfl, get_eq (show k + 1 < l.length by omega), get_eq c1] at hst
              have HS := Lib.hid hst
              have HV : Hid ((16 * hexI l[k + 1] + hexI l[k + 2]) % 256 = ((escByte l[k + 1] l[k + 2]).toNat : Int)) := Lib.hid (by
                rw [escByte_val l[k + 1] l[k + 2] c2 c3]; omega)
              clear hst he c0 c2 c3
              go_wp2_with fail
              refine (x1 _).mono ?_
              rintro e w' ⟨rfl, rfl⟩
              go_wp2_with fail
              refine (x2 _).mono ?_
              rintro e w' ⟨rfl, rfl⟩
              go_wp2_with fail
              have hw1 : IntKind.i64.wrap ((k : Int) + 1) = (k : Int) + 1 := by rw [i64wrap]; exact w64 (by omega) (by omega)
              have hw2 : IntKind.i64.wrap ((k : Int) + 2) = (k : Int) + 2 := by rw [i64wrap]; exact w64 (by omega) (by omega)
              have hw3 : IntKind.i64.wrap (16 * hexI l[k + 1]) = 16 * hexI l[k + 1] := by rw [i64wrap]; exact w64 (by omega) (by omega)
              have hw4 : IntKind.i64.wrap (16 * hexI l[k + 1] + hexI l[k + 2]) = 16 * hexI l[k + 1] + hexI l[k + 2] := by rw [i64wrap]; exact w64 (by omega) (by omega)
              have ht1 : ((k : Int) + 1).toNat = k + 1 := by omega
              have ht2 : ((k : Int) + 2).toNat = k + 2 := by omega
              have hp1 : 0 ≤ (k : Int) + 1 := by omega
              have hp2 : 0 ≤ (k : Int) + 2 := by omega
              go_still_tail 13, (by kernel_rfl)
              still_call (x1 _)
              repeat still_step
              still_call (x2 _)
              repeat still_step
              refine wpStill_nil ?_
              have hbld1 : Lib.IsBuilder 60 5 w.heap.size w.heap.size (Lib.byteCells D) w'.drew := hbld
              have hb1 : Below w.heap.size w w'.drew := hb.drew
              have hwr1 : w.heap.size ≤ w'.drew.heap.size := hwr
              change wpList _ _ _ _ _ w'.drew
              generalize w'.drew = w2 at hbld1 hb1 hwr1 ⊢
              clear hbld hb hwr
              go_wp2_with fail
              refine (Builder_WriteByte w.heap.size w.heap.size (Lib.byteCells D) _ _ hbld1 (by simp [Lib.byteCells]; omega) hwr1).mono ?_
              rintro e w1 ⟨rfl, h1, hb2⟩
              rw [HV.out] at h1
              go_wp2
              go_roundw
              case rel => exact ⟨k + 3, D ++ [escByte l[k + 1] l[k + 2]], by omega, by go_num, by simp; omega, Lib.hid (by rw [← HE.out, HS.out]; simp), Or.inr (by rw [cells_snoc]; exact h1), hb1.trans hb2⟩
              case measure => simp [intOf]; omega
            · have c3a : decide (0 ≤ hexI l[k + 2]) = false := decide_eq_false c3
              have he : escAt l k = false := by unfold escAt; rw [get_eq hlt, get_eq (show k + 1 < l.length by omega), get_eq c1]; simp [c0, c1, c2, c3]
              rw [he, if_neg (by simp)] at hst
              have HS := Lib.hid hst
              clear hst he c0 c2 c3
              go_wp2_with fail
              refine (x1 _).mono ?_
              rintro e w' ⟨rfl, rfl⟩
              go_wp2_with fail
              refine (x2 _).mono ?_
              rintro e w' ⟨rfl, rfl⟩
              go_wp2_with (go_at_call 55; refine (Builder_WriteByte w.heap.size w.heap.size (Lib.byteCells D) _ _ hbld (by simp [Lib.byteCells]; omega) hwr).mono ?_; rintro e w1 ⟨rfl, h1, hb1⟩)
              go_roundw
              case rel => exact ⟨k + 1, D ++ [l[k]], by omega, by go_num, by simp; omega, Lib.hid (by rw [← HE.out, HS.out]; simp), Or.inr (by rw [cells_snoc]; exact h1), hb.trans hb1⟩
              case measure => simp [intOf]; omega
          · have c2a : decide (0 ≤ hexI l[k + 1]) = false := decide_eq_false c2
            have he : escAt l k = false := by unfold escAt; rw [get_eq hlt, get_eq (show k + 1 < l.length by omega), get_eq c1]; simp [c0, c1, c2]
            rw [he, if_neg (by simp)] at hst
            have HS := Lib.hid hst
            clear hst he c0 c2
            go_wp2_with fail
            refine (x1 _).mono ?_
            rintro e w' ⟨rfl, rfl⟩
            go_wp2_with (go_at_call 55; refine (Builder_WriteByte w.heap.size w.heap.size (Lib.byteCells D) _ _ hbld (by simp [Lib.byteCells]; omega) hwr).mono ?_; rintro e w1 ⟨rfl, h1, hb1⟩)
            go_roundw
            case rel => exact ⟨k + 1, D ++ [l[k]], by omega, by go_num, by simp; omega, Lib.hid (by rw [← HE.out, HS.out]; simp), Or.inr (by rw [cells_snoc]; exact h1), hb.trans hb1⟩
            case measure => simp [intOf]; omega
        · have k1 : ¬ ((k : Int) + 2 < (l.length : Int)) := by omega
          have he : escAt l k = false := by unfold escAt; simp [c1]
          rw [he, if_neg (by simp)] at hst
          have HS := Lib.hid hst
          clear hst he c0
          go_wp2_with (go_at_call 55; refine (Builder_WriteByte w.heap.size w.heap.size (Lib.byteCells D) _ _ hbld (by simp [Lib.byteCells]; omega) hwr).mono ?_; rintro e w1 ⟨rfl, h1, hb1⟩)
          go_roundw
          case rel => exact ⟨k + 1, D ++ [l[k]], by omega, by go_num, by simp; omega, Lib.hid (by rw [← HE.out, HS.out]; simp), Or.inr (by rw [cells_snoc]; exact h1), hb.trans hb1⟩
          case measure => simp [intOf]; omega
      · have c0b : (((l[k].toNat : Nat) : Int) == 37) = false := by
          rw [beq_eq_false_iff_ne]; intro e; exact c0 ((byte_eq _ 37 (by decide)).1 e)
        have he : escAt l k = false := by unfold escAt; rw [get_eq hlt]; simp [c0]
        rw [he, if_neg (by simp)] at hst
        have HS := Lib.hid hst
        clear hst he c0
        go_wp2_with (go_at_call 55; refine (Builder_WriteByte w.heap.size w.heap.size (Lib.byteCells D) _ _ hbld (by simp [Lib.byteCells]; omega) hwr).mono ?_; rintro e w1 ⟨rfl, h1, hb1⟩)
        go_roundw
        case rel => exact ⟨k + 1, D ++ [l[k]], by omega, by go_num, by simp; omega, Lib.hid (by rw [← HE.out, HS.out]; simp), Or.inr (by rw [cells_snoc]; exact h1), hb.trans hb1⟩
        case measure => simp [intOf]; omega
    · obtain rfl : k = l.length := by omega
      have hD' : D = pctDec l := by have := HE.out; rw [List.drop_length, decode_nil, List.append_nil] at this; exact this
      have hwr : w.heap.size ≤ wr.heap.size := hb.size
      rw [hD'] at hbld
      clear hD' HE
      go_wp2_with (go_at_call 56; refine (Tryd.Builder_String_any w.heap.size w.heap.size (pctDec l) wr hbld hwr).mono ?_; rintro e w1 ⟨rfl, hb1⟩)
      go_ret
      exact ⟨rfl, hb.trans hb1⟩
theorem decode_far (l : Bs) (w : World) (hl : ¬ l.length ≤ 600) :
    Calls Tryd.prog 18 #[.string (B l)] w fun e w' => e = .returned (.string (B [])) ∧ Below w.heap.size w w' := by
  have h1 : decide (600 < (l.length : Int)) = true := decide_eq_true (by omega)
  go_enter Tryd.func18, Tryd.ntmps18
  go_wp2
  go_ret
  exact ⟨rfl, Below.refl _ _⟩
/-- What impl.Decode answers. -/
def decodeMax (l : Bs) : Bs := if l.length ≤ 600 then pctDec l else []
def impl_Decode.f (a0 : ByteArray) : Option (ByteArray) := some (B (decodeMax a0.data.toList))
theorem impl_Decode.calls (a0 : ByteArray) (r : ByteArray) (w : World) (h : impl_Decode.f a0 = some r) :
    Calls Tryd.prog 18 #[.string a0] w fun e w' => e = .returned (.string r) ∧ Below w.heap.size w w' := by
  obtain ⟨l, rfl⟩ := exB a0
  unfold impl_Decode.f decodeMax at h
  rw [B_data] at h
  obtain rfl := Option.some.inj h
  by_cases c : l.length ≤ 600
  · rw [if_pos c]; exact decode_walk l w c
  · rw [if_neg c]; exact decode_far l w c
end Go.Proofs.YtekeimhhffnjpaaDoor.H
namespace Go.Proofs.YtekeimhhffnjpaaDoor.H
open Go.RowKit Go.Proofs.YtekeimhhffnjpaaDoorW.PrintWords Go.Proofs.YtekeimhhffnjpaaDoor.Base
theorem fig_bt (n : Nat) : bt (⟨#[48, 49, 50, 51, 52, 53, 54, 55, 56, 57, 65, 66, 67, 68, 69, 70]⟩ : ByteArray) ((n : Nat) : Int) = (((fig n).toNat : Nat) : Int) := by
  have : (⟨#[48, 49, 50, 51, 52, 53, 54, 55, 56, 57, 65, 66, 67, 68, 69, 70]⟩ : ByteArray) = B figs := rfl
  rw [this, bt_B, Int.toNat_natCast]; rfl
theorem percent_some (c : UInt8) : Lf.impl_percent.f ((c.toNat : Nat) : Int) = some (B (pct c)) := by
  have h := lt256 c
  unfold Lf.impl_percent.f
  have e1 : (((c.toNat : Nat) : Int) / 16) = ((c.toNat / 16 : Nat) : Int) := rfl
  have e2 : Go.bits .and .u8 ((c.toNat : Nat) : Int) 15 = ((c.toNat % 16 : Nat) : Int) := by
    rw [u8_and15 _ (by omega) (by omega)]; rfl
  rw [e1, e2, if_pos (by omega), if_pos (by omega), if_pos (by omega), if_pos (by omega), fig_bt, fig_bt]
  exact congrArg some (str_ns (pct c))
theorem percent_walk (c : UInt8) (w : World) : Calls Tryd.prog 95 #[.int .u8 ((c.toNat : Nat) : Int)] w fun e w' => e = .returned (.string (B (pct c))) ∧ Below w.heap.size w w' :=
  Lf.impl_percent.calls _ _ w (percent_some c)
theorem isLetter_walk (c : UInt8) (w : World) : Calls Tryd.prog 100 #[.int .u8 ((c.toNat : Nat) : Int)] w fun e w' => e = .returned (.bool (isLet c)) ∧ Drawn0 w w' := by
  refine Lf.impl_isLetter.calls _ _ w ?_
  unfold Lf.impl_isLetter.f isLet
  by_cases h1 : ((c.toNat : Nat) : Int) ≥ 97
  · rw [if_pos h1]
    by_cases h2 : ((c.toNat : Nat) : Int) ≤ 122
    · rw [if_pos h2]; congr 1; simp; omega
    · rw [if_neg h2]
      by_cases h3 : ((c.toNat : Nat) : Int) ≥ 65
      · rw [if_pos h3]; congr 1; exact bool_eq (by simp; omega)
      · rw [if_neg h3]; congr 1; symm; simp; omega
  · rw [if_neg h1]
    by_cases h3 : ((c.toNat : Nat) : Int) ≥ 65
    · rw [if_pos h3]; congr 1; exact bool_eq (by simp; omega)
    · rw [if_neg h3]; congr 1; symm; simp; omega
theorem isDigit_walk (c : UInt8) (w : World) : Calls Tryd.prog 101 #[.int .u8 ((c.toNat : Nat) : Int)] w fun e w' => e = .returned (.bool (isDig c)) ∧ Drawn0 w w' := by
  refine Lf.impl_isDigit.calls _ _ w ?_
  unfold Lf.impl_isDigit.f isDig
  by_cases h1 : ((c.toNat : Nat) : Int) ≥ 48
  · rw [if_pos h1]; congr 1; exact bool_eq (by simp; omega)
  · rw [if_neg h1]; congr 1; symm; simp; omega
theorem idx_iff (l : Bs) (c : UInt8) : 0 ≤ Lib.indexByte l c ↔ l.contains c = true := by
  induction l with
  | nil => simp [Lib.indexByte]
  | cons b t ih =>
    unfold Lib.indexByte
    have hge := Lib.indexByte_ge t c
    rw [List.contains_cons]
    by_cases e : b = c
    · subst e; simp
    · have e1 : (b == c) = false := by rw [beq_eq_false_iff_ne]; exact e
      have e2 : (c == b) = false := by rw [beq_eq_false_iff_ne]; exact fun h => e h.symm
      rw [e1, e2, Bool.false_or, ← ih]
      simp only [Bool.false_eq_true, if_false]
      by_cases h : Lib.indexByte t c = -1
      · simp [h]
      · rw [if_neg (by simpa using h)]; omega
theorem indexByte_walk (l : Bs) (c : UInt8) (w : World) : Calls Tryd.prog 94 #[.string (B l), .int .u8 ((c.toNat : Nat) : Int)] w fun e w' => e = .returned (.int .i64 (Lib.indexByte l c)) ∧ w' = w := by
  have := Tryd.strings_IndexByte (B l) ((c.toNat : Nat) : Int) w
  have e : ((c.toNat : Nat) : Int).toNat.toUInt8 = c := by simp
  rw [e, B_data] at this
  exact this
theorem contains_yes {l : Bs} {c : UInt8} (h : l.contains c = true) : decide (0 ≤ Lib.indexByte l c) = true := decide_eq_true ((idx_iff l c).2 h)
theorem contains_no {l : Bs} {c : UInt8} (h : l.contains c = false) : decide (0 ≤ Lib.indexByte l c) = false := decide_eq_false (fun h' => by rw [(idx_iff l c).1 h'] at h; cases h)
theorem drawn_builder {T e : TypeId} {B b : Nat} {bs : List Value} {w w' : World} (h : Lib.IsBuilder T e B b bs w) (hd : Drawn0 w w') : Lib.IsBuilder T e B b bs w' := by
  obtain ⟨n, rfl⟩ := hd; exact h
theorem below_builder {T e : TypeId} {B b : Nat} {bs : List Value} {w w' : World} (h : Lib.IsBuilder T e B b bs w) (hb : Below w.heap.size w w') : Lib.IsBuilder T e B b bs w' := by
  have go : ∀ p, Lib.BuilderAt T e B b p bs w → Lib.BuilderAt T e B b p bs w' := by
    rintro p ⟨hB, v, hv, hown, hne⟩
    have hlt : b < w.heap.size := (Array.getElem?_eq_some_iff.1 hv).1
    exact ⟨hB, v, by rw [hb.block b hlt]; exact hv, pw_own_below hown hb, hne⟩
  rcases h with h | h
  · exact .inl (go _ h)
  · exact .inr (go _ h)
theorem cells_app (a b : Bs) : Lib.byteCells (a ++ b) = Lib.byteCells a ++ Lib.byteCells b := by simp [Lib.byteCells]
theorem cells_one (c : UInt8) : Lib.byteCells [c] = [.int .u8 ((c.toNat : Nat) : Int)] := rfl
theorem cells_len (a : Bs) : (Lib.byteCells a).length = a.length := by simp [Lib.byteCells]
end Go.Proofs.YtekeimhhffnjpaaDoor.H
namespace Go.Proofs.YtekeimhhffnjpaaDoor.H
open Go.RowKit Go.Proofs.YtekeimhhffnjpaaDoorW.PrintWords Go.Proofs.YtekeimhhffnjpaaDoor.Base
set_option maxHeartbeats 2000000 in
set_option maxRecDepth 100000 in
theorem form_walk (l : Bs) (w : World) (hl : (formB l).length ≤ 140737488355328) :
    Calls Tryd.prog 67 #[.string (B l)] w fun e w' => e = .returned (.string (B (formB l))) ∧ Below w.heap.size w w' := by
  have hb0 : Lib.IsBuilder 60 5 w.heap.size w.heap.size (Lib.byteCells []) (w.alloc (.cells #[.pointer none, .slice none 0 0] 60)) := Lib.fresh_isBuilder 60 5 w
  have hw0 : Below w.heap.size w (w.alloc (.cells #[.pointer none, .slice none 0 0] 60)) := (Below.refl _ w).alloc (Nat.le_refl _) _
  have hln := (formB_len l).1
  go_enter Tryd.func67, Tryd.ntmps67
  go_wp2
  go_loopw [8] (fun i wr => ∃ k : Nat, k ≤ l.length ∧ i = .int .i64 k ∧ Lib.IsBuilder 60 5 w.heap.size w.heap.size (Lib.byteCells (formB (l.take k))) wr ∧ Below w.heap.size w wr) (fun i _ => l.length - (intOf i).toNat)
  case atStart => exact ⟨0, by omega, rfl, hb0, hw0⟩
  case round =>
    obtain ⟨k, hk, rfl, hbld, hb⟩ := hrel
    by_cases hlt : k < l.length
    · have hst := formB_take l k hlt
      have hmx : (formB (l.take k)).length + (formC l[k]).length ≤ 140737488355328 := by
        have := formB_mono l (k + 1); rw [hst, List.length_append] at this; omega
      have HS := Lib.hid hst
      clear hst
      go_wp2_with fail
      refine (isLetter_walk l[k] _).mono ?_
      rintro e w1 ⟨rfl, hd1⟩
      have hbld1 := drawn_builder hbld hd1
      have hb1 : Below w.heap.size w w1 := hb.trans (⟨hd1.below.os, hd1.below.tape, hd1.below.output, hd1.below.size, fun i hi => hd1.below.block i (Nat.lt_of_lt_of_le hi hb.size)⟩)
      have hwr1 : w.heap.size ≤ w1.heap.size := hb1.size
      clear hbld hb hd1
      have hC : formC l[k] = if (isLet l[k] || isDig l[k] || formS.contains l[k]) = true then [l[k]] else if l[k] = 32 then [43] else pct l[k] := rfl
      by_cases cL : isLet l[k] = true
      · rw [cL] at hC ⊢
        simp only [Bool.true_or, if_true] at hC
        rw [hC] at hmx
        have HC := Lib.hid hC
        clear hC cL
        go_wp2_with (go_at_call 55; refine (Builder_WriteByte w.heap.size w.heap.size _ _ _ hbld1 (by simpa [cells_len] using hmx) hwr1).mono ?_; rintro e w2 ⟨rfl, h1, hb2⟩)
        go_roundw
        case rel => exact ⟨k + 1, by omega, by go_num, Or.inr (by rw [HS.out, HC.out, cells_app, cells_one]; exact h1), hb1.trans hb2⟩
        case measure => simp [intOf]; omega
      · have cL' : isLet l[k] = false := by simpa using cL
        rw [cL'] at hC ⊢
        clear cL cL'
        go_wp2_with fail
        refine (isDigit_walk l[k] _).mono ?_
        rintro e w2 ⟨rfl, hd1⟩
        have hbld2 := drawn_builder hbld1 hd1
        have hb2 : Below w.heap.size w w2 := hb1.trans (⟨hd1.below.os, hd1.below.tape, hd1.below.output, hd1.below.size, fun i hi => hd1.below.block i (Nat.lt_of_lt_of_le hi hb1.size)⟩)
        clear hbld1 hb1 hd1 hwr1
        have hbld1 := hbld2
        have hb1 := hb2
        have hwr1 : w.heap.size ≤ w2.heap.size := hb1.size
        clear hbld2 hb2
        by_cases cD : isDig l[k] = true
        · rw [cD] at hC ⊢
          simp only [Bool.false_or, Bool.true_or, if_true] at hC
          rw [hC] at hmx
          have HC := Lib.hid hC
          clear hC cD
          go_wp2_with (go_at_call 55; refine (Builder_WriteByte w.heap.size w.heap.size _ _ _ hbld1 (by simpa [cells_len] using hmx) hwr1).mono ?_; rintro e w3 ⟨rfl, h1, hb2⟩)
          go_roundw
          case rel => exact ⟨k + 1, by omega, by go_num, Or.inr (by rw [HS.out, HC.out, cells_app, cells_one]; exact h1), hb1.trans hb2⟩
          case measure => simp [intOf]; omega
        · have cD' : isDig l[k] = false := by simpa using cD
          rw [cD'] at hC ⊢
          clear cD cD'
          go_wp2_with fail
          refine (indexByte_walk formS l[k] _).mono ?_
          rintro e w3 ⟨rfl, rfl⟩
          by_cases cS : formS.contains l[k] = true
          · have hx := contains_yes cS
            rw [cS] at hC
            simp only [Bool.false_or, if_true] at hC
            rw [hC] at hmx
            have HC := Lib.hid hC
            clear hC cS
            go_wp2_with (go_at_call 55; refine (Builder_WriteByte w.heap.size w.heap.size _ _ _ hbld1 (by simpa [cells_len] using hmx) hwr1).mono ?_; rintro e w4 ⟨rfl, h1, hb2⟩)
            go_roundw
            case rel => exact ⟨k + 1, by omega, by go_num, Or.inr (by rw [HS.out, HC.out, cells_app, cells_one]; exact h1), hb1.trans hb2⟩
            case measure => simp [intOf]; omega
          · have cS' : formS.contains l[k] = false := by simpa using cS
            have hx := contains_no cS'
            rw [cS'] at hC
            simp only [Bool.false_or, Bool.false_eq_true, if_false] at hC
            clear cS cS'
            by_cases c3 : l[k] = 32
            · have c3b : (((l[k].toNat : Nat) : Int) == 32) = true := by rw [c3]; rfl
              rw [if_pos c3] at hC
              rw [hC] at hmx
              have HC := Lib.hid hC
              clear hC c3
              go_wp2_with (go_at_call 55; refine (Builder_WriteByte w.heap.size w.heap.size _ 43 _ hbld1 (by simpa [cells_len] using hmx) hwr1).mono ?_; rintro e w4 ⟨rfl, h1, hb2⟩)
              go_roundw
              case rel => exact ⟨k + 1, by omega, by go_num, Or.inr (by rw [HS.out, HC.out, cells_app, cells_one]; exact h1), hb1.trans hb2⟩
              case measure => simp [intOf]; omega
            · have c3b : (((l[k].toNat : Nat) : Int) == 32) = false := by
                rw [beq_eq_false_iff_ne]; intro e; exact c3 ((byte_eq _ 32 (by decide)).1 e)
              rw [if_neg c3] at hC
              rw [hC] at hmx
              have HC := Lib.hid hC
              clear hC c3
              go_wp2_with fail
              refine (percent_walk l[k] _).mono ?_
              rintro e w4 ⟨rfl, hb4⟩
              have hbld4 := below_builder hbld1 hb4
              have hb5 : Below w.heap.size w w4 := below_then hb1 hwr1 hb4
              have hwr4 : w.heap.size ≤ w4.heap.size := hb5.size
              clear hbld1 hb1 hb4 hwr1
              go_wp2_with (go_at_call 75; refine (Builder_WriteString w.heap.size w.heap.size _ (B (pct l[k])) _ hbld4 (by simpa [cells_len] using hmx) hwr4).mono ?_; rintro e w5 ⟨rfl, h1, hb6⟩)
              go_roundw
              case rel => exact ⟨k + 1, by omega, by go_num, Or.inr (by rw [HS.out, HC.out, cells_app]; exact h1), hb5.trans hb6⟩
              case measure => simp [intOf]; omega
    · obtain rfl : k = l.length := by omega
      have hwr : w.heap.size ≤ wr.heap.size := hb.size
      rw [List.take_of_length_le (Nat.le_refl _)] at hbld
      go_wp2_with (go_at_call 56; refine (Tryd.Builder_String_any w.heap.size w.heap.size (formB l) wr hbld hwr).mono ?_; rintro e w1 ⟨rfl, hb1⟩)
      go_ret
      exact ⟨rfl, hb.trans hb1⟩
def impl_form.f (a0 : ByteArray) : Option (ByteArray) := if (formB a0.data.toList).length ≤ 140737488355328 then some (B (formB a0.data.toList)) else none
theorem impl_form.calls (a0 : ByteArray) (r : ByteArray) (w : World) (h : impl_form.f a0 = some r) :
    Calls Tryd.prog 67 #[.string a0] w fun e w' => e = .returned (.string r) ∧ Below w.heap.size w w' := by
  obtain ⟨l, rfl⟩ := exB a0
  unfold impl_form.f at h
  rw [B_data] at h
  by_cases c : (formB l).length ≤ 140737488355328
  · rw [if_pos c] at h
    obtain rfl := Option.some.inj h
    exact form_walk l w c
  · rw [if_neg c] at h; cases h
end Go.Proofs.YtekeimhhffnjpaaDoor.H
namespace Go.Proofs.YtekeimhhffnjpaaDoor.H
open Go.RowKit Go.Proofs.YtekeimhhffnjpaaDoorW.PrintWords Go.Proofs.YtekeimhhffnjpaaDoor.Base
/-- The bytes of a set, by its number. -/
def setI (n : Int) : Bs := if 1 ≤ n ∧ n ≤ 5 then sets[n.toNat]?.getD [] else []
theorem in_walk (n : Int) (w : World) : Calls Tryd.prog 93 #[.int .i64 n, .int .i64 1, .int .i64 5] w fun e w' => e = .returned (.bool (decide (1 ≤ n ∧ n ≤ 5))) ∧ w' = w := by
  go_enter Tryd.func93, Tryd.ntmps93
  by_cases h1 : 1 ≤ n
  · have d1 : decide (1 ≤ n) = true := decide_eq_true h1
    by_cases h2 : n ≤ 5
    · have d2 : decide (n ≤ 5) = true := decide_eq_true h2
      have hd : decide (1 ≤ n ∧ n ≤ 5) = true := decide_eq_true ⟨h1, h2⟩
      rw [hd]; clear hd h1 h2
      go_wp2
      go_ret
      exact ⟨rfl, rfl⟩
    · have d2 : decide (n ≤ 5) = false := decide_eq_false h2
      have hd : decide (1 ≤ n ∧ n ≤ 5) = false := decide_eq_false (fun h => h2 h.2)
      rw [hd]; clear hd h1 h2
      go_wp2
      go_ret
      exact ⟨rfl, rfl⟩
  · have d1 : decide (1 ≤ n) = false := decide_eq_false h1
    have hd : decide (1 ≤ n ∧ n ≤ 5) = false := decide_eq_false (fun h => h1 h.1)
    rw [hd]; clear hd h1
    go_wp2
    go_ret
    exact ⟨rfl, rfl⟩
set_option maxHeartbeats 4000000 in
set_option maxRecDepth 100000 in
theorem encode_walk (n : Int) (l : Bs) (w : World) (hT : TabS w) (hl : (enc (setI n) l).length ≤ 140737488355328) :
    Calls Tryd.prog 50 #[.int .i64 n, .string (B l)] w fun e w' => e = .returned (.string (B (enc (setI n) l))) ∧ Below w.heap.size w w' := by
  obtain ⟨a, c, hs, ht⟩ := hT
  have hb0 : Lib.IsBuilder 60 5 w.heap.size w.heap.size (Lib.byteCells []) (w.alloc (.cells #[.pointer none, .slice none 0 0] 60)) := Lib.fresh_isBuilder 60 5 w
  have hw0 : Below w.heap.size w (w.alloc (.cells #[.pointer none, .slice none 0 0] 60)) := (Below.refl _ w).alloc (Nat.le_refl _) _
  have hln := (enc_len (setI n) l).1
  by_cases h : 1 ≤ n ∧ n ≤ 5
  · have hset : setI n = sets[n.toNat]?.getD [] := by unfold setI; rw [if_pos h]
    have hcell := ht n.toNat (by omega)
    rw [← hset] at hcell
    clear hset ht
    generalize setI n = any at hcell hl hln ⊢
    go_enter Tryd.func50, Tryd.ntmps50
    have hin := fun W => in_walk n W
    simp only [decide_eq_true h] at hin
    have HIN := Lib.hid hin
    clear hin
    go_wp2_with (go_at_call 93; refine (HIN.out _).mono ?_; rintro e w1 ⟨rfl, hw1⟩; subst w1)
    go_loopw [17] (fun i wr => ∃ k : Nat, k ≤ l.length ∧ i = .int .i64 k ∧ Lib.IsBuilder 60 5 w.heap.size w.heap.size (Lib.byteCells (enc any (l.take k))) wr ∧ Below w.heap.size w wr) (fun i _ => l.length - (intOf i).toNat)
    case atStart => exact ⟨0, by omega, rfl, hb0, hw0⟩
    case round =>
      obtain ⟨k, hk, rfl, hbld, hb⟩ := hrel
      by_cases hlt : k < l.length
      · have hst := enc_take any l k hlt
        have hmo : (enc any (l.take (k + 1))).length ≤ (enc any l).length := by
          conv => rhs; rw [← List.take_append_drop (k + 1) l, enc_append]
          simp
        have hmx : (enc any (l.take k)).length + (encC any l[k]).length ≤ 140737488355328 := by
          rw [hst, List.length_append] at hmo; omega
        have HS := Lib.hid hst
        have hwr := hb.size
        clear hst hmo
        have yes : needs any l[k] = true → encC any l[k] = pct l[k] := fun q => by unfold encC; rw [if_pos q]
        have no : needs any l[k] = false → encC any l[k] = [l[k]] := fun q => by unfold encC; rw [if_neg (by rw [q]; simp)]
        by_cases c1 : l[k].toNat < 32
        · have hC := yes (by unfold needs; simp [c1])
          have c1b : decide (((l[k].toNat : Nat) : Int) < 32) = true := decide_eq_true (by omega)
          rw [hC] at hmx
          have HC := Lib.hid hC
          clear hC yes no c1
          go_wp2_with fail
          refine (percent_walk l[k] _).mono ?_
          rintro e w4 ⟨rfl, hb4⟩
          have hbld4 := below_builder hbld hb4
          have hb5 : Below w.heap.size w w4 := below_then hb hwr hb4
          have hwr4 : w.heap.size ≤ w4.heap.size := hb5.size
          clear hbld hb4 hb hwr
          go_wp2_with (go_at_call 75; refine (Builder_WriteString w.heap.size w.heap.size _ (B (pct l[k])) _ hbld4 (by simpa [cells_len] using hmx) hwr4).mono ?_; rintro e w5 ⟨rfl, h1, hb6⟩)
          go_roundw
          case rel => exact ⟨k + 1, by omega, by go_num, Or.inr (by rw [HS.out, HC.out, cells_app]; exact h1), hb5.trans hb6⟩
          case measure => simp [intOf]; omega
        have c1b : decide (((l[k].toNat : Nat) : Int) < 32) = false := decide_eq_false (by omega)
        by_cases c2 : 126 < l[k].toNat
        · have hC := yes (by unfold needs; simp [c2])
          have c2b : decide (126 < ((l[k].toNat : Nat) : Int)) = true := decide_eq_true (by omega)
          rw [hC] at hmx
          have HC := Lib.hid hC
          clear hC yes no c2 c1
          go_wp2_with fail
          refine (percent_walk l[k] _).mono ?_
          rintro e w4 ⟨rfl, hb4⟩
          have hbld4 := below_builder hbld hb4
          have hb5 : Below w.heap.size w w4 := below_then hb hwr hb4
          have hwr4 : w.heap.size ≤ w4.heap.size := hb5.size
          clear hbld hb4 hb hwr
          go_wp2_with (go_at_call 75; refine (Builder_WriteString w.heap.size w.heap.size _ (B (pct l[k])) _ hbld4 (by simpa [cells_len] using hmx) hwr4).mono ?_; rintro e w5 ⟨rfl, h1, hb6⟩)
          go_roundw
          case rel => exact ⟨k + 1, by omega, by go_num, Or.inr (by rw [HS.out, HC.out, cells_app]; exact h1), hb5.trans hb6⟩
          case measure => simp [intOf]; omega
        have c2b : decide (126 < ((l[k].toNat : Nat) : Int)) = false := decide_eq_false (by omega)
        have hnd : needs any l[k] = any.contains l[k] := by unfold needs; simp [c1, c2]
        clear c1 c2
        go_wp2_with fail
        refine (indexByte_walk any l[k] _).mono ?_
        rintro e w3 ⟨rfl, rfl⟩
        by_cases c3 : any.contains l[k] = true
        · have hx := contains_yes c3
          have hC := yes (by rw [hnd, c3])
          rw [hC] at hmx
          have HC := Lib.hid hC
          clear hC yes no hnd c3
          go_wp2_with fail
          refine (percent_walk l[k] _).mono ?_
          rintro e w4 ⟨rfl, hb4⟩
          have hbld4 := below_builder hbld hb4
          have hb5 : Below w.heap.size w w4 := below_then hb hwr hb4
          have hwr4 : w.heap.size ≤ w4.heap.size := hb5.size
          clear hbld hb4 hb hwr
          go_wp2_with (go_at_call 75; refine (Builder_WriteString w.heap.size w.heap.size _ (B (pct l[k])) _ hbld4 (by simpa [cells_len] using hmx) hwr4).mono ?_; rintro e w5 ⟨rfl, h1, hb6⟩)
          go_roundw
          case rel => exact ⟨k + 1, by omega, by go_num, Or.inr (by rw [HS.out, HC.out, cells_app]; exact h1), hb5.trans hb6⟩
          case measure => simp [intOf]; omega
        · have c3' : any.contains l[k] = false := by simpa using c3
          have hx := contains_no c3'
          have hC := no (by rw [hnd, c3'])
          rw [hC] at hmx
          have HC := Lib.hid hC
          clear hC yes no hnd c3 c3'
          go_wp2_with (go_at_call 55; refine (Builder_WriteByte w.heap.size w.heap.size _ _ _ hbld (by simpa [cells_len] using hmx) hwr).mono ?_; rintro e w4 ⟨rfl, h1, hb2⟩)
          go_roundw
          case rel => exact ⟨k + 1, by omega, by go_num, Or.inr (by rw [HS.out, HC.out, cells_app, cells_one]; exact h1), hb.trans hb2⟩
          case measure => simp [intOf]; omega
      · obtain rfl : k = l.length := by omega
        have hwr : w.heap.size ≤ wr.heap.size := hb.size
        rw [List.take_of_length_le (Nat.le_refl _)] at hbld
        go_wp2_with (go_at_call 56; refine (Tryd.Builder_String_any w.heap.size w.heap.size (enc any l) wr hbld hwr).mono ?_; rintro e w1 ⟨rfl, hb1⟩)
        go_ret
        exact ⟨rfl, hb.trans hb1⟩
  · have hset : setI n = [] := by unfold setI; rw [if_neg h]
    obtain ⟨any, hany⟩ : ∃ any : Bs, any = [] := ⟨_, rfl⟩
    have hbe : (⟨#[]⟩ : ByteArray) = B any := by rw [hany]; rfl
    rw [hset, ← hany] at hl hln ⊢
    have HE := Lib.hid hbe
    clear hset ht hs hany hbe
    go_enter Tryd.func50, Tryd.ntmps50
    have hin := fun W => in_walk n W
    simp only [decide_eq_false h] at hin
    have HIN := Lib.hid hin
    clear hin
    go_wp2_with (go_at_call 93; refine (HIN.out _).mono ?_; rintro e w1 ⟨rfl, hw1⟩; subst w1)
    rw [HE.out]
    go_loopw [17] (fun i wr => ∃ k : Nat, k ≤ l.length ∧ i = .int .i64 k ∧ Lib.IsBuilder 60 5 w.heap.size w.heap.size (Lib.byteCells (enc any (l.take k))) wr ∧ Below w.heap.size w wr) (fun i _ => l.length - (intOf i).toNat)
    case atStart => exact ⟨0, by omega, rfl, hb0, hw0⟩
    case round =>
      obtain ⟨k, hk, rfl, hbld, hb⟩ := hrel
      by_cases hlt : k < l.length
      · have hst := enc_take any l k hlt
        have hmo : (enc any (l.take (k + 1))).length ≤ (enc any l).length := by
          conv => rhs; rw [← List.take_append_drop (k + 1) l, enc_append]
          simp
        have hmx : (enc any (l.take k)).length + (encC any l[k]).length ≤ 140737488355328 := by
          rw [hst, List.length_append] at hmo; omega
        have HS := Lib.hid hst
        have hwr := hb.size
        clear hst hmo
        have yes : needs any l[k] = true → encC any l[k] = pct l[k] := fun q => by unfold encC; rw [if_pos q]
        have no : needs any l[k] = false → encC any l[k] = [l[k]] := fun q => by unfold encC; rw [if_neg (by rw [q]; simp)]
        by_cases c1 : l[k].toNat < 32
        · have hC := yes (by unfold needs; simp [c1])
          have c1b : decide (((l[k].toNat : Nat) : Int) < 32) = true := decide_eq_true (by omega)
          rw [hC] at hmx
          have HC := Lib.hid hC
          clear hC yes no c1
          go_wp2_with fail
          refine (percent_walk l[k] _).mono ?_
          rintro e w4 ⟨rfl, hb4⟩
          have hbld4 := below_builder hbld hb4
          have hb5 : Below w.heap.size w w4 := below_then hb hwr hb4
          have hwr4 : w.heap.size ≤ w4.heap.size := hb5.size
          clear hbld hb4 hb hwr
          go_wp2_with (go_at_call 75; refine (Builder_WriteString w.heap.size w.heap.size _ (B (pct l[k])) _ hbld4 (by simpa [cells_len] using hmx) hwr4).mono ?_; rintro e w5 ⟨rfl, h1, hb6⟩)
          go_roundw
          case rel => exact ⟨k + 1, by omega, by go_num, Or.inr (by rw [HS.out, HC.out, cells_app]; exact h1), hb5.trans hb6⟩
          case measure => simp [intOf]; omega
        have c1b : decide (((l[k].toNat : Nat) : Int) < 32) = false := decide_eq_false (by omega)
        by_cases c2 : 126 < l[k].toNat
        · have hC := yes (by unfold needs; simp [c2])
          have c2b : decide (126 < ((l[k].toNat : Nat) : Int)) = true := decide_eq_true (by omega)
          rw [hC] at hmx
          have HC := Lib.hid hC
          clear hC yes no c2 c1
          go_wp2_with fail
          refine (percent_walk l[k] _).mono ?_
          rintro e w4 ⟨rfl, hb4⟩
          have hbld4 := below_builder hbld hb4
          have hb5 : Below w.heap.size w w4 := below_then hb hwr hb4
          have hwr4 : w.heap.size ≤ w4.heap.size := hb5.size
          clear hbld hb4 hb hwr
          go_wp2_with (go_at_call 75; refine (Builder_WriteString w.heap.size w.heap.size _ (B (pct l[k])) _ hbld4 (by simpa [cells_len] using hmx) hwr4).mono ?_; rintro e w5 ⟨rfl, h1, hb6⟩)
          go_roundw
          case rel => exact ⟨k + 1, by omega, by go_num, Or.inr (by rw [HS.out, HC.out, cells_app]; exact h1), hb5.trans hb6⟩
          case measure => simp [intOf]; omega
        have c2b : decide (126 < ((l[k].toNat : Nat) : Int)) = false := decide_eq_false (by omega)
        have hnd : needs any l[k] = any.contains l[k] := by unfold needs; simp [c1, c2]
        clear c1 c2
        go_wp2_with fail
        refine (indexByte_walk any l[k] _).mono ?_
        rintro e w3 ⟨rfl, rfl⟩
        by_cases c3 : any.contains l[k] = true
        · have hx := contains_yes c3
          have hC := yes (by rw [hnd, c3])
          rw [hC] at hmx
          have HC := Lib.hid hC
          clear hC yes no hnd c3
          go_wp2_with fail
          refine (percent_walk l[k] _).mono ?_
          rintro e w4 ⟨rfl, hb4⟩
          have hbld4 := below_builder hbld hb4
          have hb5 : Below w.heap.size w w4 := below_then hb hwr hb4
          have hwr4 : w.heap.size ≤ w4.heap.size := hb5.size
          clear hbld hb4 hb hwr
          go_wp2_with (go_at_call 75; refine (Builder_WriteString w.heap.size w.heap.size _ (B (pct l[k])) _ hbld4 (by simpa [cells_len] using hmx) hwr4).mono ?_; rintro e w5 ⟨rfl, h1, hb6⟩)
          go_roundw
          case rel => exact ⟨k + 1, by omega, by go_num, Or.inr (by rw [HS.out, HC.out, cells_app]; exact h1), hb5.trans hb6⟩
          case measure => simp [intOf]; omega
        · have c3' : any.contains l[k] = false := by simpa using c3
          have hx := contains_no c3'
          have hC := no (by rw [hnd, c3'])
          rw [hC] at hmx
          have HC := Lib.hid hC
          clear hC yes no hnd c3 c3'
          go_wp2_with (go_at_call 55; refine (Builder_WriteByte w.heap.size w.heap.size _ _ _ hbld (by simpa [cells_len] using hmx) hwr).mono ?_; rintro e w4 ⟨rfl, h1, hb2⟩)
          go_roundw
          case rel => exact ⟨k + 1, by omega, by go_num, Or.inr (by rw [HS.out, HC.out, cells_app, cells_one]; exact h1), hb.trans hb2⟩
          case measure => simp [intOf]; omega
      · obtain rfl : k = l.length := by omega
        have hwr : w.heap.size ≤ wr.heap.size := hb.size
        rw [List.take_of_length_le (Nat.le_refl _)] at hbld
        go_wp2_with (go_at_call 56; refine (Tryd.Builder_String_any w.heap.size w.heap.size (enc any l) wr hbld hwr).mono ?_; rintro e w1 ⟨rfl, hb1⟩)
        go_ret
        exact ⟨rfl, hb.trans hb1⟩
def impl_encode.f (a0 : Int) (a1 : ByteArray) : Option (ByteArray) := if (enc (setI a0) a1.data.toList).length ≤ 140737488355328 then some (B (enc (setI a0) a1.data.toList)) else none
theorem impl_encode.calls (a0 : Int) (a1 : ByteArray) (r : ByteArray) (w : World) (hT : TabS w) (h : impl_encode.f a0 a1 = some r) :
    Calls Tryd.prog 50 #[.int .i64 a0, .string a1] w fun e w' => e = .returned (.string r) ∧ Below w.heap.size w w' := by
  obtain ⟨l, rfl⟩ := exB a1
  unfold impl_encode.f at h
  rw [B_data] at h
  by_cases c : (enc (setI a0) l).length ≤ 140737488355328
  · rw [if_pos c] at h
    obtain rfl := Option.some.inj h
    exact encode_walk a0 l w hT c
  · rw [if_neg c] at h; cases h
end Go.Proofs.YtekeimhhffnjpaaDoor.H
