/- Texts of this claim, joined: Lmx0, Lmx1, HMk, HUrlM, LUrlXGet. Conditions: each theorem's own. -/
import Derived.Test.YteldemgdcpmmfaaGreatDoorProg
import Derived.Below
import Derived.Deep.Draws
import Derived.Deep.AppendLies
import Derived.Maps.AppendAt
import Derived.OwnWalk
import Derived.Laws.BytesArg
import Derived.Laws.MakeOwn
import Derived.Laws.OwnMore
import Derived.Deep.OwnRows
import Derived.Tactics
import Derived.Lib.ConvBytes
import Derived.Laws.Slices
import Derived.WalkKit
import Derived.KernelRfl
import Derived.RowKit3
import Derived.Deep.LoopGhost
import Derived.Deep.QuietTactic
import Derived.BigQuiet
import Derived.WideLaws
import Derived.Deep.DeepCutAuto
import Derived.Deep.CutBlock
import Derived.Deep.RegionHeld3
import Derived.Laws.Rows
import Derived.Lib.AppendStr
import Derived.ArgAppend
import Derived.Laws.IdiomCopy
import Derived.OrdersHeld
import Derived.Laws.BitsLemmas
import Derived.RowKit
import Derived.Test.YteldemgdcpmmfaaGreatDoorA03
import Derived.Test.YteldemgdcpmmfaaGreatDoorA01
import Derived.Test.YteldemgdcpmmfaaGreatDoorA02
import Derived.Test.YteldemgdcpmmfaaGreatDoorA04
import Derived.Lib.ItoaNum
import Derived.Outline
import Derived.Lib.Hide
import Derived.Test.YteldemgdcpmmfaaGreatDoorA19
import Derived.Deep.RegionWith
namespace Go.Proofs.YteldemgdcpmmfaaGreatDoor.Lm
open Go.RowKit Go.Proofs.YteldemgdcpmmfaaGreatDoor.H Go.Proofs.YteldemgdcpmmfaaGreatDoorW.PrintWords Go.Proofs.YteldemgdcpmmfaaGreatDoorW.PrintLast Go.Proofs.YteldemgdcpmmfaaGreatDoorW.PrintMore
attribute [local go_sem] max2_int min2_int max_two min_two max_three min_three max_four min_four   -- for this text's walks alone
set_option linter.unusedVariables false
set_option linter.unusedSimpArgs false
def errW : Option Int → Value
 | none => .nilIface
 | some c => .iface 0 (.int .i64 c)
theorem errW_none : errW none = .nilIface := rfl
theorem errW_some (c : Int) : errW (some c) = .iface 0 (.int .i64 c) := rfl
theorem info5 : (Tryz.prog.info? 5).map (fun i => (i.zero, i.size, i.bytes)) = some (some (.int .u8 0), 1, 1) := by kernel_rfl
end Go.Proofs.YteldemgdcpmmfaaGreatDoor.Lm
namespace Go.Proofs.YteldemgdcpmmfaaGreatDoor.Lm
open Go.RowKit Go.Proofs.YteldemgdcpmmfaaGreatDoor.H Go.Proofs.YteldemgdcpmmfaaGreatDoorW.PrintWords Go.Proofs.YteldemgdcpmmfaaGreatDoorW.PrintLast Go.Proofs.YteldemgdcpmmfaaGreatDoorW.PrintMore
attribute [local go_sem] max2_int min2_int max_two min_two max_three min_three max_four min_four   -- for this text's walks alone
set_option linter.unusedVariables false
set_option linter.unusedSimpArgs false
def laws_markText.l0 : Nat → Int → ByteArray → Option (ByteArray)
 | 0, _, _ => none
 | k + 1, x0, x3 => if x0 > 0 then ((some (([(wrap64 (48 + (Int.tmod x0 10))) % 256] : List Int) : List Int)).bind fun y101 => (if (strOfNums y101).size + x3.size ≤ 9223372036854775807 then (laws_markText.l0 k (wrap64 (Int.tdiv x0 10)) ((strOfNums y101) ++ x3)) else (none))) else (if 1 + x3.size ≤ 9223372036854775807 then (some ((⟨#[109]⟩ : ByteArray) ++ x3)) else (none))
def laws_markText.f (k : Nat) (a0 : Int) : Option (ByteArray) := if a0 ≤ 0 then (some (⟨#[109, 48]⟩ : ByteArray)) else (laws_markText.l0 k a0 (⟨#[]⟩ : ByteArray))
theorem laws_markText.mono_l : ∀ k, (∀ y0 y1, LeO (laws_markText.l0 k y0 y1) (laws_markText.l0 (k + 1) y0 y1))
 | 0 => fun _ _ r h => by simp [laws_markText.l0] at h
 | k + 1 => by
  have ih0 := laws_markText.mono_l k
  ·intro y0 y1
   unfold laws_markText.l0
   repeat' first
   | (with_reducible exact ih0 _ _)
   | (with_reducible exact LeO.refl _)
   | (with_reducible exact LeO.none _)
   | (with_reducible refine LeO.ite ?_ ?_)
   | (with_reducible refine LeO.bind ?_ (fun _ => ?_))
theorem laws_markText.mono : ∀ a0 k, LeO (laws_markText.f k a0) (laws_markText.f (k + 1) a0) := by
 intro a0 k
 have ih0 := laws_markText.mono_l k
 unfold laws_markText.f
 repeat' first
   | (with_reducible exact ih0 _ _)
   | (with_reducible exact LeO.refl _)
   | (with_reducible exact LeO.none _)
   | (with_reducible refine LeO.ite ?_ ?_)
   | (with_reducible refine LeO.bind ?_ (fun _ => ?_))
set_option maxHeartbeats 8000000 in
set_option maxRecDepth 100000 in
theorem laws_markText.calls (k : Nat) (a0 : Int) (r : ByteArray) (w : World) (h : laws_markText.f k a0 = some r) :
  Calls Tryz.prog 100 #[.int .i64 a0] w fun e w' => e = .returned (.string r) ∧ Below w.heap.size w w' := by
 have HB := Aside0.mk (Below.refl w.heap.size w)
 have H : (if a0 ≤ 0 then (some (⟨#[109, 48]⟩ : ByteArray)) else (laws_markText.l0 k a0 (⟨#[]⟩ : ByteArray))) = some r := h
 clear h
 by_cases c2 : a0 ≤ 0
 ·rw [if_pos c2] at H
  have c2b0 := decide_eq_true c2
  clear c2
  obtain rfl := Option.some.inj H
  go_enter Tryz.func100, Tryz.ntmps100
  go_wp2
  go_ret
  exact ⟨vq, bq⟩
 ·rw [if_neg c2] at H
  have c2b0 := decide_eq_false c2
  clear c2
  have H' := Aside0.mk H
  clear H
  go_enter Tryz.func100, Tryz.ntmps100
  go_wp2
  go_loopg [0, 3] k (fun kq v0 v3 w' => ∃ (x0_1 : Int) (x3_1 : ByteArray), v0 = .int .i64 x0_1 ∧ v3 = .string x3_1 ∧ Aside0 (laws_markText.l0 kq x0_1 x3_1 = some r) ∧ Aside0 (kq ≤ k) ∧ Aside0 (Below w.heap.size w w'))
  case atStart => exact ⟨(a0), ((⟨#[]⟩ : ByteArray)), vq, vq, H', ⟨Nat.le_refl _⟩, ⟨bq⟩⟩
  case round =>
   clear H'
   obtain ⟨x0_1, x3_1, rfl, rfl, HA, HK1, HB⟩ := hrel
   cases gk with
   | zero => exact absurd HA.out (by simp [laws_markText.l0])
   | succ k1 =>
    have H := HA.out
    clear HA
    simp only [laws_markText.l0] at H
    by_cases c3 : x0_1 > 0
    ·rw [if_pos c3] at H
     have c3b0 := decide_eq_true c3
     clear c3
     obtain ⟨y101, hy101⟩ : ∃ y_ : List Int, y_ = (([(wrap64 (48 + (Int.tmod x0_1 10))) % 256] : List Int)) := ⟨_, rfl⟩
     replace H : (if (strOfNums y101).size + x3_1.size ≤ 9223372036854775807 then (laws_markText.l0 k1 (wrap64 (Int.tdiv x0_1 10)) ((strOfNums y101) ++ x3_1)) else (none)) = some r := by first | (rw [hy101]; with_reducible exact H) | (have H2_ := (Option.bind_some _ _).symm.trans H; rw [hy101]; with_reducible exact H2_) | (have H2_ := (Option.bind_some _ _).symm.trans H; with_reducible exact H2_) | with_reducible exact H | (rw [hy101]; exact H) | exact H
     have Ny101 := Aside0.mk hy101
     clear hy101
     by_cases c4 : (strOfNums y101).size + x3_1.size ≤ 9223372036854775807
     ·rw [if_pos c4] at H
      have c4b0 := eq_true c4
      have c4b1 := decide_eq_true c4
      try have c4b2 : (9223372036854775807 < (strOfNums y101).size + x3_1.size) = False := eq_false (Nat.not_lt.2 c4)
      have H' := Aside0.mk H
      clear H
      go_wp2_with (first | ((with_reducible refine gate_dst (N := 12) rfl ?_); refine Kd.R_lit (Kd.int .u8) _ 5 ?hg (N := 12) ?hd (xs := ([(wrap64 (48 + (Int.tmod x0_1 10))) % 256] : List Int)) (inner := [.int .u8 ((wrap64 (48 + (Int.tmod x0_1 10))) % 256)]) (ok := fun _ => True) (okp := fun _ => True) ?hr ?hp (fun _ hk => hk) trivial (Below.refl _ _) (Nat.le_refl _) (by simp) ?_; (case hd => rfl); (case hg => rfl); (case hr => first | (go_simp; done) | (go_simp; rfl)); (case hp => exact (Reps.one (show Kd.M (Kd.int .u8) _ _ _ ((wrap64 (48 + (Int.tmod x0_1 10))) % 256) [.int .u8 ((wrap64 (48 + (Int.tmod x0_1 10))) % 256)] from rfl) (Reps.none _ _))); intro v102 w5 ho6 hb hg_ hnew_; clear hg_ hnew_; (first | rw [← Ny101.out] at ho6 | (simp only [Int.reduceToNat] at ho6; rw [← Ny101.out] at ho6)); have n0_ := Aside0.mk (Kd.R_lower ho6 (below_size (bq))); have n1_ := Aside0.mk (below_step (bq) hb); clear HB; have HO103 := n0_; have HB := n1_; clear n0_ n1_; clear hb ho6; have hcv7 := own_string (P := Tryz.prog) Tryz.underlying22 Tryz.underlying5 Tryz.underlying9 (Kd.own_of_R HO103.out)))
      go_roundg k1
      case measure => have := HK1.out; omega
      case rel => exact ⟨(wrap64 (Int.tdiv x0_1 10)), ((strOfNums y101) ++ x3_1), vq, vq, H', ⟨by have := HK1.out; omega⟩, ⟨bq⟩⟩
     ·rw [if_neg c4] at H
      exact absurd H (by simp)
    ·rw [if_neg c3] at H
     have c3b0 := decide_eq_false c3
     clear c3
     by_cases c8 : 1 + x3_1.size ≤ 9223372036854775807
     ·rw [if_pos c8] at H
      have c8b0 := eq_true c8
      have c8b1 := decide_eq_true c8
      try have c8b2 : (9223372036854775807 < 1 + x3_1.size) = False := eq_false (Nat.not_lt.2 c8)
      obtain rfl := Option.some.inj H
      go_wp2
      go_ret
      exact ⟨vq, bq⟩
     ·rw [if_neg c8] at H
      exact absurd H (by simp)
end Go.Proofs.YteldemgdcpmmfaaGreatDoor.Lm
/- laws.markText: the call comes to an m and the number's decimals, for numbers from 1 to 2^40. · laws.markStringS: the call writes a mark into each string of a row of one's own, which may begin and end inside its block. -/
set_option linter.unusedVariables false
set_option linter.unusedSimpArgs false
namespace Go.Proofs.YteldemgdcpmmfaaGreatDoor.HS
open Go.RowKit Go.Proofs.YteldemgdcpmmfaaGreatDoor.Lm Go.Proofs.YteldemgdcpmmfaaGreatDoorW.PrintWords Go.Proofs.YteldemgdcpmmfaaGreatDoorW.PrintLast Go.Proofs.YteldemgdcpmmfaaGreatDoor.Base
def markB (n : Nat) : Bs := 109 :: Lib.decDigits n
def dz (n : Nat) : Bs := if n = 0 then [] else Lib.decDigits n
theorem dz_step (n : Nat) (h : 0 < n) : dz n = dz (n / 10) ++ [UInt8.ofNat (48 + n % 10)] := by
 unfold dz
 rw [if_neg (by omega), Lib.decDigits]
 by_cases c : n < 10
 ·rw [dif_pos c, if_pos (by omega), Nat.mod_eq_of_lt c]; rfl
 ·rw [dif_neg c, if_neg (by omega)]
theorem mark_l0 (n : Nat) : ∀ acc : Bs, n ≤ 1099511627776 → acc.length + n ≤ 2199023255552 → Ev (fun k => laws_markText.l0 k (n : Int) (B acc)) (B (109 :: (dz n ++ acc))) := by
 induction n using Nat.strongRecOn with
 | _ n ih =>
  intro acc hn hl
  refine Ev.step (fun k => by rw [laws_markText.l0]) ?_
  by_cases h : 0 < n
  ·have e1 : wrap64 (Int.tdiv (n : Int) 10) = ((n / 10 : Nat) : Int) := by
    rw [Int.tdiv_eq_ediv_of_nonneg (by omega), w64 (by omega) (by omega)]; rfl
   have e2 : Int.tmod (n : Int) 10 = ((n % 10 : Nat) : Int) := by rw [Int.tmod_eq_emod_of_nonneg (by omega)]; rfl
   have e3 : strOfNums [wrap64 (48 + ((n % 10 : Nat) : Int)) % 256] = B [UInt8.ofNat (48 + n % 10)] := by
    have e : wrap64 (48 + ((n % 10 : Nat) : Int)) % 256 = (((UInt8.ofNat (48 + n % 10)).toNat : Nat) : Int) := by
     rw [w64 (by omega) (by omega)]; simp
    rw [e]
    exact str_ns [UInt8.ofNat (48 + n % 10)]
   simp only [if_pos (show (n : Int) > 0 by omega), e1, e2, e3, Option.bind_some, B_size, B_append, List.length_singleton]
   simp only [if_pos (show 1 + acc.length ≤ 9223372036854775807 by omega)]
   have := ih (n / 10) (by omega) ([UInt8.ofNat (48 + n % 10)] ++ acc) (by omega) (by simp; omega)
   rw [dz_step n h, List.append_assoc]
   exact this
  ·have k109 : (⟨#[109]⟩ : ByteArray) = B [109] := rfl
   obtain rfl : n = 0 := by omega
   simp only [if_neg (show ¬ ((0 : Nat) : Int) > 0 by omega), k109, B_size, B_append, if_pos (show 1 + acc.length ≤ 9223372036854775807 by omega)]
   exact Ev.now _
theorem markText_ev (n : Nat) (h0 : 0 < n) (hn : n ≤ 1099511627776) : Ev (fun k => laws_markText.f k (n : Int)) (B (markB n)) := by
 unfold laws_markText.f
 simp only [if_neg (show ¬ (n : Int) ≤ 0 by omega)]
 have := mark_l0 n [] hn (by simp; omega)
 have e : dz n ++ [] = Lib.decDigits n := by unfold dz; rw [if_neg (by omega), List.append_nil]
 rw [e] at this
 exact this
theorem markText_walk (n : Nat) (w : World) (h0 : 0 < n) (hn : n ≤ 1099511627776) :
  Calls Tryz.prog 100 #[.int .i64 (n : Int)] w fun e w' => e = .returned (.string (B (markB n))) ∧ Below w.heap.size w w' := by
 obtain ⟨K, hK⟩ := markText_ev n h0 hn
 exact laws_markText.calls K _ _ w (hK K (Nat.le_refl _))
def marks (n k : Nat) : List Bs := (List.range n).map fun i => markB (k + i)
theorem marks_len (n k : Nat) : (marks n k).length = n := by simp [marks]
theorem marks_get (n k i : Nat) (h : i < n) : (marks n k)[i]'(by rw [marks_len]; exact h) = markB (k + i) := by simp [marks]
end Go.Proofs.YteldemgdcpmmfaaGreatDoor.HS
set_option linter.unusedVariables false
namespace Go.Proofs.YteldemgdcpmmfaaGreatDoor.H
open Go.RowKit Go.Proofs.YteldemgdcpmmfaaGreatDoor.HS Go.Proofs.YteldemgdcpmmfaaGreatDoorW.PrintWords Go.Proofs.YteldemgdcpmmfaaGreatDoor.Base
structure MarkAt (e : Nat) (w W : World) (g off size : Nat) (vs : List Value) : Prop where
 row : ∃ cur, W.heap[g]? = some (.cells cur e (0, 0)) ∧ cur.size = size ∧ ∀ j (h : j < vs.length), cur[off + j]? = some vs[j]
 far : w.grownBy W (some g)
theorem MarkAt.below {e : Nat} {w W W1 : World} {g off size : Nat} {vs : List Value} (h : MarkAt e w W g off size vs) (hg : g < w.heap.size) (hb : Below W.heap.size W W1) : MarkAt e w W1 g off size vs := by
 have hgw : g < W.heap.size := Nat.lt_of_lt_of_le hg h.far.size
 obtain ⟨cur, h1, h2⟩ := h.row
 refine ⟨⟨cur, (hb.block g hgw).trans h1, h2⟩, ⟨hb.os.trans h.far.os, hb.tape.trans h.far.tape, hb.output.trans h.far.output, Nat.le_trans h.far.size hb.size, fun k hk hne => ?_⟩⟩
 exact (hb.block k (Nat.lt_of_lt_of_le hk h.far.size)).trans (h.far.block k hk hne)
theorem MarkAt.cell {e : Nat} {w W : World} {g off size : Nat} {vs : List Value} (h : MarkAt e w W g off size vs) (j : Nat) (hj : j < vs.length) : W.cell? ⟨g, off + j, none⟩ = some vs[j] ∧ W.frozen? ⟨g, off + j, none⟩ = false := by
 obtain ⟨cur, h1, _, h3⟩ := h.row
 refine ⟨by rw [Lib.cell_of_heap h1]; exact h3 j hj, Lib.frozen_of_heap h1 _⟩
theorem MarkAt.set {e : Nat} {w W : World} {g off size : Nat} {vs : List Value} (h : MarkAt e w W g off size vs) (j : Nat) (hj : j < vs.length) (v : Value) : MarkAt e w (W.setCell ⟨g, off + j, none⟩ v) g off size (vs.set j v) := by
 obtain ⟨cur, h1, h2, h3⟩ := h.row
 refine ⟨⟨cur.setIfInBounds (off + j) v, blk_set h1 (off + j) v, by simp [h2], fun i hi => ?_⟩, ⟨h.far.os, h.far.tape, h.far.output, by have := h.far.size; simp [World.setCell]; exact this, fun k hk hne => ?_⟩⟩
 ·have hi' : i < vs.length := by simpa using hi
  by_cases q : i = j
  ·subst q
   have hlt : off + i < cur.size := by
    rcases Nat.lt_or_ge (off + i) cur.size with h' | h'
    ·exact h'
    ·have := h3 i hi'; rw [Array.getElem?_eq_none h'] at this; cases this
   rw [Array.getElem?_setIfInBounds, if_pos rfl, if_pos hlt]; simp
  ·rw [Array.getElem?_setIfInBounds, if_neg (by omega), h3 i hi', List.getElem_set_ne (fun z => q z.symm)]
 ·exact (Below.heap_setCell W ⟨g, off + j, none⟩ v k (fun q => hne (by rw [q]))).trans (h.far.block k hk hne)
theorem strV_set (xs : List Bs) (k a : Nat) (h : k < xs.length) : (strV (marks k a ++ xs.drop k)).set k (.string (B (markB (a + k)))) = strV (marks (k + 1) a ++ xs.drop (k + 1)) := by
 have h1 : marks (k + 1) a = marks k a ++ [markB (a + k)] := by unfold marks; rw [List.range_succ, List.map_append]; rfl
 rw [h1, List.drop_eq_getElem_cons h]
 unfold strV
 have hl : ((marks k a).map fun s => Value.string (B s)).length = k := by rw [List.length_map, marks_len]
 rw [List.map_append, List.map_append, List.map_append, List.set_append_right _ _ (by rw [hl]; exact Nat.le_refl _), hl, Nat.sub_self, List.append_assoc]
 rfl
theorem strV_at (xs : List Bs) (k a : Nat) (h : k < xs.length) (h' : k < (strV (marks k a ++ xs.drop k)).length) : (strV (marks k a ++ xs.drop k))[k] = .string (B xs[k]) := by
 simp only [strV]
 rw [List.getElem_map, List.getElem_append_right (by rw [marks_len]; exact Nat.le_refl _)]
 simp [marks_len]
set_option maxHeartbeats 1000000 in
set_option maxRecDepth 100000 in
theorem markS_walk (g off cap size : Nat) (xs : List Bs) (a : Nat) (w : World) (h0 : MarkAt 9 w w g off size (strV xs)) (hg : g < w.heap.size) (hcap : xs.length ≤ cap) (ha : 0 < a) (hn : a + xs.length ≤ 1099511627776) :
  Calls Tryz.prog 54 #[.slice (some ⟨g, off, none⟩) xs.length cap, .int .i64 (a : Int)] w fun e w' => e = .returned (.int .i64 ((a + xs.length : Nat) : Int)) ∧ MarkAt 9 w w' g off size (strV (marks xs.length a)) := by
 have HM0 := Lib.hid h0
 have hz : ((xs.length : Nat) : Int) ≤ 1099511627776 := by omega
 clear h0
 go_enter Tryz.func54, Tryz.ntmps54
 go_wp2
 go_loopw [5, 1] (fun i c wr => ∃ k : Nat, k ≤ xs.length ∧ i = .int .i64 k ∧ c = .int .i64 ((a + k : Nat) : Int) ∧ MarkAt 9 w wr g off size (strV (marks k a ++ xs.drop k))) (fun i _ _ => xs.length - (intOf i).toNat)
 case atStart => exact ⟨0, by omega, rfl, by simp, by simpa [marks] using HM0.out⟩
 case round =>
  obtain ⟨k, hk, rfl, rfl, hm⟩ := hrel
  by_cases hlt : k < xs.length
  ·have HM := Lib.hid hm
   clear hm
   go_wp2_with fail
   refine (markText_walk (a + k) wr (by omega) (by omega)).mono ?_
   rintro e w4 ⟨rfl, hb4⟩
   have hm4 := HM.out.below hg hb4
   have hlen : k < (strV (marks k a ++ xs.drop k)).length := by simp [strV, marks_len]; omega
   have hcf := hm4.cell k hlen
   have hc := hcf.1
   have hf := hcf.2
   rw [strV_at xs k a hlt hlen] at hc
   have hset := hm4.set k hlen (.string (B (markB (a + k))))
   rw [strV_set xs k a hlt] at hset
   have HS := Lib.hid hset
   have hw1 : IntKind.i64.wrap (((a + k : Nat) : Int) + 1) = ((a + (k + 1) : Nat) : Int) := by rw [i64wrap, w64 (by omega) (by omega)]; omega
   clear hset hcf hm4 hb4 HM
   go_wp2
   go_roundw
   case rel => exact ⟨k + 1, by omega, by go_num, by go_num, HS.out⟩
   case measure => simp [intOf]; omega
  ·obtain rfl : k = xs.length := by omega
   have e : marks xs.length a ++ xs.drop xs.length = marks xs.length a := by simp
   rw [e] at hm
   have HM := Lib.hid hm
   clear hm
   go_wp2
   go_ret
   exact ⟨rfl, HM.out⟩
set_option maxRecDepth 100000 in
theorem markS_none (A : Option Addr) (c : Nat) (a : Int) (w : World) :
  Calls Tryz.prog 54 #[.slice A 0 c, .int .i64 a] w fun e w' => e = .returned (.int .i64 a) ∧ w' = w := by
 go_enter Tryz.func54, Tryz.ntmps54
 go_wp2
 go_loopw [5, 1] (fun i k wr => i = .int .i64 ((0 : Nat) : Int) ∧ k = .int .i64 a ∧ wr = w) (fun i _ _ => (intOf i).toNat)
 case atStart => exact ⟨rfl, rfl, rfl⟩
 case round =>
  obtain ⟨rfl, rfl, rfl⟩ := hrel
  go_wp2
  go_ret
  exact ⟨rfl, rfl⟩
theorem reps_strs {ps : List ByteArray} {cs : List Value} (h : Reps (fun (x : ByteArray) (c : List Value) => c = [Value.string x]) 1 ps cs) : cs = ps.map Value.string := by
 obtain ⟨h1, h2⟩ := h
 rw [Nat.mul_one] at h1
 apply List.ext_getElem (by rw [List.length_map]; exact h1)
 intro j hj hj'
 have hj2 : j < ps.length := by simpa using hj'
 have h3 : List.take 1 (List.drop (j * 1) cs) = [Value.string ps[j]] := h2 j ps[j] (List.getElem?_eq_getElem hj2)
 rw [Nat.mul_one, List.drop_eq_getElem_cons hj] at h3
 have h5 : List.take 1 (cs[j] :: List.drop (j + 1) cs) = [cs[j]] := rfl
 rw [h5] at h3
 have h4 : cs[j] = Value.string ps[j] := (List.cons.inj h3).1
 rw [h4, List.getElem_map]
def laws_markStringS.f (l0 : List ByteArray) (a1 : Int) : Option (Int × List ByteArray) := if 1 ≤ a1 ∧ a1 + (l0.length : Int) ≤ 1099511627776 then some (a1 + (l0.length : Int), (marks l0.length a1.toNat).map B) else none
theorem laws_markStringS.calls (P0_ : Nat → Prop) (u9000_ : Value) (l0 : List ByteArray) (a1 : Int) (r1 : Int) (r2 : List ByteArray) (w0 w : World) (hB : Below w0.heap.size w0 w) (ho0 : Kd.Q Kd.string 9 w w0.heap.size P0_ u9000_ l0) (h : laws_markStringS.f l0 a1 = some (r1, r2)) :
  Calls Tryz.prog 54 #[u9000_, .int .i64 a1] w fun e w' => e = .returned (.int .i64 r1) ∧ Kd.Q Kd.string 9 w' w0.heap.size (fun k_ => (P0_ k_ ∨ w.heap.size ≤ k_)) u9000_ r2 ∧ Below w0.heap.size w0 w' ∧ Kept w w' (fun k_ => P0_ k_) := by
 unfold laws_markStringS.f at h
 by_cases hc : 1 ≤ a1 ∧ a1 + (l0.length : Int) ≤ 1099511627776
 case neg => rw [if_neg hc] at h; cases h
 rw [if_pos hc] at h
 obtain ⟨rfl, rfl⟩ := Prod.mk.inj (Option.some.inj h)
 obtain ⟨a, rfl⟩ := Int.eq_ofNat_of_zero_le (show 0 ≤ a1 by omega)
 have hQ := ho0
 obtain ⟨hP, inner, hq, hr⟩ := ho0
 have hin := reps_strs hr
 by_cases hz : l0.length = 0
 ·obtain ⟨A, c, rfl, _⟩ := q_slice hq
  obtain rfl : l0 = [] := List.eq_nil_of_length_eq_zero hz
  refine (markS_none A c a w).mono ?_
  rintro e w' ⟨rfl, rfl⟩
  exact ⟨by simp, Kd.Q_mono hQ (fun k hk => Or.inl hk), hB, Kept.refl _ _⟩
 ·rcases hq.2 with ⟨h0, _⟩ | ⟨g, off, cap, cur, rfl, hg, hh, hnc, hcm, hcs, ht⟩
  ·exact absurd h0 hz
  have hgw : g < w.heap.size := (Array.getElem?_eq_some_iff.1 hh).1
  have hst : strV (l0.map fun s => s.data.toList) = inner := by
   rw [hin]; unfold strV; rw [List.map_map]
   exact List.map_congr_left fun s _ => by show Value.string (B s.data.toList) = Value.string s; rw [← eq_B]
  have hM0 : MarkAt 9 w w g (off * 1) cur.size (strV (l0.map fun s => s.data.toList)) := by
   refine ⟨⟨cur, hh, rfl, fun j hj => ?_⟩, ⟨rfl, rfl, rfl, Nat.le_refl _, fun _ _ _ => rfl⟩⟩
   have hj' : j < l0.length := by simpa [strV] using hj
   have e1 : (strV (l0.map fun s => s.data.toList))[j]? = some (strV (l0.map fun s => s.data.toList))[j] := List.getElem?_eq_getElem hj
   have hsz : l0.length * Kd.string.sz = l0.length := Nat.mul_one _
   rw [← e1, hst, ← ht, List.getElem?_take, if_pos (by rw [hsz]; exact hj'), List.getElem?_drop, Array.getElem?_toList]
   rfl
  have hW := markS_walk g (off * 1) cap cur.size (l0.map fun s => s.data.toList) a w hM0 hgw (by rw [List.length_map]; exact hnc) (by omega) (by rw [List.length_map]; omega)
  rw [List.length_map] at hW
  refine hW.mono ?_
  rintro e w' ⟨rfl, hm⟩
  obtain ⟨cur', g1, g2, g3⟩ := hm.row
  have hPg := hP g rfl
  have hlen : (strV (marks l0.length a)).length = l0.length := by rw [strV_len, marks_len]
  refine ⟨by simp, ⟨fun k hk => Or.inl (hP k hk), encs Value.string ((marks l0.length a).map B), ⟨by simp [encs, marks_len]; exact (Nat.mul_one _).symm, .inr ⟨g, off, cap, cur', by simp [marks_len], hg, g1, by simp [marks_len]; exact hnc, hcm, by rw [g2]; exact hcs, ?_⟩⟩, Kd.reps_scalar _⟩, hB.grown hm.far (by have := hB.size; omega) (fun k hk => by cases hk; exact hg), ⟨hm.far.size, fun i hi hni => hm.far.block i hi (fun q => hni (by cases q; exact hPg))⟩⟩
  have e : encs Value.string ((marks l0.length a).map B) = strV (marks l0.length a) := by simp [encs, strV]
  have hcs1 : (off + cap) * 1 ≤ cur.size := hcs
  have hlt' : cur'.toList.length = cur.size := by rw [Array.length_toList]; exact g2
  have hb0 : off * 1 + l0.length ≤ cur'.toList.length := by omega
  show (cur'.toList.drop (off * 1)).take (((marks l0.length a).map B).length * 1) = _
  rw [e]
  apply List.ext_getElem (by rw [hlen, List.length_take, List.length_drop]; simp [marks_len]; omega)
  intro j hj hj'
  rw [← Option.some_inj, ← List.getElem?_eq_getElem, ← g3 j hj', List.getElem?_take, if_pos (by simp [marks_len]; rw [hlen] at hj'; omega), List.getElem?_drop, Array.getElem?_toList]
end Go.Proofs.YteldemgdcpmmfaaGreatDoor.H
/- laws.markUrl, laws.heldUrl: an address's path is marked, and found marked. No condition. -/
set_option linter.unusedVariables false
namespace Go.Proofs.YteldemgdcpmmfaaGreatDoor.H
open Go.RowKit Go.Proofs.YteldemgdcpmmfaaGreatDoor.HS Go.Proofs.YteldemgdcpmmfaaGreatDoorW.PrintWords Go.Proofs.YteldemgdcpmmfaaGreatDoor.Base Go.Proofs.YteldemgdcpmmfaaGreatDoor.Pure
structure Marked (base : Nat) (w w' : World) : Prop where
 other : ∀ (g : Nat) (t : TypeId) (cs : Array Value), t ≠ 9 → w.heap[g]? = some (.cells cs t (0, 0)) → w'.heap[g]? = some (.cells cs t (0, 0))
 under : ∀ w0 : World, w0.heap.size ≤ base → Below w0.heap.size w0 w → Below w0.heap.size w0 w'
theorem Marked.refl (base : Nat) (w : World) : Marked base w w := ⟨fun _ _ _ _ h => h, fun _ _ h => h⟩
theorem Marked.below {base : Nat} {w w1 w2 : World} (h : Marked base w w1) (hb : Below w1.heap.size w1 w2) : Marked base w w2 := ⟨fun g t cs n k => blk_below (h.other g t cs n k) hb, fun w0 k h0 => below_then (h.under w0 k h0) (h.under w0 k h0).size hb⟩
theorem marks_zero (a : Nat) : marks 0 a = [] := rfl
theorem markQ_walk (base : Nat) (pv : Value) (ps : List Bs) (a : Nat) (w : World) (hq : QRow w base 9 1 pv ps.length (strV ps)) (ha : 0 < a) (hn : a + ps.length ≤ 1099511627776) :
  Calls Tryz.prog 54 #[pv, .int .i64 (a : Int)] w fun e w' => e = .returned (.int .i64 ((a + ps.length : Nat) : Int)) ∧ QRow w' base 9 1 pv ps.length (strV (marks ps.length a)) ∧ Marked base w w' := by
 have hq0 := hq
 rcases hq.2 with ⟨h0, A, rfl, _⟩ | ⟨g, off, cap, cur, rfl, hg, hh, hnc, hcm, hcs, ht⟩
 ·obtain rfl : ps = [] := List.eq_nil_of_length_eq_zero h0
  refine (markS_none A 0 a w).mono ?_
  rintro e w' ⟨rfl, rfl⟩
  exact ⟨by simp, by rw [List.length_nil, marks_zero]; exact hq0, Marked.refl _ _⟩
 ·have hgw : g < w.heap.size := (Array.getElem?_eq_some_iff.1 hh).1
  have hM0 : MarkAt 9 w w g (off * 1) cur.size (strV ps) := by
   refine ⟨⟨cur, hh, rfl, fun j hj => ?_⟩, ⟨rfl, rfl, rfl, Nat.le_refl _, fun _ _ _ => rfl⟩⟩
   have hj' : j < ps.length := by simpa [strV] using hj
   obtain ⟨v, hv⟩ : ∃ v, v = (strV ps)[j] := ⟨_, rfl⟩
   rw [← hv]
   have e1 : (strV ps)[j]? = some v := by rw [hv]; exact List.getElem?_eq_getElem hj
   rw [← ht, List.getElem?_take, if_pos (by omega), List.getElem?_drop, Array.getElem?_toList] at e1
   exact e1
  refine (markS_walk g (off * 1) cap cur.size ps a w hM0 hgw hnc ha hn).mono ?_
  rintro e w' ⟨rfl, hM⟩
  obtain ⟨cur', h1, h2, h3⟩ := hM.row
  refine ⟨rfl, ⟨by simp [strV, marks_len], .inr ⟨g, off, cap, cur', rfl, hg, h1, hnc, hcm, by rw [h2]; exact hcs, ?_⟩⟩, ⟨fun k t cs hne hk => ?_, fun w0 h0 hb => below_by hb (Nat.le_trans h0 hg) hM.far⟩⟩
  ·have hl : (strV (marks ps.length a)).length = ps.length := by simp [strV, marks_len]
   apply List.ext_getElem?
   intro j
   rw [List.getElem?_take]
   by_cases hj : j < ps.length * 1
   ·rw [if_pos hj, List.getElem?_drop, Array.getElem?_toList, h3 j (by omega), List.getElem?_eq_getElem (by omega)]
   ·rw [if_neg hj, List.getElem?_eq_none (by omega)]
  ·exact blk_grown hk hM.far (fun e => blk_ne hk hh hne (Option.some.inj e))
set_option maxHeartbeats 1000000 in
set_option maxRecDepth 100000 in
theorem heldS_walk (pv : Value) (n a : Nat) (w : World) (hP : PathAt w pv (marks n a)) (ha : 0 < a) (hn : a + n ≤ 1099511627776) :
  Calls Tryz.prog 55 #[pv, .int .i64 (a : Int)] w fun e w' => e = .returned (.int .i64 ((a + n : Nat) : Int)) ∧ Below w.heap.size w w' := by
 obtain ⟨A, c, rfl, hc, hk⟩ := hP
 have HP := Lib.hid hk
 rw [marks_len]
 clear hk
 go_enter Tryz.func55, Tryz.ntmps55
 go_wp2
 go_loopw [5, 1] (fun i c wr => ∃ k : Nat, k ≤ n ∧ i = .int .i64 k ∧ c = .int .i64 ((a + k : Nat) : Int) ∧ Below w.heap.size w wr) (fun i _ _ => n - (intOf i).toNat)
 case atStart => exact ⟨0, by omega, rfl, by simp, Below.refl _ _⟩
 case round =>
  obtain ⟨k, hk, rfl, rfl, hb⟩ := hrel
  by_cases hlt : k < n
  ·have hlm : k < (marks n a).length := by rw [marks_len]; exact hlt
   obtain ⟨ad, e0, hcell⟩ := kd_at (Kd.C_below HP.out (below_drew hb)) k hlm
   have hcl2 : Hid (∀ w4, Below w.heap.size w w4 → w4.cell? (ad.add k) = some (.string (B (markB (a + k))))) := Lib.hid fun w4 hb4 => by
    obtain ⟨ad', e0', hcell'⟩ := kd_at (Kd.C_below HP.out hb4) k hlm
    rw [e0] at e0'
    obtain rfl := Option.some.inj e0'
    rw [marks_get n a k hlt] at hcell'
    exact hcell'
   rw [marks_get n a k hlt] at hcell
   subst e0
   have HMT := Lib.hid fun w1 => markText_walk (a + k) w1 (by omega) (by omega)
   have i1 : ((k : Int) < (n : Int)) := by omega
   have it : ((k : Int)).toNat = k := rfl
   have hw1 : IntKind.i64.wrap (((a + k : Nat) : Int) + 1) = ((a + (k + 1) : Nat) : Int) := by rw [i64wrap, w64 (by omega) (by omega)]; omega
   have hbd := Lib.hid (below_drew hb)
   clear hb
   generalize markB (a + k) = x at *
   go_upto_region 4 with fail
   go_region_with ((go_at_call 100; refine (HMT.out _).mono ?_; rintro e w4 ⟨rfl, hb4⟩; have hc4 := hcl2.out w4 (below_then hbd.out hbd.out.size hb4)))
   all_goals
    have HB4 := Lib.hid (below_then hbd.out hbd.out.size hb4)
    go_wp2
    go_roundw
    case rel => exact ⟨k + 1, by omega, by go_num, by go_num, HB4.out⟩
    case measure => simp only [intOf]; omega
  ·obtain rfl : k = n := by omega
   have hn2 : decide ((k : Int) < (k : Int)) = false := decide_eq_false (by omega)
   go_wp2
   go_ret
   exact ⟨rfl, hb⟩
set_option maxRecDepth 100000 in
theorem markUrl_walk (u : Ur) (base : Nat) (pv : Value) (a : Nat) (w : World) (hq : QRow w base 9 1 pv u.path.length (strV u.path)) (hlt : base ≤ w.heap.size) (ha : 0 < a) (hn : a + u.path.length ≤ 1099511627776) :
  Calls Tryz.prog 20 #[.agg (uCells u pv), .int .i64 (a : Int)] w fun e w' => e = .returned (.int .i64 ((a + u.path.length : Nat) : Int)) ∧ QRow w' base 9 1 pv u.path.length (strV (marks u.path.length a)) ∧ Marked base w w' := by
 have K0 : Blk (w.alloc (.cells (uCells u pv) 28)) w.heap.size (uCells u pv) := blk_new w _
 have hb0 := below_alloc (Below.refl w.heap.size w) (.cells (uCells u pv) 28)
 have hq1 := q_below hq hb0
 have HM0 : Marked base w (w.alloc (.cells (uCells u pv) 28)) := (Marked.refl base w).below hb0
 have HQ := Lib.hid hq1
 have HMM := Lib.hid HM0
 clear hb0 hq1 HM0 hq
 unfold uCells at *
 go_enter Tryz.func20, Tryz.ntmps20
 go_upto_region 1 with fail
 generalize w.alloc _ = w1 at K0 HQ HMM ⊢
 have kc := K0.cells.1
 go_wp2_with fail
 refine (markQ_walk base pv u.path a w1 HQ.out ha hn).mono ?_
 rintro e w2 ⟨rfl, hq2, hm2⟩
 have H2 := Lib.hid (And.intro hq2 (Marked.mk (fun g t cs n h => hm2.other g t cs n (HMM.out.other g t cs n h)) (fun w0 k h => hm2.under w0 k (HMM.out.under w0 k h)) : Marked base w w2))
 clear hq2 hm2
 go_wp2
 go_ret
 exact ⟨rfl, H2.out⟩
set_option maxRecDepth 100000 in
theorem heldUrl_walk (u : Ur) (pv : Value) (a : Nat) (w : World) (hP : PathAt w pv (marks u.path.length a)) (ha : 0 < a) (hn : a + u.path.length ≤ 1099511627776) :
  Calls Tryz.prog 21 #[.agg (uCells u pv), .int .i64 (a : Int)] w fun e w' => e = .returned (.int .i64 ((a + u.path.length : Nat) : Int)) ∧ Below w.heap.size w w' := by
 have K0 : Blk (w.alloc (.cells (uCells u pv) 28)) w.heap.size (uCells u pv) := blk_new w _
 have hb0 := below_alloc (Below.refl w.heap.size w) (.cells (uCells u pv) 28)
 have HP := Lib.hid (hP.below hb0)
 have HB := Lib.hid hb0
 clear hb0 hP
 obtain ⟨m, HM⟩ : ∃ m : Int, Hid (m = ((a + u.path.length : Nat) : Int)) := ⟨_, Lib.hid rfl⟩
 rw [← HM.out]
 unfold uCells at *
 go_enter Tryz.func21, Tryz.ntmps21
 go_upto_region 1 with fail
 generalize w.alloc _ = w1 at K0 HP HB ⊢
 have kc := K0.cells.1
 go_wp2_with fail
 refine (heldS_walk pv u.path.length a w1 HP.out ha hn).mono ?_
 rintro e w2 ⟨rfl, hb2⟩
 have HB2 := Lib.hid (below_then HB.out HB.out.size hb2)
 rw [← HM.out]
 have hd : decide (m < 0) = false := decide_eq_false (by have := HM.out; omega)
 clear hb2
 go_wp2
 go_ret
 exact ⟨rfl, HB2.out⟩
end Go.Proofs.YteldemgdcpmmfaaGreatDoor.H
/- laws.FnExactUrlGet: the call comes to true, whatever the text; the package-level variables read as their tables. -/
set_option linter.unusedVariables false
namespace Go.Proofs.YteldemgdcpmmfaaGreatDoor.H
open Go.RowKit Go.Proofs.YteldemgdcpmmfaaGreatDoor.HS Go.Proofs.YteldemgdcpmmfaaGreatDoorW.PrintWords Go.Proofs.YteldemgdcpmmfaaGreatDoor.Base Go.Proofs.YteldemgdcpmmfaaGreatDoor.Pure
theorem uG_new (w : World) (cs : Array Value) : Blk (w.alloc (.cells cs 28)) w.heap.size cs ∧ Below w.heap.size w (w.alloc (.cells cs 28)) := ⟨blk_new w _, below_alloc (Below.refl _ _) _⟩
theorem Marked.blk {base : Nat} {w w' : World} {g : Nat} {cs : Array Value} (h : Marked base w w') (k : Blk w g cs) : Blk w' g cs := h.other g _ cs (by decide) k
set_option maxHeartbeats 4000000 in
set_option maxRecDepth 100000 in
theorem FnExactUrlGet_walk (l : Bs) (w : World) (hl : l.length ≤ 9223372036854775807) (hT : Tabs w) :
  Calls Tryz.prog 4 #[.string (B l)] w fun e w' => e = .returned (.bool true) ∧ Below w.heap.size w w' := by
 by_cases hbig : 1048576 < l.length
 ·have hd : decide (1048576 < (l.length : Int)) = true := decide_eq_true (by omega)
  go_enter Tryz.func4, Tryz.ntmps4
  go_wp2
  go_ret
  exact ⟨rfl, Below.refl _ _⟩
 have hd : decide (1048576 < (l.length : Int)) = false := decide_eq_false (by omega)
 have HSP := Lib.hid fun w1 => specUrlGet_walk l w1 (by omega)
 have HIM := Lib.hid fun w1 (hb : Below w.heap.size w w1) => implUrlGet_walk l w1 (by omega) (hT.s.below hb) (hT.m.below hb) (hT.i.below hb)
 have h12 := urlG_12 l
 generalize urlG l = y at HSP HIM h12
 obtain ⟨u, ok⟩ := y
 dsimp only at HSP HIM h12
 have HEQ := Lib.hid fun qv rv w1 (hQ : PathAt w1 qv u.path) (hR : PathAt w1 rv u.path) => eqUrl_walk u qv rv w1 hQ hR (by omega)
 obtain ⟨m, HM⟩ : ∃ m : Int, Hid (m = ((1 + u.path.length : Nat) : Int)) := ⟨_, Lib.hid rfl⟩
 have HMK := Lib.hid fun base pv w1 hq hle => markUrl_walk u base pv 1 w1 hq hle (by omega) (by omega)
 have HHD := Lib.hid fun pv w1 hP => heldUrl_walk u pv 1 w1 hP (by omega) (by omega)
 rw [← HM.out] at HMK HHD
 have hm0 : decide (m < 0) = false := decide_eq_false (by have := HM.out; omega)
 clear hT hbig h12
 go_enter Tryz.func4, Tryz.ntmps4
 go_wp2_with fail
 refine (HSP.out _).mono ?_
 rintro e w1 ⟨pvW, rfl, hq1, hb1⟩
 obtain ⟨A1, c1, rfl, _⟩ := q_slice hq1
 obtain ⟨K3, hba⟩ := uG_new w1 (uCells u (.slice A1 u.path.length c1))
 have hW := pathAt_q (q_below hq1 hba)
 have HB2 := below_then hb1 hb1.size hba
 clear hq1 hb1 hba
 unfold uCells at K3 HB2 hW ⊢
 go_upto_region 4 with fail
 generalize w1.alloc _ = w2 at K3 HB2 hW ⊢
 generalize w1.heap.size = g3 at K3 ⊢
 go_wp2_with fail
 refine (HIM.out _ HB2).mono ?_
 rintro e w3 ⟨pvG, rfl, hq3, hb3⟩
 obtain ⟨A2, c2, rfl, _⟩ := q_slice hq3
 obtain ⟨K5, hba⟩ := uG_new w3 (uCells u (.slice A2 u.path.length c2))
 have K34 := (K3.below hb3).below hba
 have hq4 := q_below hq3 hba
 have hb24 := below_then hb3 hb3.size hba
 have HB4 := below_then HB2 HB2.size hb24
 have hle4 := hb24.size
 clear hq3 hb3 hba
 unfold uCells at K5 HB4 hq4 K34 hb24 hle4 ⊢
 go_upto_region 5 with fail
 generalize w3.alloc _ = w4 at K5 HB4 hq4 K34 hb24 hle4 ⊢
 generalize w3.heap.size = g5 at K5 ⊢
 have kc3 := K34.cells.1
 have kc5 := K5.cells.1
 go_wp2_with fail
 refine (HEQ.out _ _ _ (pathAt_q hq4) (hW.below hb24)).mono ?_
 rintro e w5 ⟨rfl, hb5⟩
 have K35 := K34.below hb5
 have K55 := K5.below hb5
 have hq5 := q_below hq4 hb5
 have hb25 := below_then hb24 hb24.size hb5
 have HB5 := below_then HB4 HB4.size hb5
 have hle5 := hb25.size
 clear kc3 kc5 K34 K5 hq4 hb24 HB4 hb5 hle4
 have kc5 := K55.cells.1
 go_wp2_with fail
 refine (HMK.out w2.heap.size _ w5 hq5 hle5).mono ?_
 rintro e w6 ⟨rfl, hq6, hm6⟩
 have K36 := hm6.blk K35
 have K56 := hm6.blk K55
 have hb26 := hm6.under w2 (Nat.le_refl _) hb25
 have HB6 := hm6.under w HB2.size HB5
 clear kc5 K35 K55 hq5 hb25 HB5 hle5 hm6
 have kc5 := K56.cells.1
 have hq6' : PathAt w6 (.slice A2 u.path.length c2) (marks u.path.length 1) := pathAt_q (base := w2.heap.size) (by rw [marks_len]; exact hq6)
 have HQ6 := Lib.hid hq6'
 clear hq6 hq6'
 go_wp2_with fail
 refine (HHD.out _ _ HQ6.out).mono ?_
 rintro e w7 ⟨rfl, hb7⟩
 have K37 := K36.below hb7
 have K57 := K56.below hb7
 have hb27 := below_then hb26 hb26.size hb7
 have HB7 := below_then HB6 HB6.size hb7
 have HQ7 := Lib.hid (HQ6.out.below hb7)
 clear kc5 K36 K56 hb26 HB6 hb7 HQ6
 go_wp2_with fail
 refine (HIM.out _ HB7).mono ?_
 rintro e w8 ⟨pvH, rfl, hq8, hb8⟩
 obtain ⟨A3, c3, rfl, _⟩ := q_slice hq8
 obtain ⟨K9, hba⟩ := uG_new w8 (uCells u (.slice A3 u.path.length c3))
 have K39 := (K37.below hb8).below hba
 have K59 := (K57.below hb8).below hba
 have hH := pathAt_q (q_below hq8 hba)
 have hb79 := below_then hb8 hb8.size hba
 have hb29 := below_then hb27 hb27.size hb79
 have HB9 := below_then HB7 HB7.size hb79
 have HQ9 := Lib.hid (HQ7.out.below hb79)
 clear hq8 hb8 hba K37 K57 hb27 HB7 HQ7 hb79
 unfold uCells at K9 HB9 K39 K59 hH hb29 HQ9 ⊢
 go_upto_region 16 with fail
 generalize w8.alloc _ = w9 at K9 HB9 K39 K59 hH hb29 HQ9 ⊢
 generalize w8.heap.size = g9 at K9 ⊢
 have kc3 := K39.cells.1
 have kc9 := K9.cells.1
 go_wp2_with fail
 refine (HEQ.out _ _ _ hH (hW.below hb29)).mono ?_
 rintro e w10 ⟨rfl, hb10⟩
 have K510 := K59.below hb10
 have HB10 := below_then HB9 HB9.size hb10
 have HQ10 := Lib.hid (HQ9.out.below hb10)
 clear kc3 kc9 K39 K9 hH hb29 HQ9 hb10 HB9 K59
 have kc5 := K510.cells.1
 go_wp2_with fail
 refine (HHD.out _ _ HQ10.out).mono ?_
 rintro e w11 ⟨rfl, hb11⟩
 have HB11 := Lib.hid (below_then HB10 HB10.size hb11)
 clear hb11 HB10 kc5 K510
 go_wp2
 go_ret
 exact ⟨rfl, HB11.out⟩
end Go.Proofs.YteldemgdcpmmfaaGreatDoor.H
