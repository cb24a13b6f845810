/- laws.markText: the call comes to an m and the number's decimals, for numbers from 1 to 2^40. · laws.markStringS: the call writes a mark into each string of a row of one's own, which may begin and end inside its block. · laws.markPairS: the call writes two marks into each pair of a row of one's own, which may begin and end inside its block. -/
import Derived.Test.YtekeimhhffnjpaaDoorLmx1
import Derived.Test.YtekeimhhffnjpaaDoorBase
import Derived.Lib.ItoaNum
import Derived.Test.YtekeimhhffnjpaaDoorHLib
import Derived.Test.YtekeimhhffnjpaaDoorWMore
import Derived.Test.YtekeimhhffnjpaaDoorWKept
import Derived.Tactics
import Derived.KernelRfl
import Derived.RowKit3
import Derived.Deep.LoopGhost
import Derived.Laws.Slices
import Derived.Laws.Rows
import Derived.RowKit
import Derived.Outline
import Derived.Lib.Hide
import Derived.Test.YtekeimhhffnjpaaDoorHFrm
set_option linter.unusedVariables false
set_option linter.unusedSimpArgs false
namespace Go.Proofs.YtekeimhhffnjpaaDoor.HS
open Go.RowKit Go.Proofs.YtekeimhhffnjpaaDoor.Lm Go.Proofs.YtekeimhhffnjpaaDoorW.PrintWords Go.Proofs.YtekeimhhffnjpaaDoorW.PrintLast Go.Proofs.YtekeimhhffnjpaaDoor.Base
def markB (n : Nat) : Bs := 109 :: Lib.decDigits n
def dz (n : Nat) : Bs := if n = 0 then [] else Lib.decDigits n
theorem dz_step (n : Nat) (h : 0 < n) : dz n = dz (n / 10) ++ [UInt8.ofNat (48 + n % 10)] := by
  unfold dz
  rw [if_neg (by omega), Lib.decDigits]
  by_cases c : n < 10
  · rw [dif_pos c, if_pos (by omega), Nat.mod_eq_of_lt c]; rfl
  · rw [dif_neg c, if_neg (by omega)]
theorem mark_l0 (n : Nat) : ∀ acc : Bs, n ≤ 1099511627776 → acc.length + n ≤ 2199023255552 → Ev (fun k => laws_markText.l0 k (n : Int) (B acc)) (B (109 :: (dz n ++ acc))) := by
  induction n using Nat.strongRecOn with
  | _ n ih =>
    intro acc hn hl
    refine Ev.step (fun k => by rw [laws_markText.l0]) ?_
    by_cases h : 0 < n
    · have e1 : wrap64 (Int.tdiv (n : Int) 10) = ((n / 10 : Nat) : Int) := by
        rw [Int.tdiv_eq_ediv_of_nonneg (by omega), w64 (by omega) (by omega)]; rfl
      have e2 : Int.tmod (n : Int) 10 = ((n % 10 : Nat) : Int) := by rw [Int.tmod_eq_emod_of_nonneg (by omega)]; rfl
      have e3 : strOfNums [wrap64 (48 + ((n % 10 : Nat) : Int)) % 256] = B [UInt8.ofNat (48 + n % 10)] := by
        have e : wrap64 (48 + ((n % 10 : Nat) : Int)) % 256 = (((UInt8.ofNat (48 + n % 10)).toNat : Nat) : Int) := by
          rw [w64 (by omega) (by omega)]; simp
        rw [e]
        exact str_ns [UInt8.ofNat (48 + n % 10)]
      simp only [if_pos (show (n : Int) > 0 by omega), e1, e2, e3, Option.bind_some, B_size, B_append, List.length_singleton]
      simp only [if_pos (show 1 + acc.length ≤ 9223372036854775807 by omega)]
      have := ih (n / 10) (by omega) ([UInt8.ofNat (48 + n % 10)] ++ acc) (by omega) (by simp; omega)
      rw [dz_step n h, List.append_assoc]
      exact this
    · have k109 : (⟨#[109]⟩ : ByteArray) = B [109] := rfl
      obtain rfl : n = 0 := by omega
      simp only [if_neg (show ¬ ((0 : Nat) : Int) > 0 by omega), k109, B_size, B_append, if_pos (show 1 + acc.length ≤ 9223372036854775807 by omega)]
      exact Ev.now _
theorem markText_ev (n : Nat) (h0 : 0 < n) (hn : n ≤ 1099511627776) : Ev (fun k => laws_markText.f k (n : Int)) (B (markB n)) := by
  unfold laws_markText.f
  simp only [if_neg (show ¬ (n : Int) ≤ 0 by omega)]
  have := mark_l0 n [] hn (by simp; omega)
  have e : dz n ++ [] = Lib.decDigits n := by unfold dz; rw [if_neg (by omega), List.append_nil]
  rw [e] at this
  exact this
theorem markText_walk (n : Nat) (w : World) (h0 : 0 < n) (hn : n ≤ 1099511627776) :
    Calls Tryd.prog 66 #[.int .i64 (n : Int)] w fun e w' => e = .returned (.string (B (markB n))) ∧ Below w.heap.size w w' := by
  obtain ⟨K, hK⟩ := markText_ev n h0 hn
  exact laws_markText.calls K _ _ w (hK K (Nat.le_refl _))
/-- Marks from k on. -/
def marks (n k : Nat) : List Bs := (List.range n).map fun i => markB (k + i)
theorem marks_len (n k : Nat) : (marks n k).length = n := by simp [marks]
theorem marks_get (n k i : Nat) (h : i < n) : (marks n k)[i]'(by rw [marks_len]; exact h) = markB (k + i) := by simp [marks]
end Go.Proofs.YtekeimhhffnjpaaDoor.HS
set_option linter.unusedVariables false
namespace Go.Proofs.YtekeimhhffnjpaaDoor.H
open Go.RowKit Go.Proofs.YtekeimhhffnjpaaDoor.HS Go.Proofs.YtekeimhhffnjpaaDoorW.PrintWords Go.Proofs.YtekeimhhffnjpaaDoor.Base
/-- Block g holds these values from off on; all else that was there is as it was. -/
structure MarkAt (e : Nat) (w W : World) (g off size : Nat) (vs : List Value) : Prop where
  row : ∃ cur, W.heap[g]? = some (.cells cur e (0, 0)) ∧ cur.size = size ∧ ∀ j (h : j < vs.length), cur[off + j]? = some vs[j]
  far : w.grownBy W (some g)
theorem MarkAt.below {e : Nat} {w W W1 : World} {g off size : Nat} {vs : List Value} (h : MarkAt e w W g off size vs) (hg : g < w.heap.size) (hb : Below W.heap.size W W1) : MarkAt e w W1 g off size vs := by
  have hgw : g < W.heap.size := Nat.lt_of_lt_of_le hg h.far.size
  obtain ⟨cur, h1, h2⟩ := h.row
  refine ⟨⟨cur, (hb.block g hgw).trans h1, h2⟩, ⟨hb.os.trans h.far.os, hb.tape.trans h.far.tape, hb.output.trans h.far.output, Nat.le_trans h.far.size hb.size, fun k hk hne => ?_⟩⟩
  exact (hb.block k (Nat.lt_of_lt_of_le hk h.far.size)).trans (h.far.block k hk hne)
theorem MarkAt.cell {e : Nat} {w W : World} {g off size : Nat} {vs : List Value} (h : MarkAt e w W g off size vs) (j : Nat) (hj : j < vs.length) : W.cell? ⟨g, off + j, none⟩ = some vs[j] ∧ W.frozen? ⟨g, off + j, none⟩ = false := by
  obtain ⟨cur, h1, _, h3⟩ := h.row
  refine ⟨by rw [Lib.cell_of_heap h1]; exact h3 j hj, Lib.frozen_of_heap h1 _⟩
theorem MarkAt.set {e : Nat} {w W : World} {g off size : Nat} {vs : List Value} (h : MarkAt e w W g off size vs) (j : Nat) (hj : j < vs.length) (v : Value) : MarkAt e w (W.setCell ⟨g, off + j, none⟩ v) g off size (vs.set j v) := by
  obtain ⟨cur, h1, h2, h3⟩ := h.row
  refine ⟨⟨cur.setIfInBounds (off + j) v, blk_set h1 (off + j) v, by simp [h2], fun i hi => ?_⟩, ⟨h.far.os, h.far.tape, h.far.output, by have := h.far.size; simp [World.setCell]; exact this, fun k hk hne => ?_⟩⟩
  · have hi' : i < vs.length := by simpa using hi
    by_cases q : i = j
    · subst q
      have hlt : off + i < cur.size := by
        rcases Nat.lt_or_ge (off + i) cur.size with h' | h'
        · exact h'
        · have := h3 i hi'; rw [Array.getElem?_eq_none h'] at this; cases this
      rw [Array.getElem?_setIfInBounds, if_pos rfl, if_pos hlt]; simp
    · rw [Array.getElem?_setIfInBounds, if_neg (by omega), h3 i hi', List.getElem_set_ne (fun z => q z.symm)]
  · exact (Below.heap_setCell W ⟨g, off + j, none⟩ v k (fun q => hne (by rw [q]))).trans (h.far.block k hk hne)
theorem strV_set (xs : List Bs) (k a : Nat) (h : k < xs.length) : (strV (marks k a ++ xs.drop k)).set k (.string (B (markB (a + k)))) = strV (marks (k + 1) a ++ xs.drop (k + 1)) := by
  have h1 : marks (k + 1) a = marks k a ++ [markB (a + k)] := by unfold marks; rw [List.range_succ, List.map_append]; rfl
  rw [h1, List.drop_eq_getElem_cons h]
  unfold strV
  have hl : ((marks k a).map fun s => Value.string (B s)).length = k := by rw [List.length_map, marks_len]
  rw [List.map_append, List.map_append, List.map_append, List.set_append_right _ _ (by rw [hl]; exact Nat.le_refl _), hl, Nat.sub_self, List.append_assoc]
  rfl
theorem strV_at (xs : List Bs) (k a : Nat) (h : k < xs.length) (h' : k < (strV (marks k a ++ xs.drop k)).length) : (strV (marks k a ++ xs.drop k))[k] = .string (B xs[k]) := by
  simp only [strV]
  rw [List.getElem_map, List.getElem_append_right (by rw [marks_len]; exact Nat.le_refl _)]
  simp [marks_len]
set_option maxHeartbeats 1000000 in
set_option maxRecDepth 100000 in
theorem markS_walk (g off cap size : Nat) (xs : List Bs) (a : Nat) (w : World) (h0 : MarkAt 9 w w g off size (strV xs)) (hg : g < w.heap.size) (hcap : xs.length ≤ cap) (ha : 0 < a) (hn : a + xs.length ≤ 1099511627776) :
    Calls Tryd.prog 32 #[.slice (some ⟨g, off, none⟩) xs.length cap, .int .i64 (a : Int)] w fun e w' => e = .returned (.int .i64 ((a + xs.length : Nat) : Int)) ∧ MarkAt 9 w w' g off size (strV (marks xs.length a)) := by
  have HM0 := Lib.hid h0
  have hz : ((xs.length : Nat) : Int) ≤ 1099511627776 := by omega
  clear h0
  go_enter Tryd.func32, Tryd.ntmps32
  go_wp2
  go_loopw [5, 1] (fun i c wr => ∃ k : Nat, k ≤ xs.length ∧ i = .int .i64 k ∧ c = .int .i64 ((a + k : Nat) : Int) ∧ MarkAt 9 w wr g off size (strV (marks k a ++ xs.drop k))) (fun i _ _ => xs.length - (intOf i).toNat)
  case atStart => exact ⟨0, by omega, rfl, by simp, by simpa [marks] using HM0.out⟩
  case round =>
    obtain ⟨k, hk, rfl, rfl, hm⟩ := hrel
    by_cases hlt : k < xs.length
    · have HM := Lib.hid hm
      clear hm
      go_wp2_with fail
      refine (markText_walk (a + k) wr (by omega) (by omega)).mono ?_
      rintro e w4 ⟨rfl, hb4⟩
      have hm4 := HM.out.below hg hb4
      have hlen : k < (strV (marks k a ++ xs.drop k)).length := by simp [strV, marks_len]; omega
      have hcf := hm4.cell k hlen
      have hc := hcf.1
      have hf := hcf.2
      rw [strV_at xs k a hlt hlen] at hc
      have hset := hm4.set k hlen (.string (B (markB (a + k))))
      rw [strV_set xs k a hlt] at hset
      have HS := Lib.hid hset
      have hw1 : IntKind.i64.wrap (((a + k : Nat) : Int) + 1) = ((a + (k + 1) : Nat) : Int) := by rw [i64wrap, w64 (by omega) (by omega)]; omega
      clear hset hcf hm4 hb4 HM
      go_wp2
      go_roundw
      case rel => exact ⟨k + 1, by omega, by go_num, by go_num, HS.out⟩
      case measure => simp [intOf]; omega
    · obtain rfl : k = xs.length := by omega
      have e : marks xs.length a ++ xs.drop xs.length = marks xs.length a := by simp
      rw [e] at hm
      have HM := Lib.hid hm
      clear hm
      go_wp2
      go_ret
      exact ⟨rfl, HM.out⟩
set_option maxRecDepth 100000 in
theorem markS_none (A : Option Addr) (c : Nat) (a : Int) (w : World) :
    Calls Tryd.prog 32 #[.slice A 0 c, .int .i64 a] w fun e w' => e = .returned (.int .i64 a) ∧ w' = w := by
  go_enter Tryd.func32, Tryd.ntmps32
  go_wp2
  go_loopw [5, 1] (fun i k wr => i = .int .i64 ((0 : Nat) : Int) ∧ k = .int .i64 a ∧ wr = w) (fun i _ _ => (intOf i).toNat)
  case atStart => exact ⟨rfl, rfl, rfl⟩
  case round =>
    obtain ⟨rfl, rfl, rfl⟩ := hrel
    go_wp2
    go_ret
    exact ⟨rfl, rfl⟩
theorem reps_strs {ps : List ByteArray} {cs : List Value} (h : Reps (fun (x : ByteArray) (c : List Value) => c = [Value.string x]) 1 ps cs) : cs = ps.map Value.string := by
  obtain ⟨h1, h2⟩ := h
  rw [Nat.mul_one] at h1
  apply List.ext_getElem (by rw [List.length_map]; exact h1)
  intro j hj hj'
  have hj2 : j < ps.length := by simpa using hj'
  have h3 : List.take 1 (List.drop (j * 1) cs) = [Value.string ps[j]] := h2 j ps[j] (List.getElem?_eq_getElem hj2)
  rw [Nat.mul_one, List.drop_eq_getElem_cons hj] at h3
  have h5 : List.take 1 (cs[j] :: List.drop (j + 1) cs) = [cs[j]] := rfl
  rw [h5] at h3
  have h4 : cs[j] = Value.string ps[j] := (List.cons.inj h3).1
  rw [h4, List.getElem_map]
def laws_markStringS.f (l0 : List ByteArray) (a1 : Int) : Option (Int × List ByteArray) := if 1 ≤ a1 ∧ a1 + (l0.length : Int) ≤ 1099511627776 then some (a1 + (l0.length : Int), (marks l0.length a1.toNat).map B) else none
theorem laws_markStringS.calls (P0_ : Nat → Prop) (u9000_ : Value) (l0 : List ByteArray) (a1 : Int) (r1 : Int) (r2 : List ByteArray) (w0 w : World) (hB : Below w0.heap.size w0 w) (ho0 : Kd.Q Kd.string 9 w w0.heap.size P0_ u9000_ l0) (h : laws_markStringS.f l0 a1 = some (r1, r2)) :
    Calls Tryd.prog 32 #[u9000_, .int .i64 a1] w fun e w' => e = .returned (.int .i64 r1) ∧ Kd.Q Kd.string 9 w' w0.heap.size (fun k_ => (P0_ k_ ∨ w.heap.size ≤ k_)) u9000_ r2 ∧ Below w0.heap.size w0 w' ∧ Kept w w' (fun k_ => P0_ k_) := by
  unfold laws_markStringS.f at h
  by_cases hc : 1 ≤ a1 ∧ a1 + (l0.length : Int) ≤ 1099511627776
  case neg => rw [if_neg hc] at h; cases h
  rw [if_pos hc] at h
  obtain ⟨rfl, rfl⟩ := Prod.mk.inj (Option.some.inj h)
  obtain ⟨a, rfl⟩ := Int.eq_ofNat_of_zero_le (show 0 ≤ a1 by omega)
  have hQ := ho0
  obtain ⟨hP, inner, hq, hr⟩ := ho0
  have hin := reps_strs hr
  by_cases hz : l0.length = 0
  · obtain ⟨A, c, rfl, _⟩ := q_slice hq
    obtain rfl : l0 = [] := List.eq_nil_of_length_eq_zero hz
    refine (markS_none A c a w).mono ?_
    rintro e w' ⟨rfl, rfl⟩
    exact ⟨by simp, Kd.Q_mono hQ (fun k hk => Or.inl hk), hB, Kept.refl _ _⟩
  · rcases hq.2 with ⟨h0, _⟩ | ⟨g, off, cap, cur, rfl, hg, hh, hnc, hcm, hcs, ht⟩
    · exact absurd h0 hz
    have hgw : g < w.heap.size := (Array.getElem?_eq_some_iff.1 hh).1
    have hst : strV (l0.map fun s => s.data.toList) = inner := by
      rw [hin]; unfold strV; rw [List.map_map]
      exact List.map_congr_left fun s _ => by show Value.string (B s.data.toList) = Value.string s; rw [← eq_B]
    have hM0 : MarkAt 9 w w g (off * 1) cur.size (strV (l0.map fun s => s.data.toList)) := by
      refine ⟨⟨cur, hh, rfl, fun j hj => ?_⟩, ⟨rfl, rfl, rfl, Nat.le_refl _, fun _ _ _ => rfl⟩⟩
      have hj' : j < l0.length := by simpa [strV] using hj
      have e1 : (strV (l0.map fun s => s.data.toList))[j]? = some (strV (l0.map fun s => s.data.toList))[j] := List.getElem?_eq_getElem hj
      have hsz : l0.length * Kd.string.sz = l0.length := Nat.mul_one _
      rw [← e1, hst, ← ht, List.getElem?_take, if_pos (by rw [hsz]; exact hj'), List.getElem?_drop, Array.getElem?_toList]
      rfl
    have hW := markS_walk g (off * 1) cap cur.size (l0.map fun s => s.data.toList) a w hM0 hgw (by rw [List.length_map]; exact hnc) (by omega) (by rw [List.length_map]; omega)
    rw [List.length_map] at hW
    refine hW.mono ?_
    rintro e w' ⟨rfl, hm⟩
    obtain ⟨cur', g1, g2, g3⟩ := hm.row
    have hPg := hP g rfl
    have hlen : (strV (marks l0.length a)).length = l0.length := by rw [strV_len, marks_len]
    refine ⟨by simp, ⟨fun k hk => Or.inl (hP k hk), encs Value.string ((marks l0.length a).map B), ⟨by simp [encs, marks_len]; exact (Nat.mul_one _).symm, .inr ⟨g, off, cap, cur', by simp [marks_len], hg, g1, by simp [marks_len]; exact hnc, hcm, by rw [g2]; exact hcs, ?_⟩⟩, Kd.reps_scalar _⟩, hB.grown hm.far (by have := hB.size; omega) (fun k hk => by cases hk; exact hg), ⟨hm.far.size, fun i hi hni => hm.far.block i hi (fun q => hni (by cases q; exact hPg))⟩⟩
    have e : encs Value.string ((marks l0.length a).map B) = strV (marks l0.length a) := by simp [encs, strV]
    have hcs1 : (off + cap) * 1 ≤ cur.size := hcs
    have hlt' : cur'.toList.length = cur.size := by rw [Array.length_toList]; exact g2
    have hb0 : off * 1 + l0.length ≤ cur'.toList.length := by omega
    show (cur'.toList.drop (off * 1)).take (((marks l0.length a).map B).length * 1) = _
    rw [e]
    apply List.ext_getElem (by rw [hlen, List.length_take, List.length_drop]; simp [marks_len]; omega)
    intro j hj hj'
    rw [← Option.some_inj, ← List.getElem?_eq_getElem, ← g3 j hj', List.getElem?_take, if_pos (by simp [marks_len]; rw [hlen] at hj'; omega), List.getElem?_drop, Array.getElem?_toList]
end Go.Proofs.YtekeimhhffnjpaaDoor.H
set_option linter.unusedVariables false
namespace Go.Proofs.YtekeimhhffnjpaaDoor.H
open Go.RowKit Go.Proofs.YtekeimhhffnjpaaDoor.HS Go.Proofs.YtekeimhhffnjpaaDoorW.PrintWords Go.Proofs.YtekeimhhffnjpaaDoor.Base
def marksP (n k : Nat) : List (Bs × Bs) := (List.range n).map fun i => (markB (k + 2 * i), markB (k + 2 * i + 1))
theorem marksP_len (n k : Nat) : (marksP n k).length = n := by simp [marksP]
theorem pairV_app (a b : List (Bs × Bs)) : pairV (a ++ b) = pairV a ++ pairV b := by simp [pairV]
theorem pairV_cons (p : Bs × Bs) (t : List (Bs × Bs)) : pairV (p :: t) = .string (B p.1) :: .string (B p.2) :: pairV t := rfl
theorem set_two {α : Type} (A R : List α) (x y u v : α) (k : Nat) (h : A.length = k) : ((A ++ x :: y :: R).set k u).set (k + 1) v = A ++ u :: v :: R := by
  subst h
  rw [List.set_append_right _ _ (Nat.le_refl _), Nat.sub_self, List.set_cons_zero, List.set_append_right _ _ (by omega)]
  have : A.length + 1 - A.length = 1 := by omega
  rw [this]; rfl
theorem pairV_at (xs : List (Bs × Bs)) (k a : Nat) (h : k < xs.length) : pairV (marksP k a ++ xs.drop k) = pairV (marksP k a) ++ .string (B xs[k].1) :: .string (B xs[k].2) :: pairV (xs.drop (k + 1)) := by
  rw [pairV_app, List.drop_eq_getElem_cons h, pairV_cons]
theorem pairV_next (xs : List (Bs × Bs)) (k a : Nat) : pairV (marksP (k + 1) a ++ xs.drop (k + 1)) = pairV (marksP k a) ++ .string (B (markB (a + 2 * k))) :: .string (B (markB (a + 2 * k + 1))) :: pairV (xs.drop (k + 1)) := by
  have h1 : marksP (k + 1) a = marksP k a ++ [(markB (a + 2 * k), markB (a + 2 * k + 1))] := by unfold marksP; rw [List.range_succ, List.map_append]; rfl
  rw [h1, pairV_app, pairV_app, List.append_assoc]; rfl
set_option maxHeartbeats 2000000 in
set_option maxRecDepth 100000 in
theorem markP_walk (g off cap size : Nat) (xs : List (Bs × Bs)) (a : Nat) (w : World) (h0 : MarkAt 71 w w g off size (pairV xs)) (hg : g < w.heap.size) (hcap : xs.length ≤ cap) (ha : 0 < a) (hn : a + 2 * xs.length ≤ 1099511627776) :
    Calls Tryd.prog 24 #[.slice (some ⟨g, off, none⟩) xs.length cap, .int .i64 (a : Int)] w fun e w' => e = .returned (.int .i64 ((a + 2 * xs.length : Nat) : Int)) ∧ MarkAt 71 w w' g off size (pairV (marksP xs.length a)) := by
  have HM0 := Lib.hid h0
  have hz : ((xs.length : Nat) : Int) ≤ 1099511627776 := by omega
  clear h0
  go_enter Tryd.func24, Tryd.ntmps24
  go_wp2
  go_loopw [5, 1] (fun i c wr => ∃ k : Nat, k ≤ xs.length ∧ i = .int .i64 k ∧ c = .int .i64 ((a + 2 * k : Nat) : Int) ∧ MarkAt 71 w wr g off size (pairV (marksP k a ++ xs.drop k))) (fun i _ _ => xs.length - (intOf i).toNat)
  case atStart => exact ⟨0, by omega, rfl, by simp, by simpa [marksP] using HM0.out⟩
  case round =>
    obtain ⟨k, hk, rfl, rfl, hm⟩ := hrel
    by_cases hlt : k < xs.length
    · have HM := Lib.hid hm
      clear hm
      go_wp2_with fail
      refine (markText_walk (a + 2 * k) wr (by omega) (by omega)).mono ?_
      rintro e w4 ⟨rfl, hb4⟩
      have hm4 := HM.out.below hg hb4
      have hlen : (pairV (marksP k a ++ xs.drop k)).length = (k + (xs.length - k)) * 2 := by rw [pairV_len, List.length_append, marksP_len, List.length_drop]
      have hpl : (pairV (marksP k a)).length = k * 2 := by rw [pairV_len, marksP_len]
      have hl0 : k * 2 < (pairV (marksP k a ++ xs.drop k)).length := by rw [hlen]; omega
      have hl1 : k * 2 + 1 < (pairV (marksP k a ++ xs.drop k)).length := by rw [hlen]; omega
      obtain ⟨v0, hv0⟩ : ∃ v0 : ByteArray, (pairV (marksP k a ++ xs.drop k))[k * 2] = .string v0 := ⟨B xs[k].1, by
        have e := pairV_at xs k a hlt
        simp only [e]
        rw [List.getElem_append_right (by omega)]
        simp [hpl]⟩
      have hcf := hm4.cell (k * 2) hl0
      have hc := hcf.1
      have hf := hcf.2
      rw [hv0] at hc
      have hset := hm4.set (k * 2) hl0 (.string (B (markB (a + 2 * k))))
      have HS := Lib.hid hset
      have hw1 : IntKind.i64.wrap (((a + 2 * k : Nat) : Int) + 1) = ((a + 2 * k + 1 : Nat) : Int) := by rw [i64wrap, w64 (by omega) (by omega)]; omega
      clear hset hcf hm4 hb4 HM
      go_wp2_with fail
      refine (markText_walk (a + 2 * k + 1) _ (by omega) (by omega)).mono ?_
      rintro e w5 ⟨rfl, hb5⟩
      have hm5 := HS.out.below hg hb5
      have hl2 : k * 2 + 1 < ((pairV (marksP k a ++ xs.drop k)).set (k * 2) (.string (B (markB (a + 2 * k))))).length := by rw [List.length_set]; exact hl1
      obtain ⟨v1, hv1⟩ : ∃ v1 : ByteArray, ((pairV (marksP k a ++ xs.drop k)).set (k * 2) (.string (B (markB (a + 2 * k)))))[k * 2 + 1] = .string v1 := ⟨B xs[k].2, by
        rw [List.getElem_set_ne (by omega)]
        have e := pairV_at xs k a hlt
        simp only [e]
        rw [List.getElem_append_right (by omega)]
        have : k * 2 + 1 - (pairV (marksP k a)).length = 1 := by omega
        simp [this]⟩
      have hcf5 := hm5.cell (k * 2 + 1) hl2
      rw [hv1, ← Nat.add_assoc] at hcf5
      have hc5 := hcf5.1
      have hf5 := hcf5.2
      have hset5 := hm5.set (k * 2 + 1) hl2 (.string (B (markB (a + 2 * k + 1))))
      have hfin : ((pairV (marksP k a ++ xs.drop k)).set (k * 2) (.string (B (markB (a + 2 * k))))).set (k * 2 + 1) (.string (B (markB (a + 2 * k + 1)))) = pairV (marksP (k + 1) a ++ xs.drop (k + 1)) := by
        rw [pairV_at xs k a hlt, set_two _ _ _ _ _ _ _ hpl, pairV_next]
      rw [hfin, ← Nat.add_assoc] at hset5
      have HS5 := Lib.hid hset5
      have hw2 : IntKind.i64.wrap (((a + 2 * k + 1 : Nat) : Int) + 1) = ((a + 2 * (k + 1) : Nat) : Int) := by rw [i64wrap, w64 (by omega) (by omega)]; omega
      clear hset5 hcf5 hm5 hb5 HS hfin hc hf hv0 hv1 hl0 hl1 hl2 hlen hpl
      go_wp2
      go_roundw
      case rel => exact ⟨k + 1, by omega, by go_num, by go_num, HS5.out⟩
      case measure => simp [intOf]; omega
    · obtain rfl : k = xs.length := by omega
      have e : marksP xs.length a ++ xs.drop xs.length = marksP xs.length a := by simp
      rw [e] at hm
      have HM := Lib.hid hm
      clear hm
      go_wp2
      go_ret
      exact ⟨rfl, HM.out⟩
set_option maxRecDepth 100000 in
theorem markP_none (A : Option Addr) (c : Nat) (a : Int) (w : World) :
    Calls Tryd.prog 24 #[.slice A 0 c, .int .i64 a] w fun e w' => e = .returned (.int .i64 a) ∧ w' = w := by
  go_enter Tryd.func24, Tryd.ntmps24
  go_wp2
  go_loopw [5, 1] (fun i k wr => i = .int .i64 ((0 : Nat) : Int) ∧ k = .int .i64 a ∧ wr = w) (fun i _ _ => (intOf i).toNat)
  case atStart => exact ⟨rfl, rfl, rfl⟩
  case round =>
    obtain ⟨rfl, rfl, rfl⟩ := hrel
    go_wp2
    go_ret
    exact ⟨rfl, rfl⟩
end Go.Proofs.YtekeimhhffnjpaaDoor.H
