/- impl.encode: the call comes to the text with the set's bytes, and all that is not plain, told by percent; if that takes at most 2^47 bytes; impl.sets reads as its table. -/
import Derived.Test.YtekeimhhffnjpaaDoorHBytes
import Derived.Test.YtekeimhhffnjpaaDoorHTab
import Derived.Test.YtekeimhhffnjpaaDoorHBuilder
import Derived.Test.YtekeimhhffnjpaaDoorHPct
import Derived.Tactics
import Derived.KernelRfl
import Derived.RowKit3
import Derived.Deep.LoopGhost
import Derived.Laws.Slices
import Derived.Laws.Rows
import Derived.RowKit
import Derived.Outline
import Derived.Lib.Hide
namespace Go.Proofs.YtekeimhhffnjpaaDoor.H
open Go.RowKit Go.Proofs.YtekeimhhffnjpaaDoorW.PrintWords Go.Proofs.YtekeimhhffnjpaaDoor.Base
/-- The bytes of a set, by its number. -/
def setI (n : Int) : Bs := if 1 ≤ n ∧ n ≤ 5 then sets[n.toNat]?.getD [] else []
theorem enc_step (any l : Bs) (i : Nat) (h : i < l.length) : enc any (l.take (i + 1)) = enc any (l.take i) ++ encC any l[i] := enc_take any l i h
theorem in_walk (n : Int) (w : World) : Calls Tryd.prog 93 #[.int .i64 n, .int .i64 1, .int .i64 5] w fun e w' => e = .returned (.bool (decide (1 ≤ n ∧ n ≤ 5))) ∧ w' = w := by
  go_enter Tryd.func93, Tryd.ntmps93
  by_cases h1 : 1 ≤ n
  · have d1 : decide (1 ≤ n) = true := decide_eq_true h1
    by_cases h2 : n ≤ 5
    · have d2 : decide (n ≤ 5) = true := decide_eq_true h2
      have hd : decide (1 ≤ n ∧ n ≤ 5) = true := decide_eq_true ⟨h1, h2⟩
      rw [hd]; clear hd h1 h2
      go_wp2
      go_ret
      exact ⟨rfl, rfl⟩
    · have d2 : decide (n ≤ 5) = false := decide_eq_false h2
      have hd : decide (1 ≤ n ∧ n ≤ 5) = false := decide_eq_false (fun h => h2 h.2)
      rw [hd]; clear hd h1 h2
      go_wp2
      go_ret
      exact ⟨rfl, rfl⟩
  · have d1 : decide (1 ≤ n) = false := decide_eq_false h1
    have hd : decide (1 ≤ n ∧ n ≤ 5) = false := decide_eq_false (fun h => h1 h.1)
    rw [hd]; clear hd h1
    go_wp2
    go_ret
    exact ⟨rfl, rfl⟩
set_option maxHeartbeats 4000000 in
set_option maxRecDepth 100000 in
theorem encode_walk (n : Int) (l : Bs) (w : World) (hT : TabS w) (hl : (enc (setI n) l).length ≤ 140737488355328) :
    Calls Tryd.prog 50 #[.int .i64 n, .string (B l)] w fun e w' => e = .returned (.string (B (enc (setI n) l))) ∧ Below w.heap.size w w' := by
  obtain ⟨a, c, hs, ht⟩ := hT
  have hb0 : Lib.IsBuilder 60 5 w.heap.size w.heap.size (Lib.byteCells []) (w.alloc (.cells #[.pointer none, .slice none 0 0] 60)) := Lib.fresh_isBuilder 60 5 w
  have hw0 : Below w.heap.size w (w.alloc (.cells #[.pointer none, .slice none 0 0] 60)) := (Below.refl _ w).alloc (Nat.le_refl _) _
  have hln := (enc_len (setI n) l).1
  by_cases h : 1 ≤ n ∧ n ≤ 5
  · have hset : setI n = sets[n.toNat]?.getD [] := by unfold setI; rw [if_pos h]
    have hcell := ht n.toNat (by omega)
    rw [← hset] at hcell
    clear hset ht
    generalize setI n = any at hcell hl hln ⊢
    go_enter Tryd.func50, Tryd.ntmps50
    have hin := fun W => in_walk n W
    simp only [decide_eq_true h] at hin
    have HIN := Lib.hid hin
    clear hin
    go_wp2_with (go_at_call 93; refine (HIN.out _).mono ?_; rintro e w1 ⟨rfl, hw1⟩; subst w1)
    go_loopw [17] (fun i wr => ∃ k : Nat, k ≤ l.length ∧ i = .int .i64 k ∧ Lib.IsBuilder 60 5 w.heap.size w.heap.size (Lib.byteCells (enc any (l.take k))) wr ∧ Below w.heap.size w wr) (fun i _ => l.length - (intOf i).toNat)
    case atStart => exact ⟨0, by omega, rfl, hb0, hw0⟩
    case round =>
      obtain ⟨k, hk, rfl, hbld, hb⟩ := hrel
      by_cases hlt : k < l.length
      · have hst := enc_take any l k hlt
        have hmo : (enc any (l.take (k + 1))).length ≤ (enc any l).length := by
          conv => rhs; rw [← List.take_append_drop (k + 1) l, enc_append]
          simp
        have hmx : (enc any (l.take k)).length + (encC any l[k]).length ≤ 140737488355328 := by
          rw [hst, List.length_append] at hmo; omega
        have HS := Lib.hid hst
        have hwr := hb.size
        clear hst hmo
        have yes : needs any l[k] = true → encC any l[k] = pct l[k] := fun q => by unfold encC; rw [if_pos q]
        have no : needs any l[k] = false → encC any l[k] = [l[k]] := fun q => by unfold encC; rw [if_neg (by rw [q]; simp)]
        by_cases c1 : l[k].toNat < 32
        · have hC := yes (by unfold needs; simp [c1])
          have c1b : decide (((l[k].toNat : Nat) : Int) < 32) = true := decide_eq_true (by omega)
          rw [hC] at hmx
          have HC := Lib.hid hC
          clear hC yes no c1
          go_wp2_with fail
          refine (percent_walk l[k] _).mono ?_
          rintro e w4 ⟨rfl, hb4⟩
          have hbld4 := below_builder hbld hb4
          have hb5 : Below w.heap.size w w4 := below_then hb hwr hb4
          have hwr4 : w.heap.size ≤ w4.heap.size := hb5.size
          clear hbld hb4 hb hwr
          go_wp2_with (go_at_call 75; refine (Builder_WriteString w.heap.size w.heap.size _ (B (pct l[k])) _ hbld4 (by simpa [cells_len] using hmx) hwr4).mono ?_; rintro e w5 ⟨rfl, h1, hb6⟩)
          go_roundw
          case rel => exact ⟨k + 1, by omega, by go_num, Or.inr (by rw [HS.out, HC.out, cells_app]; exact h1), hb5.trans hb6⟩
          case measure => simp [intOf]; omega
        have c1b : decide (((l[k].toNat : Nat) : Int) < 32) = false := decide_eq_false (by omega)
        by_cases c2 : 126 < l[k].toNat
        · have hC := yes (by unfold needs; simp [c2])
          have c2b : decide (126 < ((l[k].toNat : Nat) : Int)) = true := decide_eq_true (by omega)
          rw [hC] at hmx
          have HC := Lib.hid hC
          clear hC yes no c2 c1
          go_wp2_with fail
          refine (percent_walk l[k] _).mono ?_
          rintro e w4 ⟨rfl, hb4⟩
          have hbld4 := below_builder hbld hb4
          have hb5 : Below w.heap.size w w4 := below_then hb hwr hb4
          have hwr4 : w.heap.size ≤ w4.heap.size := hb5.size
          clear hbld hb4 hb hwr
          go_wp2_with (go_at_call 75; refine (Builder_WriteString w.heap.size w.heap.size _ (B (pct l[k])) _ hbld4 (by simpa [cells_len] using hmx) hwr4).mono ?_; rintro e w5 ⟨rfl, h1, hb6⟩)
          go_roundw
          case rel => exact ⟨k + 1, by omega, by go_num, Or.inr (by rw [HS.out, HC.out, cells_app]; exact h1), hb5.trans hb6⟩
          case measure => simp [intOf]; omega
        have c2b : decide (126 < ((l[k].toNat : Nat) : Int)) = false := decide_eq_false (by omega)
        have hnd : needs any l[k] = any.contains l[k] := by unfold needs; simp [c1, c2]
        clear c1 c2
        go_wp2_with fail
        refine (indexByte_walk any l[k] _).mono ?_
        rintro e w3 ⟨rfl, rfl⟩
        by_cases c3 : any.contains l[k] = true
        · have hx := contains_yes c3
          have hC := yes (by rw [hnd, c3])
          rw [hC] at hmx
          have HC := Lib.hid hC
          clear hC yes no hnd c3
          go_wp2_with fail
          refine (percent_walk l[k] _).mono ?_
          rintro e w4 ⟨rfl, hb4⟩
          have hbld4 := below_builder hbld hb4
          have hb5 : Below w.heap.size w w4 := below_then hb hwr hb4
          have hwr4 : w.heap.size ≤ w4.heap.size := hb5.size
          clear hbld hb4 hb hwr
          go_wp2_with (go_at_call 75; refine (Builder_WriteString w.heap.size w.heap.size _ (B (pct l[k])) _ hbld4 (by simpa [cells_len] using hmx) hwr4).mono ?_; rintro e w5 ⟨rfl, h1, hb6⟩)
          go_roundw
          case rel => exact ⟨k + 1, by omega, by go_num, Or.inr (by rw [HS.out, HC.out, cells_app]; exact h1), hb5.trans hb6⟩
          case measure => simp [intOf]; omega
        · have c3' : any.contains l[k] = false := by simpa using c3
          have hx := contains_no c3'
          have hC := no (by rw [hnd, c3'])
          rw [hC] at hmx
          have HC := Lib.hid hC
          clear hC yes no hnd c3 c3'
          go_wp2_with (go_at_call 55; refine (Builder_WriteByte w.heap.size w.heap.size _ _ _ hbld (by simpa [cells_len] using hmx) hwr).mono ?_; rintro e w4 ⟨rfl, h1, hb2⟩)
          go_roundw
          case rel => exact ⟨k + 1, by omega, by go_num, Or.inr (by rw [HS.out, HC.out, cells_app, cells_one]; exact h1), hb.trans hb2⟩
          case measure => simp [intOf]; omega
      · obtain rfl : k = l.length := by omega
        have hwr : w.heap.size ≤ wr.heap.size := hb.size
        rw [List.take_of_length_le (Nat.le_refl _)] at hbld
        go_wp2_with (go_at_call 56; refine (Tryd.Builder_String_any w.heap.size w.heap.size (enc any l) wr hbld hwr).mono ?_; rintro e w1 ⟨rfl, hb1⟩)
        go_ret
        exact ⟨rfl, hb.trans hb1⟩
  · have hset : setI n = [] := by unfold setI; rw [if_neg h]
    obtain ⟨any, hany⟩ : ∃ any : Bs, any = [] := ⟨_, rfl⟩
    have hbe : (⟨#[]⟩ : ByteArray) = B any := by rw [hany]; rfl
    rw [hset, ← hany] at hl hln ⊢
    have HE := Lib.hid hbe
    clear hset ht hs hany hbe
    go_enter Tryd.func50, Tryd.ntmps50
    have hin := fun W => in_walk n W
    simp only [decide_eq_false h] at hin
    have HIN := Lib.hid hin
    clear hin
    go_wp2_with (go_at_call 93; refine (HIN.out _).mono ?_; rintro e w1 ⟨rfl, hw1⟩; subst w1)
    rw [HE.out]
    go_loopw [17] (fun i wr => ∃ k : Nat, k ≤ l.length ∧ i = .int .i64 k ∧ Lib.IsBuilder 60 5 w.heap.size w.heap.size (Lib.byteCells (enc any (l.take k))) wr ∧ Below w.heap.size w wr) (fun i _ => l.length - (intOf i).toNat)
    case atStart => exact ⟨0, by omega, rfl, hb0, hw0⟩
    case round =>
      obtain ⟨k, hk, rfl, hbld, hb⟩ := hrel
      by_cases hlt : k < l.length
      · have hst := enc_take any l k hlt
        have hmo : (enc any (l.take (k + 1))).length ≤ (enc any l).length := by
          conv => rhs; rw [← List.take_append_drop (k + 1) l, enc_append]
          simp
        have hmx : (enc any (l.take k)).length + (encC any l[k]).length ≤ 140737488355328 := by
          rw [hst, List.length_append] at hmo; omega
        have HS := Lib.hid hst
        have hwr := hb.size
        clear hst hmo
        have yes : needs any l[k] = true → encC any l[k] = pct l[k] := fun q => by unfold encC; rw [if_pos q]
        have no : needs any l[k] = false → encC any l[k] = [l[k]] := fun q => by unfold encC; rw [if_neg (by rw [q]; simp)]
        by_cases c1 : l[k].toNat < 32
        · have hC := yes (by unfold needs; simp [c1])
          have c1b : decide (((l[k].toNat : Nat) : Int) < 32) = true := decide_eq_true (by omega)
          rw [hC] at hmx
          have HC := Lib.hid hC
          clear hC yes no c1
          go_wp2_with fail
          refine (percent_walk l[k] _).mono ?_
          rintro e w4 ⟨rfl, hb4⟩
          have hbld4 := below_builder hbld hb4
          have hb5 : Below w.heap.size w w4 := below_then hb hwr hb4
          have hwr4 : w.heap.size ≤ w4.heap.size := hb5.size
          clear hbld hb4 hb hwr
          go_wp2_with (go_at_call 75; refine (Builder_WriteString w.heap.size w.heap.size _ (B (pct l[k])) _ hbld4 (by simpa [cells_len] using hmx) hwr4).mono ?_; rintro e w5 ⟨rfl, h1, hb6⟩)
          go_roundw
          case rel => exact ⟨k + 1, by omega, by go_num, Or.inr (by rw [HS.out, HC.out, cells_app]; exact h1), hb5.trans hb6⟩
          case measure => simp [intOf]; omega
        have c1b : decide (((l[k].toNat : Nat) : Int) < 32) = false := decide_eq_false (by omega)
        by_cases c2 : 126 < l[k].toNat
        · have hC := yes (by unfold needs; simp [c2])
          have c2b : decide (126 < ((l[k].toNat : Nat) : Int)) = true := decide_eq_true (by omega)
          rw [hC] at hmx
          have HC := Lib.hid hC
          clear hC yes no c2 c1
          go_wp2_with fail
          refine (percent_walk l[k] _).mono ?_
          rintro e w4 ⟨rfl, hb4⟩
          have hbld4 := below_builder hbld hb4
          have hb5 : Below w.heap.size w w4 := below_then hb hwr hb4
          have hwr4 : w.heap.size ≤ w4.heap.size := hb5.size
          clear hbld hb4 hb hwr
          go_wp2_with (go_at_call 75; refine (Builder_WriteString w.heap.size w.heap.size _ (B (pct l[k])) _ hbld4 (by simpa [cells_len] using hmx) hwr4).mono ?_; rintro e w5 ⟨rfl, h1, hb6⟩)
          go_roundw
          case rel => exact ⟨k + 1, by omega, by go_num, Or.inr (by rw [HS.out, HC.out, cells_app]; exact h1), hb5.trans hb6⟩
          case measure => simp [intOf]; omega
        have c2b : decide (126 < ((l[k].toNat : Nat) : Int)) = false := decide_eq_false (by omega)
        have hnd : needs any l[k] = any.contains l[k] := by unfold needs; simp [c1, c2]
        clear c1 c2
        go_wp2_with fail
        refine (indexByte_walk any l[k] _).mono ?_
        rintro e w3 ⟨rfl, rfl⟩
        by_cases c3 : any.contains l[k] = true
        · have hx := contains_yes c3
          have hC := yes (by rw [hnd, c3])
          rw [hC] at hmx
          have HC := Lib.hid hC
          clear hC yes no hnd c3
          go_wp2_with fail
          refine (percent_walk l[k] _).mono ?_
          rintro e w4 ⟨rfl, hb4⟩
          have hbld4 := below_builder hbld hb4
          have hb5 : Below w.heap.size w w4 := below_then hb hwr hb4
          have hwr4 : w.heap.size ≤ w4.heap.size := hb5.size
          clear hbld hb4 hb hwr
          go_wp2_with (go_at_call 75; refine (Builder_WriteString w.heap.size w.heap.size _ (B (pct l[k])) _ hbld4 (by simpa [cells_len] using hmx) hwr4).mono ?_; rintro e w5 ⟨rfl, h1, hb6⟩)
          go_roundw
          case rel => exact ⟨k + 1, by omega, by go_num, Or.inr (by rw [HS.out, HC.out, cells_app]; exact h1), hb5.trans hb6⟩
          case measure => simp [intOf]; omega
        · have c3' : any.contains l[k] = false := by simpa using c3
          have hx := contains_no c3'
          have hC := no (by rw [hnd, c3'])
          rw [hC] at hmx
          have HC := Lib.hid hC
          clear hC yes no hnd c3 c3'
          go_wp2_with (go_at_call 55; refine (Builder_WriteByte w.heap.size w.heap.size _ _ _ hbld (by simpa [cells_len] using hmx) hwr).mono ?_; rintro e w4 ⟨rfl, h1, hb2⟩)
          go_roundw
          case rel => exact ⟨k + 1, by omega, by go_num, Or.inr (by rw [HS.out, HC.out, cells_app, cells_one]; exact h1), hb.trans hb2⟩
          case measure => simp [intOf]; omega
      · obtain rfl : k = l.length := by omega
        have hwr : w.heap.size ≤ wr.heap.size := hb.size
        rw [List.take_of_length_le (Nat.le_refl _)] at hbld
        go_wp2_with (go_at_call 56; refine (Tryd.Builder_String_any w.heap.size w.heap.size (enc any l) wr hbld hwr).mono ?_; rintro e w1 ⟨rfl, hb1⟩)
        go_ret
        exact ⟨rfl, hb.trans hb1⟩
def impl_encode.f (a0 : Int) (a1 : ByteArray) : Option (ByteArray) := if (enc (setI a0) a1.data.toList).length ≤ 140737488355328 then some (B (enc (setI a0) a1.data.toList)) else none
theorem impl_encode.calls (a0 : Int) (a1 : ByteArray) (r : ByteArray) (w : World) (hT : TabS w) (h : impl_encode.f a0 a1 = some r) :
    Calls Tryd.prog 50 #[.int .i64 a0, .string a1] w fun e w' => e = .returned (.string r) ∧ Below w.heap.size w w' := by
  obtain ⟨l, rfl⟩ := exB a1
  unfold impl_encode.f at h
  rw [B_data] at h
  by_cases c : (enc (setI a0) l).length ≤ 140737488355328
  · rw [if_pos c] at h
    obtain rfl := Option.some.inj h
    exact encode_walk a0 l w hT c
  · rw [if_neg c] at h; cases h
end Go.Proofs.YtekeimhhffnjpaaDoor.H
