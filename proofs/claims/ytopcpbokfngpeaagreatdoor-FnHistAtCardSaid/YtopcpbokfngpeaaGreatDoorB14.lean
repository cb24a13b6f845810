/- Texts of this claim, joined: HUrlI, UrlD, HUrlH, HUrlG, HUrlU, SUrlS, SUrlB. Conditions: each theorem's own. -/
import Derived.Test.YtopcpbokfngpeaaGreatDoorB12
import Derived.Test.YtopcpbokfngpeaaGreatDoorB03
import Derived.Test.YtopcpbokfngpeaaGreatDoorB04
import Derived.Tactics
import Derived.KernelRfl
import Derived.RowKit3
import Derived.Deep.LoopGhost
import Derived.Deep.QuietTactic
import Derived.BigQuiet
import Derived.Laws.RangeString
import Derived.Laws.Strings3
import Derived.RowKit
import Derived.Outline
import Derived.Lib.Hide
import Derived.WalkSmall
import Derived.WalkMore
import Derived.Test.YtopcpbokfngpeaaGreatDoorB13
import Derived.Test.YtopcpbokfngpeaaGreatDoorB05
import Derived.Test.YtopcpbokfngpeaaGreatDoorB11
import Derived.Deep.RegionHeld3
/- strings.IndexRune of a rune beyond ASCII among ASCII bytes; strings.IndexAny for two sets of ASCII bytes, in any text; impl.upTo. -/
set_option linter.unusedVariables false
namespace Go.Proofs.YtopcpbokfngpeaaGreatDoor.H
open Go.RowKit Go.Proofs.YtopcpbokfngpeaaGreatDoorW.PrintWords Go.Proofs.YtopcpbokfngpeaaGreatDoor.Base Go.Proofs.YtopcpbokfngpeaaGreatDoor.Pure
theorem validRune_walk (r : Int) (w : World) (h0 : 0 ≤ r) (h : Utf8.valid r = true) : Calls Tryz.prog 176 #[.int .i32 r] w fun e w' => e = .returned (.bool true) ∧ w = w' := by
 have hv : r < 55296 ∨ (57343 < r ∧ r ≤ 1114111) := by
  unfold Utf8.valid at h
  simp at h; omega
 have HV := Lib.hid hv
 clear hv h
 rcases HV.out with h1 | ⟨h1, h2⟩
 all_goals
  go_enter Tryz.func176, Tryz.ntmps176
  go_wp2
  all_goals
   go_ret
   exact ⟨rfl, rfl⟩
theorem encode_high (r : Int) (h0 : 128 ≤ r) (h : Utf8.valid r = true) : ∃ e : Bs, Utf8.encode r = B e ∧ 2 ≤ e.length ∧ e.length ≤ 4 ∧ ∀ x, e[e.length - 1]? = some x → 128 ≤ x.toNat := by
 unfold Utf8.encode
 simp only [h, if_true]
 have hb : ∀ m : Nat, 128 ≤ (UInt8.ofNat (128 + m % 64)).toNat := fun m => by
  have : (UInt8.ofNat (128 + m % 64)).toNat = (128 + m % 64) % 256 := by rw [UInt8.toNat_ofNat']
  omega
 rw [if_neg (by omega)]
 split
 ·exact ⟨[_, _], rfl, by simp, by simp, fun x hx => by rw [← Option.some.inj hx]; exact hb _⟩
 ·split
  ·exact ⟨[_, _, _], rfl, by simp, by simp, fun x hx => by rw [← Option.some.inj hx]; exact hb _⟩
  ·exact ⟨[_, _, _, _], rfl, by simp, by simp, fun x hx => by rw [← Option.some.inj hx]; exact hb _⟩
set_option maxHeartbeats 4000000 in
set_option maxRecDepth 100000 in
theorem rune_high (S : Bs) (hS : S.length ≤ 4) (hA : ∀ c ∈ S, c.toNat < 128) (r : Int) (h0 : 128 ≤ r) (hv : Utf8.valid r = true) (h1 : r ≠ 65533) (w : World) :
  Calls Tryz.prog 153 #[.string (B S), .int .i32 r] w fun e w' => e = .returned (.int .i64 (-1)) ∧ Below w.heap.size w w' := by
 obtain ⟨e, he, hl2, hl4, hlast⟩ := encode_high r h0 hv
 obtain ⟨n, hn⟩ : ∃ n, e.length = n + 1 := ⟨e.length - 1, by omega⟩
 have hn1 : n < e.length := by omega
 rw [hn, Nat.add_sub_cancel] at hlast
 have hx := hlast e[n] (List.getElem?_eq_getElem hn1)
 have h1b : (r == 65533) = false := by simpa using h1
 have HV := Lib.hid (validRune_walk r w (by omega) hv)
 have h128 : decide (r < 128) = false := decide_eq_false (by omega)
 have hw1 : ((e.length : Nat) : Int) - 1 = (n : Int) := by omega
 have hw2 : IntKind.i64.wrap (((e.length : Nat) : Int) - 1) = (n : Int) := by rw [i64wrap, w64 (by omega) (by omega)]; omega
 have HA := Lib.hid hA
 have hn2 : (n : Int) < (e.length : Int) := by omega
 have hn3 : (0 : Int) ≤ (n : Int) := by omega
 clear hv h1 hlast hA hn
 go_enter Tryz.func153, Tryz.ntmps153
 go_wp2_with fail
 refine HV.out.mono ?_
 rintro e' w1 ⟨rfl, rfl⟩
 go_wp2_with fail
 go_step3
 go_wp2_with fail
 go_loop [9, 10] (fun i f => i = .int .i64 n ∧ f = .int .i64 0) (fun _ _ => 0)
 case atStart => exact ⟨rfl, rfl⟩
 case round =>
  obtain ⟨rfl, rfl⟩ := hrel
  by_cases hlt : n < S.length
  ·have hS1 := HA.out S[n] (List.getElem_mem hlt)
   have hne : ((S[n].toNat : Int) != (e[n].toNat : Int)) = true := by rw [bne_iff_ne]; omega
   have hnc : (S.drop (n + 1)).contains e[n] = false := by
    rw [List.contains_eq_mem]
    refine decide_eq_false fun q => ?_
    have := HA.out _ (List.mem_of_mem_drop q)
    omega
   have hno : decide (Lib.indexByte (S.drop (n + 1)) e[n] < 0) = true := by
    have h := of_decide_eq_false (contains_no hnc)
    exact decide_eq_true (by omega)
   have hex : (B S).extract (n + 1) S.length = B (S.drop (n + 1)) := by rw [B_extract, List.take_of_length_le (by simp)]
   clear hnc
   go_wp2_with fail
   go_step3
   go_wp2_with fail
   go_quiet (fail)
   have hb1 : Below w.heap.size w (w.drewN nq) := pw_below_drewN (Below.refl _ _) nq
   generalize w.drewN nq = w1 at hb1 ⊢
   go_wp2_with fail
   go_quiet ((go_at_call 128; exact Calls.quiet_of_same ((indexByte_walk (S.drop (n + 1)) e[n] _).mono fun _ _ h => ⟨h.1, h.2⟩)))
   go_wp2
   rw [Exit.noGoto_ret]
   simp only [Exit.inBlock]
   go_wp2
   rw [Exit.noGoto_ret]
   simp only [Exit.inBlock]
   go_wp2
   go_ret
   exact ⟨rfl, pw_below_drewN hb1 _⟩
  ·go_wp2
   go_ret
   exact ⟨rfl, Below.refl _ _⟩
theorem iter_below (w : World) (s : ByteArray) (p : Nat) : Below w.heap.size w (w.iter s p) := (Below.refl _ _).alloc (Nat.le_refl _) _
set_option maxHeartbeats 4000000 in
set_option maxRecDepth 100000 in
theorem rune_error (S : Bs) (hA : ∀ c ∈ S, c.toNat < 128) (w : World) :
  Calls Tryz.prog 153 #[.string (B S), .int .i32 65533] w fun e w' => e = .returned (.int .i64 (-1)) ∧ Below w.heap.size w w' := by
 have HA := Lib.hid hA
 clear hA
 go_enter Tryz.func153, Tryz.ntmps153
 go_wp2
 go_loopg [5, 6] S.length (fun g _ _ wx => ∃ i : Nat, i + g = S.length ∧ wx = w.iter (B S) i)
 case atStart => exact ⟨0, by omega, rfl⟩
 case round =>
  obtain ⟨i, hig, rfl⟩ := hrel
  cases gk with
  | zero =>
   obtain rfl : i = S.length := by omega
   have hnx := run_next_end (P := Tryz.prog) w (B S) S.length
   go_wp2
   go_ret
   exact ⟨rfl, iter_below _ _ _⟩
  | succ g =>
   have hi : i < S.length := by omega
   have hx := HA.out S[i] (List.getElem_mem hi)
   have hnx := fun ty => run_next_ascii (P := Tryz.prog) w (B S) i ty (by simpa using hi) (by rw [B_get]; exact hx)
   rw [B_get] at hnx
   have hne : ((S[i].toNat : Int) == 65533) = false := by rw [beq_eq_false_iff_ne]; omega
   go_wp2
   go_roundg g
   case measure => omega
   case rel => exact ⟨i + 1, by omega, rfl⟩
theorem get_B (l : Bs) (j : Nat) (x : UInt8) (h : l[j]? = some x) : (B l).get! j = x := by
 obtain ⟨hj, hx⟩ := List.getElem?_eq_some_iff.1 h
 subst hx
 have h' : j < (B l).size := by rw [B_size]; exact hj
 show (B l).data[j]! = _
 simp [B, hj]
def dec4 (a0 a1 a2 a3 : Nat) (c1 c2 c3 : Bool) : Nat × Nat :=
 if a0 < 0x80 then (a0, 1)
 else if (a0 / 32 == 6 && c1) = true then (if a0 % 32 * 64 + a1 % 64 ≥ 0x80 then (a0 % 32 * 64 + a1 % 64, 2) else (Utf8.runeError, 1))
 else if (a0 / 16 == 14 && c1 && c2) = true then (if (decide (a0 % 16 * 4096 + a1 % 64 * 64 + a2 % 64 ≥ 0x800) && Utf8.valid ((a0 % 16 * 4096 + a1 % 64 * 64 + a2 % 64 : Nat) : Int)) = true then (a0 % 16 * 4096 + a1 % 64 * 64 + a2 % 64, 3) else (Utf8.runeError, 1))
 else if (a0 / 8 == 30 && c1 && c2 && c3) = true then (if (decide (a0 % 8 * 262144 + a1 % 64 * 4096 + a2 % 64 * 64 + a3 % 64 ≥ 0x10000) && Utf8.valid ((a0 % 8 * 262144 + a1 % 64 * 4096 + a2 % 64 * 64 + a3 % 64 : Nat) : Int)) = true then (a0 % 8 * 262144 + a1 % 64 * 4096 + a2 % 64 * 64 + a3 % 64, 4) else (Utf8.runeError, 1))
 else (Utf8.runeError, 1)
theorem dec4_cases (a0 a1 a2 a3 : Nat) (c1 c2 c3 : Bool) (h : ¬ a0 < 128) (hv : ∀ c : Nat, c < 55296 → Utf8.valid (c : Int) = true) :
  dec4 a0 a1 a2 a3 c1 c2 c3 = (Utf8.runeError, 1) ∨ ∃ r n : Nat, dec4 a0 a1 a2 a3 c1 c2 c3 = (r, n) ∧ 128 ≤ r ∧ Utf8.valid (r : Int) = true ∧ ((n = 2 ∧ c1 = true) ∨ (n = 3 ∧ c1 = true ∧ c2 = true) ∨ (n = 4 ∧ c1 = true ∧ c2 = true ∧ c3 = true)) := by
 unfold dec4
 rw [if_neg h]
 by_cases q1 : (a0 / 32 == 6 && c1) = true
 ·rw [if_pos q1]
  by_cases q2 : a0 % 32 * 64 + a1 % 64 ≥ 0x80
  ·rw [if_pos q2]
   exact .inr ⟨_, _, rfl, q2, hv _ (by omega), .inl ⟨rfl, (Bool.and_eq_true_iff.1 q1).2⟩⟩
  ·rw [if_neg q2]; exact .inl rfl
 ·rw [if_neg q1]
  by_cases q2 : (a0 / 16 == 14 && c1 && c2) = true
  ·rw [if_pos q2]
   obtain ⟨q3, q4⟩ := Bool.and_eq_true_iff.1 q2
   split
   ·rename_i q5
    obtain ⟨q6, q7⟩ := Bool.and_eq_true_iff.1 q5
    exact .inr ⟨_, _, rfl, by have := of_decide_eq_true q6; omega, q7, .inr (.inl ⟨rfl, (Bool.and_eq_true_iff.1 q3).2, q4⟩)⟩
   ·exact .inl rfl
  ·rw [if_neg q2]
   by_cases q3 : (a0 / 8 == 30 && c1 && c2 && c3) = true
   ·rw [if_pos q3]
    obtain ⟨q4, q5⟩ := Bool.and_eq_true_iff.1 q3
    obtain ⟨q6, q7⟩ := Bool.and_eq_true_iff.1 q4
    split
    ·rename_i q8
     obtain ⟨q9, q10⟩ := Bool.and_eq_true_iff.1 q8
     exact .inr ⟨_, _, rfl, by have := of_decide_eq_true q9; omega, q10, .inr (.inr ⟨rfl, (Bool.and_eq_true_iff.1 q6).2, q7, q5⟩)⟩
    ·exact .inl rfl
   ·rw [if_neg q3]; exact .inl rfl
theorem decode_dec4 (s : ByteArray) (i : Nat) : Utf8.decode s i = dec4 (s.get! (i + 0)).toNat (s.get! (i + 1)).toNat (s.get! (i + 2)).toNat (s.get! (i + 3)).toNat (decide (i + 1 < s.size) && (s.get! (i + 1)).toNat / 64 == 2) (decide (i + 2 < s.size) && (s.get! (i + 2)).toNat / 64 == 2) (decide (i + 3 < s.size) && (s.get! (i + 3)).toNat / 64 == 2) := rfl
theorem decode_cases (l : Bs) (i : Nat) (h : i < l.length) (hb : 128 ≤ l[i].toNat) :
  ∃ r n : Nat, Utf8.decode (B l) i = (r, n) ∧ 1 ≤ n ∧ i + n ≤ l.length ∧ (∀ j x, i ≤ j → j < i + n → l[j]? = some x → 128 ≤ x.toNat) ∧ (r = 65533 ∨ (128 ≤ r ∧ Utf8.valid (r : Int) = true)) := by
 have e0 : ((B l).get! (i + 0)).toNat = l[i].toNat := by rw [get_B l (i + 0) l[i] (List.getElem?_eq_getElem h)]
 have hg : ∀ k x, l[i + k]? = some x → x.toNat = ((B l).get! (i + k)).toNat := fun k x hx => by rw [get_B l _ x hx]
 have hone : ∀ j x, j = i → l[j]? = some x → 128 ≤ x.toNat := fun j x h1 hx => by
  subst h1
  rw [List.getElem?_eq_getElem h] at hx
  rw [← Option.some.inj hx]; exact hb
 have hc : ∀ k, (decide (i + k < (B l).size) && ((B l).get! (i + k)).toNat / 64 == 2) = true → i + k < l.length ∧ ∀ x, l[i + k]? = some x → 128 ≤ x.toNat := fun k hk => by
  obtain ⟨h1, h2⟩ := Bool.and_eq_true_iff.1 hk
  have h3 := of_decide_eq_true h1
  rw [B_size] at h3
  have h4 := beq_iff_eq.1 h2
  exact ⟨h3, fun x hx => by rw [hg k x hx]; omega⟩
 have hval : ∀ c : Nat, c < 55296 → Utf8.valid (c : Int) = true := fun c hc => by unfold Utf8.valid; simp; omega
 rcases dec4_cases ((B l).get! (i + 0)).toNat ((B l).get! (i + 1)).toNat ((B l).get! (i + 2)).toNat ((B l).get! (i + 3)).toNat (decide (i + 1 < (B l).size) && ((B l).get! (i + 1)).toNat / 64 == 2) (decide (i + 2 < (B l).size) && ((B l).get! (i + 2)).toNat / 64 == 2) (decide (i + 3 < (B l).size) && ((B l).get! (i + 3)).toNat / 64 == 2) (by rw [e0]; omega) hval with q | ⟨r, n, q, h1, h2, h3⟩
 ·refine ⟨Utf8.runeError, 1, (decode_dec4 _ _).trans q, by omega, by omega, fun j x hj hj2 hx => hone j x (by omega) hx, .inl rfl⟩
 ·refine ⟨r, n, (decode_dec4 _ _).trans q, by omega, ?_, fun j x hj hj2 hx => ?_, .inr ⟨h1, h2⟩⟩
  ·rcases h3 with ⟨rfl, c1⟩ | ⟨rfl, c1, c2⟩ | ⟨rfl, c1, c2, c3⟩
   ·have := (hc 1 c1).1; omega
   ·have := (hc 2 c2).1; omega
   ·have := (hc 3 c3).1; omega
  ·by_cases hji : j = i
   ·exact hone j x hji hx
   ·rcases h3 with ⟨rfl, c1⟩ | ⟨rfl, c1, c2⟩ | ⟨rfl, c1, c2, c3⟩
    ·obtain rfl : j = i + 1 := by omega
     exact (hc 1 c1).2 x hx
    ·by_cases hj1 : j = i + 1
     ·subst hj1; exact (hc 1 c1).2 x hx
     ·obtain rfl : j = i + 2 := by omega
      exact (hc 2 c2).2 x hx
    ·by_cases hj1 : j = i + 1
     ·subst hj1; exact (hc 1 c1).2 x hx
     ·by_cases hj2' : j = i + 2
      ·subst hj2'; exact (hc 2 c2).2 x hx
      ·obtain rfl : j = i + 3 := by omega
       exact (hc 3 c3).2 x hx
def itAt (w : World) (g : Nat) (s : ByteArray) (p : Nat) : World := { w with heap := w.heap.setIfInBounds g (.stringIter s p) }
theorem itAt_heap {w : World} {g : Nat} {s : ByteArray} {p : Nat} {o : Obj} (h : w.heap[g]? = some o) : (itAt w g s p).heap[g]? = some (.stringIter s p) := by
 have hlt : g < w.heap.size := (Array.getElem?_eq_some_iff.1 h).1
 show (w.heap.setIfInBounds g _)[g]? = _
 simp [hlt]
theorem itAt_below {w0 w : World} {g : Nat} {s : ByteArray} {p : Nat} (h : Below w0.heap.size w0 w) (hg : w0.heap.size ≤ g) : Below w0.heap.size w0 (itAt w g s p) :=
 ⟨h.os, h.tape, h.output, by show _ ≤ (w.heap.setIfInBounds g _).size; rw [Array.size_setIfInBounds]; exact h.size, fun k hk => by
  show (w.heap.setIfInBounds g _)[k]? = _
  rw [Array.getElem?_setIfInBounds_ne (by omega)]; exact h.block k hk⟩
theorem next_any {P : Program} (w : World) (g : Nat) (s : ByteArray) (pos r n : Nat) (ty : TypeId) (hw : w.heap[g]? = some (.stringIter s pos)) (h : pos < s.size) (hd : Utf8.decode s pos = (r, n)) :
  (Instr.next (.pointer (some ⟨g, 0, none⟩)) true ty).run P w = .ok (.tuple #[.bool true, .int .i64 pos, .int .i32 r]) (itAt w g s (pos + n)) := by
 simp only [Instr.next, getObj, setObj, Sem.run_bind, Sem.run, hw, Result.andThen, h, if_true, hd]
 simp [goInt, itAt]
theorem next_end {P : Program} (w : World) (g : Nat) (s : ByteArray) (pos : Nat) (ty : TypeId) (hw : w.heap[g]? = some (.stringIter s pos)) (h : ¬ pos < s.size) :
  (Instr.next (.pointer (some ⟨g, 0, none⟩)) true ty).run P w = .ok (.tuple #[.bool false]) w := by
 simp [Instr.next, getObj, Sem.run, hw, h]
set_option maxHeartbeats 8000000 in
set_option maxRecDepth 100000 in
theorem any_short (l S : Bs) (w : World) (h2 : 2 ≤ S.length) (h4 : S.length ≤ 4) (hS : ∀ c ∈ S, c.toNat < 128) (h8 : l.length ≤ 8) :
  Calls Tryz.prog 127 #[.string (B l), .string (B S)] w fun e w' => e = .returned (.int .i64 (Lib.indexAny l S)) ∧ Below w.heap.size w w' := by
 have HA := Lib.hid hS
 have HN := Lib.hid (Lib.NoAny.zero l S)
 have hemp : S.isEmpty = false := by cases S with
  | nil => simp at h2
  | cons _ _ => rfl
 have hn1 : ((S.length : Int) == 1) = false := beq_eq_false_iff_ne.2 (by omega)
 have h8z : decide ((8 : Int) < (l.length : Int)) = false := decide_eq_false (by omega)
 clear hS
 go_enter Tryz.func127, Tryz.ntmps127
 go_wp2_with fail
 refine (Tryz.strings_shouldUseASCIISet _ _).mono ?_
 rintro e w1 ⟨rfl, hw1⟩
 subst w1
 rw [h8z]
 go_wp2
 go_loopg [9, 10] l.length (fun g _ _ wx => ∃ i : Nat, i ≤ l.length ∧ l.length - i ≤ g ∧ Hid (wx.heap[w.heap.size]? = some (.stringIter (B l) i)) ∧ Below w.heap.size w wx ∧ Hid (Lib.NoAny l S i))
 case atStart => exact ⟨0, by omega, by omega, Lib.hid (World.iter_heap w (B l) 0), iter_below _ _ _, HN⟩
 case round =>
  obtain ⟨i, hi, hg, HW, hb, HN⟩ := hrel
  by_cases hlt : i < l.length
  ·cases gk with
   | zero => omega
   | succ g =>
    by_cases ha : l[i].toNat < 128
    ·have hd := decode_ascii (B l) i (by simpa using hlt) (by rw [B_get]; exact ha)
     rw [B_get] at hd
     have hnx := fun ty => next_any (P := Tryz.prog) wr w.heap.size (B l) i l[i].toNat 1 ty HW.out (by simpa using hlt) hd
     have HW2 := Lib.hid (itAt_heap (s := B l) (p := i + 1) HW.out)
     have HB2 := Lib.hid (itAt_below (s := B l) (p := i + 1) hb (Nat.le_refl _))
     generalize itAt wr w.heap.size (B l) (i + 1) = w2 at hnx HW2 HB2
     have hback : ((l[i].toNat : Int)).toNat.toUInt8 = l[i] := by simp
     have hcon := Lib.contains_iff_indexByte S l[i]
     have HL := Lib.hid (List.getElem?_eq_getElem hlt)
     cases hin : S.contains l[i] with
     | false =>
      rw [hin] at hcon
      have hlt2 : ¬ ((0 : Int) ≤ Lib.indexByte S l[i]) := of_decide_eq_false hcon.symm
      have hd2 : decide (0 ≤ Lib.indexByte S l[i]) = false := decide_eq_false hlt2
      have HIN := Lib.hid hin
      clear hcon hin hd hlt2
      go_wp2_with fail
      refine (Tryz.strings_IndexRune_ascii _ _ _ (by omega) (by omega)).mono ?_
      rintro e w3 ⟨rfl, hw3⟩
      subst w3
      rw [B_data, hback]
      go_wp2
      go_roundg g
      case measure => omega
      case rel => exact ⟨i + 1, by omega, by omega, HW2, HB2.out, Lib.hid (HN.out.succ HL.out HIN.out)⟩
     | true =>
      rw [hin] at hcon
      have hge : (0 : Int) ≤ Lib.indexByte S l[i] := of_decide_eq_true hcon.symm
      have hd2 : decide (0 ≤ Lib.indexByte S l[i]) = true := decide_eq_true hge
      have HIN := Lib.hid hin
      clear hcon hin hd hge
      go_wp2_with fail
      refine (Tryz.strings_IndexRune_ascii _ _ _ (by omega) (by omega)).mono ?_
      rintro e w3 ⟨rfl, hw3⟩
      subst w3
      rw [B_data, hback]
      go_wp2
      go_ret
      exact ⟨by rw [Lib.indexAny_hit HN.out HL.out HIN.out]; rfl, HB2.out⟩
    ·obtain ⟨r, n, hd, hn1, hn2, hby, hr⟩ := decode_cases l i hlt (by omega)
     have hnx := fun ty => next_any (P := Tryz.prog) wr w.heap.size (B l) i r n ty HW.out (by simpa using hlt) hd
     have HW2 := Lib.hid (itAt_heap (s := B l) (p := i + n) HW.out)
     have HB2 := Lib.hid (itAt_below (s := B l) (p := i + n) hb (Nat.le_refl _))
     generalize itAt wr w.heap.size (B l) (i + n) = w2 at hnx HW2 HB2
     have HNO : Hid (Lib.NoAny l S (i + n)) := Lib.hid fun j x hj hx => by
      by_cases hji : j < i
      ·exact HN.out j x hji hx
      ·have := hby j x (by omega) hj hx
       rw [List.contains_eq_mem]
       refine decide_eq_false fun q => ?_
       have := HA.out x q
       omega
     have HR : Hid (Calls Tryz.prog 153 #[.string (B S), .int .i32 (r : Int)] w2 fun e w' => e = .returned (.int .i64 (-1)) ∧ Below w2.heap.size w2 w') := Lib.hid (by
      by_cases h65 : r = 65533
      ·subst h65; exact rune_error S HA.out w2
      ·rcases hr with q | ⟨q1, q2⟩
       ·exact absurd q h65
       ·exact rune_high S h4 HA.out (r : Int) (by omega) q2 (by omega) w2)
     clear hby hr hd
     go_wp2_with fail
     refine HR.out.mono ?_
     rintro e w3 ⟨rfl, hb3⟩
     have HW3 : Hid (w3.heap[w.heap.size]? = some (.stringIter (B l) (i + n))) := Lib.hid (blk_below HW2.out hb3)
     have HB3 : Hid (Below w.heap.size w w3) := Lib.hid (below_then HB2.out HB2.out.size hb3)
     clear hb3
     go_wp2
     go_roundg g
     case measure => omega
     case rel => exact ⟨i + n, by omega, by omega, HW3, HB3.out, HNO⟩
  ·obtain rfl : i = l.length := by omega
   have hnx := fun ty => next_end (P := Tryz.prog) wr w.heap.size (B l) l.length ty HW.out (by simp)
   have HB := Lib.hid hb
   clear hb
   go_wp2
   go_ret
   exact ⟨by rw [Lib.indexAny_none HN.out]; rfl, HB.out⟩
set_option maxRecDepth 100000 in
theorem any_walk (l S : Bs) (w : World) (h2 : 2 ≤ S.length) (h4 : S.length ≤ 4) (hS : ∀ c ∈ S, c.toNat < 128) (hl : l.length ≤ 1000000) :
  Calls Tryz.prog 127 #[.string (B l), .string (B S)] w fun e w' => e = .returned (.int .i64 (Lib.indexAny l S)) ∧ Below w.heap.size w w' := by
 by_cases h8 : l.length ≤ 8
 ·exact any_short l S w h2 h4 hS h8
 ·have h116 : (Tryz.prog.info? 131).map (fun i => (i.zero, i.size)) = some (some (.agg (Array.replicate 256 (.bool false))), 256) := by kernel_rfl
  refine (Tryz.strings_IndexAny_long (zero_of_info h116).1 (B l) (B S) w (by simpa using h2) (by simp; omega) (by simp; omega) (by simp; omega) (fun j b hj => by rw [B_data] at hj; exact hS b (List.mem_of_getElem? hj))).mono ?_
  rintro e w' ⟨h1, h2⟩
  rw [B_data, B_data] at h1
  refine ⟨h1, ?_⟩
  rw [h2]
  exact ((Below.refl _ _).alloc (Nat.le_refl _) _).alloc (by simp) _
set_option maxHeartbeats 1000000 in
theorem upTo_walk (l S : Bs) (w : World) (h2 : 2 ≤ S.length) (h4 : S.length ≤ 4) (hS : ∀ c ∈ S, c.toNat < 128) (hl : l.length ≤ 1000000) :
  Calls Tryz.prog 91 #[.string (B l), .string (B S)] w fun e w' => e = .returned (.tuple #[.string (B (upA S l)), .string (B (upR S l))]) ∧ Below w.heap.size w w' := by
 have HC := Lib.hid (any_walk l S w h2 h4 hS hl)
 rw [idx_any] at HC
 have hle := ixS_le S l
 by_cases hq : ixS S l < l.length
 ·rw [if_pos hq] at HC
  have HA : Hid (upA S l = l.take (ixS S l)) := Lib.hid (upA_take S l)
  have HR : Hid (upR S l = l.drop (ixS S l)) := Lib.hid (upR_drop S l)
  generalize upA S l = x at HA ⊢
  generalize upR S l = y at HR ⊢
  generalize ixS S l = n at HA HR HC hq hle
  have hx : (B l).extract 0 n = B (l.take n) := by rw [B_extract]; simp
  have hy : (B l).extract n l.length = B (l.drop n) := by rw [B_extract, List.take_of_length_le (by simp)]
  have hn0 : (0 : Int) ≤ (n : Int) := by omega
  have hn1 : (n : Int) ≤ (l.length : Int) := by omega
  go_enter Tryz.func91, Tryz.ntmps91
  go_wp2_with fail
  refine HC.out.mono ?_
  rintro e w1 ⟨rfl, hb⟩
  go_wp2_with fail
  go_quiet (fail)
  go_wp2
  go_ret2
  exact ⟨by rw [HA.out, HR.out]; rfl, pw_below_drewN hb _⟩
 ·rw [if_neg hq] at HC
  obtain ⟨h1, h2⟩ := ixS_all S l hq
  rw [h1, h2]
  clear h1 h2
  go_enter Tryz.func91, Tryz.ntmps91
  go_wp2_with fail
  refine HC.out.mono ?_
  rintro e w1 ⟨rfl, hb⟩
  go_wp2
  go_ret2
  exact ⟨rfl, hb⟩
end Go.Proofs.YtopcpbokfngpeaaGreatDoor.H
/- Of no program: an address that was read, written again, is read as itself; plain lists of bytes. Conditions: each theorem's own. -/
namespace Go.Proofs.YtopcpbokfngpeaaGreatDoor.H
open Go.RowKit Go.Proofs.YtopcpbokfngpeaaGreatDoorW.PrintWords Go.Proofs.YtopcpbokfngpeaaGreatDoor.Base Go.Proofs.YtopcpbokfngpeaaGreatDoor.Pure

/-! A text of a known shape, read. -/
def formU (s a p q : Bs) : Ur := setTail { setAuth (baseU s) a with path := pathB (setB 1) p } q
/-! The authority. -/
def authB (u : Ur) : Bs := userB u ++ hostPV u.hk u.hn u.ha ++ portB u.port
structure AuthOk (u : Ur) : Prop where
 us : enc (setB 4) u.usr = u.usr
 ps : enc (setB 4) u.pas = u.pas
 host : HostRt u.hk u.hn u.ha
 port : u.port = -1 ∨ (0 ≤ u.port ∧ u.port ≤ 65535 ∧ u.port ≠ ownP u.sch)
/-! Addresses that are read as themselves. -/
structure GoodO (u : Ur) : Prop where
 s : schOk u.sch = true
 sl : lower u.sch = u.sch
 own : ownP u.sch < 0
 rest : u = setTail { baseU u.sch with opq := u.opq } (tailB u)
 o : enc (setB 5) u.opq = u.opq
 oc : ∀ c ∈ u.opq, ([63, 35] : Bs).contains c = false
 t : TailOk u
structure GoodH (u : Ur) : Prop where
 s : u.sch = [104, 116, 116, 112] ∨ u.sch = [104, 116, 116, 112, 115]
 a : AuthOk u
 pn : u.path ≠ []
 po : ∀ e ∈ u.path, Own e
 pl : u.path.length ≤ 12
 o : u.opq = []
 t : TailOk u
theorem http_sch (s : Bs) (h : s = [104, 116, 116, 112] ∨ s = [104, 116, 116, 112, 115]) : schOk s = true ∧ lower s = s ∧ 0 ≤ ownP s := by
 rcases h with rfl | rfl <;> decide
theorem own_http (s : Bs) (h : 0 ≤ ownP s) : s = [104, 116, 116, 112] ∨ s = [104, 116, 116, 112, 115] := by
 unfold ownP at h
 by_cases h1 : s = [104, 116, 116, 112]
 ·exact .inl h1
 ·rw [if_neg h1] at h
  by_cases h2 : s = [104, 116, 116, 112, 115]
  ·exact .inr h2
  ·rw [if_neg h2] at h; omega
theorem putU_O (u : Ur) (h : ownP u.sch < 0) : putU u = u.sch ++ 58 :: (u.opq ++ tailB u) := by
 unfold putU; rw [if_pos h]; simp
theorem putU_H (u : Ur) (h : 0 ≤ ownP u.sch) : putU u = u.sch ++ 58 :: (47 :: 47 :: (authB u ++ (pathPut u.path ++ tailB u))) := by
 unfold putU authB; rw [if_neg (by omega)]; simp
/-! What was read is of that make. -/
theorem scheme_some (l s r : Bs) (h : schemeV l = some (s, r)) : schOk s = true ∧ lower s = s ∧ s.length + 1 + r.length = l.length := by
 unfold schemeV at h
 split at h
 ·rename_i q
  obtain ⟨q1, q2⟩ := Bool.and_eq_true_iff.1 q
  obtain ⟨h1, h2⟩ := Prod.mk.inj (Option.some.inj h)
  have hlet : ∀ c : UInt8, isLet c = true → isLet (lowB c) = true := by
   intro c hc
   unfold isLet at hc ⊢
   unfold lowB
   simp only [Bool.or_eq_true, Bool.and_eq_true, decide_eq_true_eq] at hc ⊢
   have e : 65 ≤ c.toNat ∧ c.toNat ≤ 90 → (c + 32).toNat = c.toNat + 32 := fun h => by
    rw [UInt8.toNat_add]; show (c.toNat + 32) % 256 = _; omega
   split
   ·rename_i h; rw [e h]; omega
   ·exact hc
  have hsch : ∀ c : UInt8, schC c = true → schC (lowB c) = true := by
   intro c hc
   by_cases hl : isLet c = true
   ·unfold schC; rw [hlet c hl]; rfl
   ·have : lowB c = c := by
     unfold lowB
     rw [if_neg]
     intro q
     exact hl (by unfold isLet; simp only [Bool.or_eq_true, Bool.and_eq_true, decide_eq_true_eq]; exact .inr q)
    rw [this]; exact hc
  have hlow : ∀ c : UInt8, lowB (lowB c) = lowB c := by
   intro c
   unfold lowB
   split
   ·rename_i h
    have e : (c + 32).toNat = c.toNat + 32 := by rw [UInt8.toNat_add]; show (c.toNat + 32) % 256 = _; omega
    rw [if_neg (by rw [e]; omega)]
   ·rfl
  refine ⟨?_, ?_, ?_⟩
  ·unfold schOk at q2 ⊢
   obtain ⟨q3, q4⟩ := Bool.and_eq_true_iff.1 q2
   obtain ⟨q5, q6⟩ := Bool.and_eq_true_iff.1 q3
   rw [← h1]
   cases hc : cutAh 58 l with
   | nil => rw [hc] at q5; cases q5
   | cons c t =>
    rw [hc] at q6 q4
    have q6' : isLet c = true := q6
    have : (lower (c :: t)).all schC = true := by
     unfold lower
     rw [List.all_map, List.all_eq_true]
     intro d hd
     exact hsch d (List.all_eq_true.1 q4 d hd)
    rw [this]
    show (true && isLet (lowB c) && true) = true
    rw [hlet c q6']; rfl
  ·rw [← h1]
   unfold lower
   rw [List.map_map]
   exact List.map_congr_left fun c _ => hlow c
  ·have ht := cut_total 58 l
   rw [q1, if_pos rfl] at ht
   rw [← h1, ← h2, lower_length]; omega
 ·cases h
theorem auth_of (s l : Bs) (h : authOk (baseU s) l = true) : AuthOk (setAuth (baseU s) l) ∧ (authB (setAuth (baseU s) l)).length ≤ 3 * l.length + 15 := by
 unfold authOk at h
 obtain ⟨h1, h2⟩ := Bool.and_eq_true_iff.1 h
 obtain ⟨n, hn⟩ := Option.isSome_iff_exists.1 h2
 have hn' : portV (cutBe 58 (behAt l)) (ownP s) = some n := hn
 have hport : (setAuth (baseU s) l).port = n := by
  show (portV (cutBe 58 (behAt l)) (ownP s)).getD 0 = n
  rw [hn']; rfl
 have hsch : (setAuth (baseU s) l).sch = s := by
  unfold setAuth
  simp only []
  split <;> rfl
 have hwho : (enc (setB 4) (setAuth (baseU s) l).usr = (setAuth (baseU s) l).usr ∧ enc (setB 4) (setAuth (baseU s) l).pas = (setAuth (baseU s) l).pas) ∧ (userB (setAuth (baseU s) l)).length ≤ 3 * (l.length - (behAt l).length) := by
  unfold setAuth userB
  simp only []
  rcases atN_cases l with ⟨e, _⟩ | ⟨a, b, e, _, ha⟩
  ·rw [e, if_neg (by omega)]
   exact ⟨⟨rfl, rfl⟩, by show (if ([] : Bs) ≠ [] ∨ ([] : Bs) ≠ [] then _ else ([] : Bs)).length ≤ _; rw [if_neg (by simp)]; simp⟩
  ·rw [ha, if_pos (by omega)]
   refine ⟨⟨enc_twice 4 _, enc_twice 4 _⟩, ?_⟩
   have e1 : ahAt l = a := by unfold ahAt; rw [ha, Int.toNat_natCast, e, List.take_left]
   have e2 : (behAt l).length = b.length := by
    unfold behAt; rw [ha, show (((a.length : Nat) : Int) + 1).toNat = a.length + 1 by omega, e]; simp
   have e3 : l.length = a.length + 1 + b.length := by rw [e]; simp; omega
   have ht := cut_total 58 a
   show (if enc (setB 4) (cutAh 58 (ahAt l)) ≠ [] ∨ enc (setB 4) (cutBe 58 (ahAt l)) ≠ [] then enc (setB 4) (cutAh 58 (ahAt l)) ++ (if enc (setB 4) (cutBe 58 (ahAt l)) ≠ [] then 58 :: enc (setB 4) (cutBe 58 (ahAt l)) else []) ++ [64] else []).length ≤ _
   rw [e1, e2, e3]
   have l1 := (enc_len (setB 4) (cutAh 58 a)).2
   have l2 := (enc_len (setB 4) (cutBe 58 a)).2
   split
   ·rw [List.length_append, List.length_append]
    by_cases hc : a.contains 58 = true
    ·rw [if_pos hc] at ht
     split
     ·simp; omega
     ·simp; omega
    ·rw [if_neg hc] at ht
     have hb0 : cutBe 58 a = [] := cutBe_plain 58 a fun x hx q => hc (by rw [List.contains_eq_mem]; exact decide_eq_true (q ▸ hx))
     rw [hb0]
     rw [if_neg (by simp [enc])]
     simp; omega
   ·simp
 have hhost : (setAuth (baseU s) l).hk = (hostGV (cutAh 58 (behAt l))).1 ∧ (setAuth (baseU s) l).hn = (hostGV (cutAh 58 (behAt l))).2.1.data.toList ∧ (setAuth (baseU s) l).ha = (hostGV (cutAh 58 (behAt l))).2.2.1 := ⟨rfl, rfl, rfl⟩
 refine ⟨⟨hwho.1.1, hwho.1.2, ?_, ?_⟩, ?_⟩
 ·rw [hhost.1, hhost.2.1, hhost.2.2]; exact host_rt _ h1
 ·rw [hport, hsch]; exact portV_rng _ _ _ hn'
 ·unfold authB
  rw [hport, hhost.1, hhost.2.1, hhost.2.2, List.length_append, List.length_append]
  have hz := host_size _ h1
  have hb := behAt_len l
  have ht := cut_total 58 (behAt l)
  have hw := hwho.2
  by_cases hc : (behAt l).contains 58 = true
  ·rw [if_pos hc] at ht
   have hp := portB_size _ _ _ hn'
   omega
  ·rw [if_neg hc] at ht
   have hb0 : cutBe 58 (behAt l) = [] := cutBe_plain 58 _ fun x hx q => hc (by rw [List.contains_eq_mem]; exact decide_eq_true (q ▸ hx))
   rw [hb0, portV_nil] at hn'
   obtain rfl := Option.some.inj hn'
   have : (portB (-1)).length = 0 := rfl
   omega
theorem good_read (s r : Bs) (hs : schOk s = true) (hl : lower s = s) (hr : r.length ≤ 200) (h : (readU s r).2 = true) :
  (GoodO (readU s r).1 ∨ GoodH (readU s r).1) ∧ (readU s r).1.sch = s ∧ (putU (readU s r).1).length ≤ 3 * r.length + s.length + 19 := by
 unfold readU at h ⊢
 by_cases ho : ownP s < 0
 ·rw [if_pos ho] at h ⊢
  show (GoodO (opaqueU s r) ∨ GoodH (opaqueU s r)) ∧ (opaqueU s r).sch = s ∧ (putU (opaqueU s r)).length ≤ _
  have ht : TailOk (opaqueU s r) := setTail_ok _ _
  have hsch : (opaqueU s r).sch = s := rfl
  have hopq : (opaqueU s r).opq = enc (setB 5) (upA [63, 35] r) := rfl
  refine ⟨.inl ⟨hs, hl, ho, ?_, ?_, ?_, ht⟩, rfl, ?_⟩
  ·rw [tail_back (opaqueU s r) _ ht, hsch, hopq]; rfl
  ·rw [hopq]; exact enc_twice 5 _
  ·rw [hopq]
   intro c hc
   have h1 : ∀ x : UInt8, ([63, 35] : Bs).contains x = true → c ≠ x := fun x hx => by
    refine enc_keeps (setB 5) _ x ?_ (fun d hd q => ?_) c hc
    ·intro q
     simp only [List.contains_eq_mem, List.mem_cons, List.not_mem_nil, or_false, decide_eq_true_eq] at hx
     rcases hx with rfl | rfl <;> revert q <;> decide
    ·have := upA_not [63, 35] r d hd
     rw [q, hx] at this; cases this
   have g1 := h1 63 (by decide)
   have g2 := h1 35 (by decide)
   simp [g1, g2]
  ·rw [putU_O _ ho, hsch, hopq]
   have h1 := (enc_len (setB 5) (upA [63, 35] r)).2
   have h2 : (tailB (opaqueU s r)).length ≤ 3 * (upR [63, 35] r).length := setTail_size _ _
   have h3 := up_len [63, 35] r
   simp; omega
 ·rw [if_neg ho] at h ⊢
  by_cases hk : hostedOk s r = true
  ·rw [if_pos hk]
   show (GoodO (hostedU s r) ∨ GoodH (hostedU s r)) ∧ (hostedU s r).sch = s ∧ (putU (hostedU s r)).length ≤ _
   unfold hostedOk at hk
   obtain ⟨k1, k2⟩ := Bool.and_eq_true_iff.1 hk
   obtain ⟨k3, k4⟩ := Bool.and_eq_true_iff.1 k2
   obtain ⟨a1, a2⟩ := auth_of s _ k1
   have hsch0 : ∀ v l, (setAuth v l).sch = v.sch := fun v l => by
    unfold setAuth
    simp only []
    split <;> rfl
   have hopq0 : ∀ v l, (setAuth v l).opq = v.opq := fun v l => by
    unfold setAuth
    simp only []
    split <;> rfl
   have hsch : (hostedU s r).sch = s := hsch0 _ _
   have ht : TailOk (hostedU s r) := setTail_ok _ _
   have hpath : (hostedU s r).path = pathB (setB 1) (upA [63, 35] (upR [47, 92, 63, 35] (offSl r))) := rfl
   have l0 : (offSl r).length ≤ r.length := (List.dropWhile_sublist _).length_le
   have l1 := up_len [47, 92, 63, 35] (offSl r)
   have l2 := up_len [63, 35] (upR [47, 92, 63, 35] (offSl r))
   have lp : (upA [63, 35] (upR [47, 92, 63, 35] (offSl r))).length ≤ 200 := by omega
   refine ⟨.inr ⟨by rw [hsch]; exact own_http s (by omega), ?_, ?_, ?_, of_decide_eq_true k3, hopq0 _ _, ht⟩, hsch, ?_⟩
   ·exact ⟨a1.us, a1.ps, a1.host, by have := a1.port; rw [hsch0] at this; rw [hsch]; exact this⟩
   ·rw [hpath]; exact path_ne _ lp
   ·rw [hpath]; exact path_own _ lp
   ·rw [putU_H _ (by rw [hsch]; omega), hsch]
    have e1 : authB (hostedU s r) = authB (setAuth (baseU s) (upA [47, 92, 63, 35] (offSl r))) := rfl
    have e2 : (pathPut (hostedU s r).path).length ≤ 3 * (upA [63, 35] (upR [47, 92, 63, 35] (offSl r))).length + 1 := path_room _ lp
    have e3 : (tailB (hostedU s r)).length ≤ 3 * (upR [63, 35] (upR [47, 92, 63, 35] (offSl r))).length := setTail_size _ _
    rw [e1]
    simp; omega
  ·rw [if_neg hk] at h; cases h
theorem good_of (t : Bs) (h : (urlG t).2 = true) : (GoodO (urlG t).1 ∨ GoodH (urlG t).1) ∧ (putU (urlG t).1).length ≤ 3 * t.length + 14 := by
 unfold urlG at h ⊢
 by_cases hl : t.length ≤ 200
 ·rw [if_pos hl] at h ⊢
  have htl := trimU_len t
  cases hs : schemeV (trimU t) with
  | none => rw [hs] at h; cases h
  | some sr =>
   obtain ⟨s, r⟩ := sr
   rw [hs] at h
   obtain ⟨s1, s2, s3⟩ := scheme_some _ _ _ hs
   obtain ⟨g1, g2, g3⟩ := good_read s r s1 s2 (by omega) h
   refine ⟨g1, ?_⟩
   show (putU (readU s r).1).length ≤ _
   have hs1 : 1 ≤ s.length := by
    unfold schOk at s1
    cases s with
    | nil => cases s1
    | cons c t => simp
   omega
 ·rw [if_neg hl] at h; cases h
theorem urlG_len (l : Bs) (h : (urlG l).2 = true) : l.length ≤ 200 := by
 unfold urlG at h
 by_cases hl : l.length ≤ 200
 ·exact hl
 ·rw [if_neg hl] at h; cases h
end Go.Proofs.YtopcpbokfngpeaaGreatDoor.H
/- impl.parse at a scheme with hosts: the call comes to the address that the text is read as; the package-level variables read as their tables. -/
set_option linter.unusedVariables false
namespace Go.Proofs.YtopcpbokfngpeaaGreatDoor.H
open Go.RowKit Go.Proofs.YtopcpbokfngpeaaGreatDoorW.PrintWords Go.Proofs.YtopcpbokfngpeaaGreatDoor.Base Go.Proofs.YtopcpbokfngpeaaGreatDoor.Pure
def UrlOut (r : Ur × Bool) (w : World) (e : Ending) (w' : World) : Prop := ∃ pv, e = .returned (.tuple #[.agg (uCells r.1 pv), .bool r.2]) ∧ QRow w' w.heap.size 9 1 pv r.1.path.length (strV r.1.path) ∧ Below w.heap.size w w'
theorem offSl_cons (c : UInt8) (t : Bs) : offSl (c :: t) = if isSl c = true then offSl t else c :: t := by unfold offSl; rw [List.dropWhile_cons]
theorem pathPut_ge : ∀ ps : List Bs, ps.length ≤ (pathPut ps).length
 | [] => Nat.le_refl _
 | s :: t => by
  have := pathPut_ge t
  have e : pathPut (s :: t) = 47 :: s ++ pathPut t := by simp [pathPut]
  rw [e]; simp; omega
theorem hostGV_small (l : Bs) : (hostGV l).2.1.data.toList.length ≤ 60 := by
 rcases hostGV_shape l with e | ⟨x, hx, e⟩ | ⟨a, ha, e⟩
 ·rw [e]; show ([] : Bs).length ≤ 60; simp
 ·rw [e]; show (B x).data.toList.length ≤ 60; rw [B_data]; exact (plain_len x hx).2
 ·rw [e]; show ([] : Bs).length ≤ 60; simp
theorem setAuth_eq (v : Ur) (l : Bs) : setAuth v l = { (if 0 ≤ atN l then setWho v (ahAt l) else v) with hk := (hostGV (cutAh 58 (behAt l))).1, hn := (hostGV (cutAh 58 (behAt l))).2.1.data.toList, ha := (hostGV (cutAh 58 (behAt l))).2.2.1, port := (portA (cutBe 58 (behAt l)) (ownP v.sch)).1 } := by
 unfold setAuth portA
 cases portV (cutBe 58 (behAt l)) (ownP v.sch) <;> rfl
theorem authOk_eq (v : Ur) (l : Bs) : authOk v l = ((hostGV (cutAh 58 (behAt l))).2.2.2 && (portA (cutBe 58 (behAt l)) (ownP v.sch)).2) := by
 unfold authOk portA
 cases portV (cutBe 58 (behAt l)) (ownP v.sch) <;> rfl
theorem fit_hosted (s r : Bs) (hs : s.length + r.length ≤ 200) : Fit (hostedU s r) := by
 have l0 : (offSl r).length ≤ r.length := (List.dropWhile_sublist _).length_le
 have l1 := up_len [47, 92, 63, 35] (offSl r)
 have l2 := up_len [63, 35] (upR [47, 92, 63, 35] (offSl r))
 generalize ha : upA [47, 92, 63, 35] (offSl r) = a at l1
 generalize hp : upA [63, 35] (upR [47, 92, 63, 35] (offSl r)) = p at l2
 generalize hq : upR [63, 35] (upR [47, 92, 63, 35] (offSl r)) = q at l2
 have hU : hostedU s r = setTail { setAuth (baseU s) a with path := pathB (setB 1) p } q := by
  unfold hostedU setHosted; rw [ha, hp, hq]
 have h3 := (enc_len (setB 2) ((cutAh 35 q).drop 1)).2
 have h4 := (enc_len (setB 3) (cutBe 35 q)).2
 have h5 := cutAh_le 35 q
 have h6 := cutBe_le 35 q
 rw [List.length_drop] at h3
 have h7 := ahAt_len a
 have h8 := cutAh_le 58 (ahAt a)
 have h9 := cutBe_le 58 (ahAt a)
 have h10 := (enc_len (setB 4) (cutAh 58 (ahAt a))).2
 have h11 := (enc_len (setB 4) (cutBe 58 (ahAt a))).2
 have h12 := hostGV_small (cutAh 58 (behAt a))
 have h13 : (pathPut (pathB (setB 1) p)).length ≤ 3 * p.length + 1 := path_room p (by omega)
 have h14 := pathPut_ge (pathB (setB 1) p)
 have hwho : (setAuth (baseU s) a).sch = s ∧ (setAuth (baseU s) a).usr.length ≤ 600 ∧ (setAuth (baseU s) a).pas.length ≤ 600 ∧ (setAuth (baseU s) a).opq = [] := by
  rw [setAuth_eq]
  show (if 0 ≤ atN a then setWho (baseU s) (ahAt a) else baseU s).sch = s ∧ (if 0 ≤ atN a then setWho (baseU s) (ahAt a) else baseU s).usr.length ≤ 600 ∧ (if 0 ≤ atN a then setWho (baseU s) (ahAt a) else baseU s).pas.length ≤ 600 ∧ (if 0 ≤ atN a then setWho (baseU s) (ahAt a) else baseU s).opq = []
  split
  ·exact ⟨rfl, by show (enc (setB 4) (cutAh 58 (ahAt a))).length ≤ _; omega, by show (enc (setB 4) (cutBe 58 (ahAt a))).length ≤ _; omega, rfl⟩
  ·exact ⟨rfl, Nat.zero_le _, Nat.zero_le _, rfl⟩
 have hport : -1 ≤ (setAuth (baseU s) a).port ∧ (setAuth (baseU s) a).port ≤ 65535 := by
  show -1 ≤ (portV (cutBe 58 (behAt a)) (ownP s)).getD 0 ∧ (portV (cutBe 58 (behAt a)) (ownP s)).getD 0 ≤ 65535
  cases hv : portV (cutBe 58 (behAt a)) (ownP s) with
  | none => show -1 ≤ (0 : Int) ∧ (0 : Int) ≤ 65535; omega
  | some n =>
   have := portV_rng _ _ _ hv
   show -1 ≤ n ∧ n ≤ 65535; omega
 rw [hU]
 refine ⟨?_, ?_, ?_, ?_, ?_, ?_, ?_, ?_, ?_, ?_⟩
 ·show (setAuth (baseU s) a).sch.length ≤ _; rw [hwho.1]; omega
 ·show (setAuth (baseU s) a).usr.length ≤ _; omega
 ·show (setAuth (baseU s) a).pas.length ≤ _; omega
 ·show (hostGV (cutAh 58 (behAt a))).2.1.data.toList.length ≤ _; omega
 ·show (setAuth (baseU s) a).opq.length ≤ _; rw [hwho.2.2.2]; simp
 ·show (enc (setB 2) ((cutAh 35 q).drop 1)).length ≤ _; omega
 ·show (enc (setB 3) (cutBe 35 q)).length ≤ _; omega
 ·show (pathPut (pathB (setB 1) p)).length ≤ _; omega
 ·show (pathB (setB 1) p).length ≤ _; omega
 ·show -9223372036854775808 ≤ (setAuth (baseU s) a).port ∧ (setAuth (baseU s) a).port ≤ 9223372036854775807; omega
theorem pathAt_q {w : World} {base : Nat} {pv : Value} {ps : List Bs} (h : QRow w base 9 1 pv ps.length (strV ps)) : PathAt w pv ps := by
 obtain ⟨A, c, h1, h2, h3⟩ := Kd.Q_reads (Q_of_strs h)
 rw [List.length_map] at h1 h2
 exact ⟨A, c, h1, h2, h3⟩
theorem pathB_same (l : Bs) : pathB (setI 1) l = pathB (setB 1) l := by unfold pathB; rw [walkL_same]
def z13 : Array Value := #[.string (B []), .string (B []), .string (B []), .int .i64 0, .string (B []), .int .i64 0, .int .i64 0, .slice none 0 0, .string (B []), .bool false, .string (B []), .bool false, .string (B [])]
def strLen : Value → Nat | .string b => b.size | _ => 0
set_option maxHeartbeats 8000000 in
set_option maxRecDepth 100000 in
theorem parse_hosted (l t s r : Bs) (w : World) (hl : l.length ≤ 200) (ht : trimU l = t) (hs : schemeV t = some (s, r)) (ho : 0 ≤ ownP s) (hS : TabS w) (hM : TabM w) (hI : TabI w) : Calls Tryz.prog 61 #[.string (B l)] w (UrlOut (readU s r) w) := by
 have htl := trimU_len l
 have HT := Lib.hid fun w1 => strip_walk l w1 (by omega)
 rw [ht] at HT htl
 have HC := Lib.hid fun w1 (hb : Below w.heap.size w w1) => schemeOf_walk t w1 (hM.below hb) (by omega)
 have hA : schemeA t = (s, r, true) := by unfold schemeA; rw [hs]
 rw [hA] at HC
 have hlen := (scheme_some t s r hs).2.2
 have HSP := Lib.hid (special_walk s)
 have hd : decide (0 ≤ ownP s) = true := decide_eq_true ho
 have hsr : s.length + r.length ≤ 200 := by omega
 clear hA hs ht
 have HS0 := held_new w (.string (B [])) (.string (B [])) (.string (B [])) (.int .i64 0) (.string (B [])) (.int .i64 0) (.int .i64 0) (.slice none 0 0) (.string (B [])) (.bool false) (.string (B [])) (.bool false) (.string (B []))
 have K0 : Blk (w.alloc (.cells #[.string (B []), .string (B []), .string (B []), .int .i64 0, .string (B []), .int .i64 0, .int .i64 0, .slice none 0 0, .string (B []), .bool false, .string (B []), .bool false, .string (B [])] 27)) w.heap.size z13 := blk_new w _
 have l0 : (offSl r).length ≤ r.length := (List.dropWhile_sublist _).length_le
 have l1 := up_len [47, 92, 63, 35] (offSl r)
 have l2 := up_len [63, 35] (upR [47, 92, 63, 35] (offSl r))
 have HU1 := Lib.hid fun w1 => upTo_walk (offSl r) [47, 92, 63, 35] w1 (by simp) (by simp) (by decide) (by omega)
 have HU2 := Lib.hid fun w1 => upTo_walk (upR [47, 92, 63, 35] (offSl r)) [63, 35] w1 (by simp) (by simp) (by decide) (by omega)
 have HFit := Lib.hid (fit_hosted s r hsr)
 have HRD : Hid (readU s r = if hostedOk s r = true then (hostedU s r, true) else (Ur.zero, false)) := Lib.hid (by unfold readU; rw [if_neg (by omega)])
 have HH : Hid (∀ a p q, upA [47, 92, 63, 35] (offSl r) = a → upA [63, 35] (upR [47, 92, 63, 35] (offSl r)) = p → upR [63, 35] (upR [47, 92, 63, 35] (offSl r)) = q →
   hostedU s r = setTail { setAuth (baseU s) a with path := pathB (setB 1) p } q ∧ hostedOk s r = (authOk (baseU s) a && (decide ((hostedU s r).path.length ≤ 12) && decide ((putU (hostedU s r)).length ≤ 600)))) := Lib.hid (by rintro a p q rfl rfl rfl; exact ⟨rfl, rfl⟩)
 generalize hw0 : offSl r = y0 at HU1 HU2 l0 l1 l2 HH
 have HOff := Lib.hid hw0
 clear hw0
 obtain ⟨a, ha⟩ : ∃ a, a = upA [47, 92, 63, 35] y0 := ⟨_, rfl⟩
 obtain ⟨b, hb⟩ : ∃ b, b = upR [47, 92, 63, 35] y0 := ⟨_, rfl⟩
 rw [← ha, ← hb] at HU1 l1 HH
 rw [← hb] at HU2 l2
 obtain ⟨p, hp⟩ : ∃ p, p = upA [63, 35] b := ⟨_, rfl⟩
 obtain ⟨q, hq⟩ : ∃ q, q = upR [63, 35] b := ⟨_, rfl⟩
 rw [← hp, ← hq] at HU2 l2 HH
 have HH2 := Lib.hid (HH.out a p q rfl rfl rfl)
 clear ha hb hp hq HH
 obtain ⟨V, hV⟩ : ∃ V, V = (if 0 ≤ atN a then setWho (baseU s) (ahAt a) else baseU s) := ⟨_, rfl⟩
 have HV := Lib.hid hV
 clear hV
 obtain ⟨n, hn⟩ : ∃ n, n = atN a := ⟨_, rfl⟩
 have HN := Lib.hid hn
 have hnr := atN_rng a
 rw [← hn] at hnr
 clear hn
 go_enter Tryz.func61, Tryz.ntmps61
 go_wp2_with fail
 refine (HT.out _).mono ?_
 rintro e w1 ⟨rfl, hb1⟩
 have HS1 := HS0.go hb1
 go_wp2_with fail
 refine (HC.out _ HS1.2).mono ?_
 rintro e w2 ⟨rfl, hb2⟩
 have HB2 := Lib.hid (HS1.go hb2).2
 have K2 := (K0.below hb1).below hb2
 clear HS1 hb1 hb2 HS0 K0
 go_wp2_with fail
 have K7 : Blk (w2.alloc (.cells #[.string (B s), .string ⟨#[]⟩, .string ⟨#[]⟩, .int .i64 0, .string ⟨#[]⟩, .int .i64 0, .int .i64 (-1), .slice none 0 0, .string ⟨#[]⟩, .bool false, .string ⟨#[]⟩, .bool false, .string ⟨#[]⟩] 27)) w2.heap.size (uCells (baseU s) (.slice none 0 0)) := blk_new w2 _
 have K23 := K2.below (below_alloc (Below.refl w2.heap.size w2) (.cells #[.string (B s), .string ⟨#[]⟩, .string ⟨#[]⟩, .int .i64 0, .string ⟨#[]⟩, .int .i64 0, .int .i64 (-1), .slice none 0 0, .string ⟨#[]⟩, .bool false, .string ⟨#[]⟩, .bool false, .string ⟨#[]⟩] 27))
 have HB3 := Lib.hid (HB2.out.alloc HB2.out.size (.cells #[.string (B s), .string ⟨#[]⟩, .string ⟨#[]⟩, .int .i64 0, .string ⟨#[]⟩, .int .i64 0, .int .i64 (-1), .slice none 0 0, .string ⟨#[]⟩, .bool false, .string ⟨#[]⟩, .bool false, .string ⟨#[]⟩] 27))
 have hne : w.heap.size ≠ w2.heap.size := by have := K2.lt; omega
 have hge : w.heap.size ≤ w2.heap.size := HB2.out.size
 generalize w2.alloc (.cells #[.string (B s), .string ⟨#[]⟩, .string ⟨#[]⟩, .int .i64 0, .string ⟨#[]⟩, .int .i64 0, .int .i64 (-1), .slice none 0 0, .string ⟨#[]⟩, .bool false, .string ⟨#[]⟩, .bool false, .string ⟨#[]⟩] 27) = w3 at K7 K23 HB3 ⊢
 generalize w2.heap.size = g at K7 hne hge ⊢
 clear HB2 K2
 refine (HSP.out _).mono ?_
 rintro e w4 ⟨rfl, hw4⟩
 subst w4
 rw [hd]
 go_upto_block 0 with fail
 go_cut [5] (fun v wc => v = .string (B y0) ∧ wc = w3)
 case first =>
  go_wp2_with fail
  go_loop [5] (fun v => ∃ y : Bs, y.length ≤ 200 ∧ v = .string (B y) ∧ Hid (offSl y = y0)) strLen
  case atStart => exact ⟨r, by omega, rfl, HOff⟩
  case round =>
   obtain ⟨y, hy, rfl, HY⟩ := hrel
   cases y with
   | nil =>
    have e0 : ([] : Bs).isEmpty = true := rfl
    have HZ : Hid (([] : Bs) = y0) := Lib.hid HY.out
    go_wp2
    go_meet
    case rel => exact ⟨by rw [← HZ.out], rfl⟩
   | cons c t =>
    have e1 : (c :: t : Bs).isEmpty = false := rfl
    have e2 : ((c :: t : Bs) != []) = true := rfl
    have hst := offSl_cons c t
    rw [HY.out] at hst
    have HST := Lib.hid hst
    have hex : (B (c :: t)).extract 1 (t.length + 1) = B t := by rw [B_extract, List.take_of_length_le (by simp)]; rfl
    clear hst
    go_wp2_with fail
    refine (isSlash_walk c _).mono ?_
    rintro e w4 ⟨rfl, hw4⟩
    subst w4
    cases hc : isSl c with
    | true =>
     have HZ : Hid (offSl t = y0) := Lib.hid (by rw [HST.out, if_pos hc])
     go_wp2
     go_round
     case rel => exact ⟨t, by simp at hy; omega, rfl, HZ⟩
     case measure => simp [strLen]
    | false =>
     have HZ : Hid (c :: t = y0) := Lib.hid (by rw [HST.out, if_neg (by rw [hc]; simp)])
     go_wp2
     go_meet
     case rel => exact ⟨by rw [← HZ.out], rfl⟩
 case rest =>
  obtain ⟨rfl, rfl⟩ := hcut
  go_wp2_with fail
  refine (HU1.out _).mono ?_
  rintro e w4 ⟨rfl, hb4⟩
  have K74 := K7.below hb4
  have K24 := K23.below hb4
  have HB4 := Lib.hid (below_then HB3.out HB3.out.size hb4)
  clear hb4 K7 K23 HB3
  go_wp2_with fail
  refine (HU2.out _).mono ?_
  rintro e w5 ⟨rfl, hb5⟩
  have K75 := K74.below hb5
  have K25 := K24.below hb5
  have HB5 := Lib.hid (below_then HB4.out HB4.out.size hb5)
  clear hb5 K74 K24 HB4
  go_wp2_with fail
  refine (Tryz.strings_LastIndexByte (B a) 64 (by rw [B_size]; omega) w5).mono ?_
  rintro e w6 ⟨rfl, hw6⟩
  subst w6
  rw [atN_lib, ← HN.out]
  go_upto_if 82 with fail
  go_cut [12] (fun v wc => v = .string (B (behAt a)) ∧ ∃ w6, w6 = wc ∧ Blk w6 g (uCells V (.slice none 0 0)) ∧ Blk w6 w.heap.size z13 ∧ Below w.heap.size w w6)
  case first =>
   by_cases h0 : 0 ≤ n
   ·obtain ⟨k, rfl⟩ : ∃ k : Nat, n = (k : Int) := ⟨n.toNat, by omega⟩
    have hk : k < a.length := by omega
    have hx : (B a).extract 0 k = B (ahAt a) := by rw [B_extract]; unfold ahAt; rw [← HN.out]; rfl
    have hx2 : (B a).extract (k + 1) a.length = B (behAt a) := by
     rw [B_extract, List.take_of_length_le (by simp)]; unfold behAt; rw [← HN.out]; rfl
    have HV2 : Hid (V = setWho (baseU s) (ahAt a)) := Lib.hid (by rw [HV.out, ← HN.out, if_pos h0])
    have h7 := ahAt_len a
    have h8 := cutAh_le 58 (ahAt a)
    have h9 := cutBe_le 58 (ahAt a)
    go_wp2_with fail
    refine (cutU_walk 58 (ahAt a) _ (hM.below HB5.out) (by omega)).mono ?_
    rintro e w6 ⟨rfl, hb6⟩
    have K76 := K75.below hb6
    have K26 := K25.below hb6
    have HB6 := Lib.hid (below_then HB5.out HB5.out.size hb6)
    clear hb6 K75 K25 HB5
    go_wp2_with fail
    refine (encU_walk 4 (cutAh 58 (ahAt a)) w6 (hS.below HB6.out) (by omega)).mono ?_
    rintro e w7 ⟨rfl, hb7⟩
    have K77 := K76.below hb7
    have K27 := K26.below hb7
    have HB7 := Lib.hid (below_then HB6.out HB6.out.size hb7)
    clear hb7 K76 K26 HB6
    go_wp2_with fail
    refine (encU_walk 4 (cutBe 58 (ahAt a)) w7 (hS.below HB7.out) (by omega)).mono ?_
    rintro e w8 ⟨rfl, hb8⟩
    have K78 := K77.below hb8
    have K28 := K27.below hb8
    have HB8 := Lib.hid (below_then HB7.out HB7.out.size hb8)
    have kc := K78.cells
    clear hb8 K77 K27 HB7
    go_wp2
    go_meet
    case rel => exact ⟨rfl, _, rfl, by rw [HV2.out]; exact (K78.put 1 _).put 2 _, (K28.far (p := ⟨g, 1, none⟩) hne _).far (p := ⟨g, 2, none⟩) hne _, (HB8.out.setCell hge _).setCell hge _⟩
   ·have hm : n = -1 := by omega
    subst hm
    have HV2 : Hid (V = baseU s) := Lib.hid (by rw [HV.out, ← HN.out, if_neg h0])
    have hbe : behAt a = a := by unfold behAt; rw [← HN.out]; rfl
    go_wp2
    go_meet
    case rel => exact ⟨by rw [hbe], _, rfl, by rw [HV2.out]; exact K75, K25, HB5.out⟩
  case rest =>
   obtain ⟨rfl, w6, rfl, K76, K26, hb6⟩ := hcut
   have HB6 := Lib.hid hb6
   clear hb6 K75 K25 HB5
   have HSA : Hid (setAuth (baseU s) a = { V with hk := (hostGV (cutAh 58 (behAt a))).1, hn := (hostGV (cutAh 58 (behAt a))).2.1.data.toList, ha := (hostGV (cutAh 58 (behAt a))).2.2.1, port := (portA (cutBe 58 (behAt a)) (ownP s)).1 }) := Lib.hid (by rw [setAuth_eq, HV.out]; rfl)
   have HAO : Hid (authOk (baseU s) a = ((hostGV (cutAh 58 (behAt a))).2.2.2 && (portA (cutBe 58 (behAt a)) (ownP s)).2)) := Lib.hid (authOk_eq _ _)
   have h7 := behAt_len a
   have h8 := cutAh_le 58 (behAt a)
   have h9 := cutBe_le 58 (behAt a)
   have HCU := Lib.hid (cutU_walk 58 (behAt a) w6 (hM.below HB6.out) (by omega))
   generalize behAt a = z at h7 h8 h9 HSA HAO HCU ⊢
   go_wp2_with fail
   refine HCU.out.mono ?_
   rintro e w7 ⟨rfl, hb7⟩
   clear HCU
   generalize cutAh 58 z = x at h8 HSA HAO ⊢
   generalize cutBe 58 z = y at h9 HSA HAO ⊢
   have K77 := K76.below hb7
   have K27 := K26.below hb7
   have HB7 := Lib.hid (below_then HB6.out HB6.out.size hb7)
   clear hb7 K76 K26 HB6
   have HHG := Lib.hid (implHostGet_walk x w7 (hM.below HB7.out) (by omega))
   generalize (hostGV x).1 = hk at HSA HHG
   generalize (hostGV x).2.1.data.toList = hn at HSA HHG
   generalize (hostGV x).2.2.1 = ha at HSA HHG
   generalize (hostGV x).2.2.2 = hok at HAO HHG
   go_wp2_with fail
   refine HHG.out.mono ?_
   rintro e w8 ⟨rfl, hb8⟩
   clear HHG
   have K78 := K77.below hb8
   have K28 := K27.below hb8
   have HB8 := Lib.hid (below_then HB7.out HB7.out.size hb8)
   clear hb8 K77 K27 HB7
   have HPO := Lib.hid fun w1 => portOf_walk y (ownP s) w1 (by omega)
   generalize (portA y (ownP s)).1 = po at HSA HPO
   generalize (portA y (ownP s)).2 = pok at HAO HPO
   go_wp2_with fail
   have HS8 : Held3 w w8.heap.size (.int .i64 hk) (.string (B hn)) (.int .i64 ha) (w8.alloc (.cells #[.int .i64 hk, .string (B hn), .int .i64 ha] 24)) := ⟨(Held3.new w8 _ _ _ _).1, HB8.out.alloc HB8.out.size _⟩
   have K79 := K78.below (below_alloc (Below.refl w8.heap.size w8) (.cells #[.int .i64 hk, .string (B hn), .int .i64 ha] 24))
   have K29 := K28.below (below_alloc (Below.refl w8.heap.size w8) (.cells #[.int .i64 hk, .string (B hn), .int .i64 ha] 24))
   have hneh : g ≠ w8.heap.size := by have := K78.lt; omega
   generalize w8.alloc (.cells #[.int .i64 hk, .string (B hn), .int .i64 ha] 24) = w9 at HS8 K79 K29 ⊢
   generalize w8.heap.size = h at HS8 hneh ⊢
   clear K78 K28 HB8
   refine (HPO.out _).mono ?_
   rintro e w10 ⟨rfl, hb10⟩
   have HS10 := HS8.go hb10
   have K710 := K79.below hb10
   have K210 := K29.below hb10
   have HB10 := Lib.hid HS10.2
   have hB10 := HS10.2
   clear hb10 HS8 K79 K29 HPO
   have HPG := Lib.hid fun w1 (hb : Below w.heap.size w w1) => pathGet_walk p w1 (hS.below hb) (hM.below hb)
   rw [pathB_same] at HPG
   generalize pathB (setB 1) p = ps at HPG HH2
   go_wp2_with fail
   go_region_held3 (Held3 w h (.int .i64 hk) (.string (B hn)) (.int .i64 ha))
    (first | (with_reducible assumption) | ((with_reducible refine Held3.drew ?_); (with_reducible assumption)) | ((with_reducible refine Held3.go ?_ hb11); (with_reducible assumption)) | ((with_reducible refine Held3.far ?_ hneh hge _); (first | (with_reducible assumption) | ((with_reducible refine Held3.far ?_ hneh hge _); (first | (with_reducible assumption) | ((with_reducible refine Held3.far ?_ hneh hge _); (with_reducible assumption)))))))
    ((go_at_call 99; refine (HPG.out _ ?sb).mono ?_; (case sb => exact below_drew hB10); rintro e w11 ⟨pv, rfl, hq11, hb11⟩; obtain ⟨A, c, rfl, hAc⟩ := q_slice hq11; have K711 := Blk.below (w := w10.drew) K710 hb11; have K211 := Blk.below (w := w10.drew) K210 hb11; have kc11 := Blk.cells K711))
   all_goals
    have K712 : Blk _ g (uCells { V with hk := hk, hn := hn, ha := ha, port := po, path := ps } (.slice A ps.length c)) := ((((K711.put 3 (.int .i64 hk)).put 4 (.string (B hn))).put 5 (.int .i64 ha)).put 6 (.int .i64 po)).put 7 (.slice A ps.length c)
    have K212 := ((((K211.far (p := ⟨g, 3, none⟩) hne (.int .i64 hk)).far (p := ⟨g, 4, none⟩) hne (.string (B hn))).far (p := ⟨g, 5, none⟩) hne (.int .i64 ha)).far (p := ⟨g, 6, none⟩) hne (.int .i64 po)).far (p := ⟨g, 7, none⟩) hne (.slice A ps.length c)
    have G12 := grown_put (grown_put (grown_put (grown_put (grown_put (grown_b (row := some g) (Below.refl _ w11)) 3 (.int .i64 hk)) 4 (.string (B hn))) 5 (.int .i64 ha)) 6 (.int .i64 po)) 7 (.slice A ps.length c)
    have hlt : g < w10.drew.heap.size := K710.lt
    have hb12 : Below w.heap.size w w11 := below_then (below_drew HB10.out) HB10.out.size hb11
    have HB12 := Lib.hid (below_by hb12 hge G12)
    have hq12 := q_grown hq11 G12 hlt
    clear hb12 G12 hb11 hq11 kc11 K711 K211 K710 K210
    generalize ((((w11.setCell ⟨g, 3, none⟩ (.int .i64 hk)).setCell ⟨g, 4, none⟩ (.string (B hn))).setCell ⟨g, 5, none⟩ (.int .i64 ha)).setCell ⟨g, 6, none⟩ (.int .i64 po)).setCell ⟨g, 7, none⟩ (.slice A ps.length c) = w12 at K712 K212 HB12 hq12 ⊢
    generalize w10.drew.heap.size = base at hlt hq12
    have HE : Hid (hostedU s r = setTail { V with hk := hk, hn := hn, ha := ha, port := po, path := ps } q) := Lib.hid (by rw [HH2.out.1, HSA.out])
    go_wp2_with fail
    refine (tail_walk g { V with hk := hk, hn := hn, ha := ha, port := po, path := ps } (.slice A ps.length c) q w _ HB12.out hge K712 hS hM (by omega)).mono ?_
    rintro e w13 ⟨rfl, K713, hg13⟩
    rw [← HE.out] at K713
    have HP : Hid ((hostedU s r).path = ps) := Lib.hid (by rw [HE.out]; rfl)
    have HOK : Hid (hostedOk s r = (hok && pok && (decide ((hostedU s r).path.length ≤ 12) && decide ((putU (hostedU s r)).length ≤ 600)))) := Lib.hid (by rw [HH2.out.2, HAO.out])
    have K213 := K212.grown hg13 hne
    have HB13 := Lib.hid (below_by HB12.out hge hg13)
    have hq13 := q_grown hq12 hg13 hlt
    clear K712 K212 HB12 hq12 hg13 HH2 HSA HAO HE
    obtain ⟨u, HU⟩ : ∃ u, Hid (u = hostedU s r) := ⟨_, Lib.hid rfl⟩
    rw [← HU.out] at HRD HOK HFit HP K713
    rw [HP.out] at HOK
    have HTX := Lib.hid fun w1 (hb : Below w.heap.size w w1) (hp : PathAt w1 (.slice A ps.length c) u.path) => text_walk u (.slice A ps.length c) w1 HFit.out (hM.below hb) (hI.below hb) hp
    generalize putU u = pu at HOK HTX
    have HQ13 := Lib.hid hq13
    have HP13 : Hid (PathAt w13 (.slice A ps.length c) u.path) := Lib.hid (by have hh := pathAt_q hq13; rw [HP.out]; exact hh)
    clear hq13 HFit
    unfold z13 at K213
    generalize hostedOk s r = ok at HRD HOK
    go_upto_region 25 with fail
    go_cut [144] (fun v wc => v = .bool (!ok) ∧ ∃ w14, w14 = wc ∧ Below w13.heap.size w13 w14)
    case first =>
     cases hok with
     | false =>
      have HO : Hid (ok = false) := Lib.hid (by rw [HOK.out]; rfl)
      go_wp2
      go_meet
      case rel => exact ⟨by rw [HO.out]; rfl, _, rfl, Below.refl _ _⟩
     | true =>
      cases pok with
      | false =>
       have HO : Hid (ok = false) := Lib.hid (by rw [HOK.out]; rfl)
       go_wp2
       go_meet
       case rel => exact ⟨by rw [HO.out]; rfl, _, rfl, Below.refl _ _⟩
      | true =>
       unfold uCells at K713
       have kc := K713.cells
       by_cases h12 : ps.length ≤ 12
       ·have HO : Hid (ok = decide (pu.length ≤ 600)) := Lib.hid (by rw [HOK.out]; simp [h12])
        have e12 : decide (12 < (ps.length : Int)) = false := decide_eq_false (by omega)
        go_wp2_with fail
        refine (HTX.out _ HB13.out HP13.out).mono ?_
        rintro e w14 ⟨rfl, hb14⟩
        by_cases h600 : pu.length ≤ 600
        ·have e600 : decide (600 < (pu.length : Int)) = false := decide_eq_false (by omega)
         go_wp2
         go_meet
         case rel => exact ⟨by rw [HO.out]; simp [h600], _, rfl, hb14⟩
        ·have e600 : decide (600 < (pu.length : Int)) = true := decide_eq_true (by omega)
         go_wp2
         go_meet
         case rel => exact ⟨by rw [HO.out]; simp [h600], _, rfl, hb14⟩
       ·have HO : Hid (ok = false) := Lib.hid (by rw [HOK.out]; simp [h12])
        have e12 : decide (12 < (ps.length : Int)) = true := decide_eq_true (by omega)
        go_wp2
        go_meet
        case rel => exact ⟨by rw [HO.out]; rfl, _, rfl, Below.refl _ _⟩
    case rest =>
     obtain ⟨rfl, w14, rfl, hb14⟩ := hcut
     have K214 := K213.below hb14
     have K714 := K713.below hb14
     have HB14 := Lib.hid (below_then HB13.out HB13.out.size hb14)
     have HQ14 := Lib.hid (q_below HQ13.out hb14)
     clear K213 K713 HB13 HQ13 hb14
     cases ok with
     | false =>
      have HR : Hid (readU s r = (Ur.zero, false)) := Lib.hid (by rw [HRD.out]; rfl)
      have kz := K214.cells
      go_wp2
      refine bodyPost_ret (results_ct rfl _ _ w.heap.size 27 _ (0, 0) _ rfl (Blk.put13 K214) Tryz.underlying27 rfl (by kernel_rfl)) rfl ?_
      refine ⟨.slice none 0 0, by rw [HR.out]; rfl, ?_, below13 HB14.out (Nat.le_refl _)⟩
      rw [HR.out]
      exact q_of_own (World.ownsRow_nil _ _ _ _)
     | true =>
      have HR : Hid (readU s r = (u, true)) := Lib.hid (by rw [HRD.out, HU.out]; rfl)
      unfold uCells at K714
      have kc := K714.cells
      have kz := K214.cells
      go_wp2
      refine bodyPost_ret (results_ct rfl _ _ w.heap.size 27 _ (0, 0) _ rfl (Blk.put13 K214) Tryz.underlying27 rfl (by kernel_rfl)) rfl ?_
      refine ⟨.slice A ps.length c, by rw [HR.out]; rfl, ?_, below13 HB14.out (Nat.le_refl _)⟩
      rw [HR.out]
      show QRow _ _ _ _ _ u.path.length (strV u.path)
      rw [HP.out]
      exact q_lower (q_grown HQ14.out (grown13 (g := w.heap.size) (grown_b (Below.refl _ w14))) (by omega)) (by omega)
end Go.Proofs.YtopcpbokfngpeaaGreatDoor.H
/- impl.parse, impl.UrlGet: the calls come to the address that a text is read as; the package-level variables read as their tables. -/
set_option linter.unusedVariables false
namespace Go.Proofs.YtopcpbokfngpeaaGreatDoor.H
open Go.RowKit Go.Proofs.YtopcpbokfngpeaaGreatDoorW.PrintWords Go.Proofs.YtopcpbokfngpeaaGreatDoor.Base Go.Proofs.YtopcpbokfngpeaaGreatDoor.Pure
theorem pathAt_nil (w : World) : PathAt w (.slice none 0 0) [] := ⟨none, 0, rfl, Nat.le_refl _, Kd.C_nil _ _⟩
theorem fit_opaque (s r : Bs) (hs : s.length + r.length ≤ 200) : Fit (opaqueU s r) := by
 have h1 := (enc_len (setB 5) (upA [63, 35] r)).2
 have h2 := up_len [63, 35] r
 have h3 := (enc_len (setB 2) ((cutAh 35 (upR [63, 35] r)).drop 1)).2
 have h4 := (enc_len (setB 3) (cutBe 35 (upR [63, 35] r))).2
 have h5 := cutAh_le 35 (upR [63, 35] r)
 have h6 := cutBe_le 35 (upR [63, 35] r)
 rw [List.length_drop] at h3
 exact ⟨by show s.length ≤ _; omega, by show ([] : Bs).length ≤ _; simp, by show ([] : Bs).length ≤ _; simp, by show ([] : Bs).length ≤ _; simp, by show (enc (setB 5) (upA [63, 35] r)).length ≤ _; omega,
  by show (enc (setB 2) ((cutAh 35 (upR [63, 35] r)).drop 1)).length ≤ _; omega, by show (enc (setB 3) (cutBe 35 (upR [63, 35] r))).length ≤ _; omega, by show (pathPut []).length ≤ _; simp [pathPut], by show ([] : List Bs).length ≤ _; simp, by show -9223372036854775808 ≤ (-1 : Int) ∧ (-1 : Int) ≤ 9223372036854775807; omega⟩
theorem opaque_put (s r : Bs) (ho : ownP s < 0) : (putU (opaqueU s r)).length ≤ s.length + 1 + 3 * r.length := by
 rw [putU_O _ ho]
 have h1 := (enc_len (setB 5) (upA [63, 35] r)).2
 have h2 : (tailB (opaqueU s r)).length ≤ 3 * (upR [63, 35] r).length := setTail_size _ _
 have h3 := up_len [63, 35] r
 have e1 : (opaqueU s r).sch = s := rfl
 have e2 : (opaqueU s r).opq = enc (setB 5) (upA [63, 35] r) := rfl
 rw [e1, e2]
 simp; omega
set_option maxHeartbeats 4000000 in
set_option maxRecDepth 100000 in
theorem parse_walk (l : Bs) (w : World) (hl : l.length ≤ 200) (hS : TabS w) (hM : TabM w) (hI : TabI w) : Calls Tryz.prog 61 #[.string (B l)] w (UrlOut (match schemeV (trimU l) with | none => (Ur.zero, false) | some (s, r) => readU s r) w) := by
 have htl := trimU_len l
 have HT := Lib.hid fun w1 => strip_walk l w1 (by omega)
 generalize ht : trimU l = t at HT htl ⊢
 have HTE := Lib.hid ht
 clear ht
 have HC := Lib.hid fun w1 (hb : Below w.heap.size w w1) => schemeOf_walk t w1 (hM.below hb) (by omega)
 have hA : schemeA t = match schemeV t with | none => ([], [], false) | some (s, r) => (s, r, true) := rfl
 have HS0 := held_new w (.string (B [])) (.string (B [])) (.string (B [])) (.int .i64 0) (.string (B [])) (.int .i64 0) (.int .i64 0) (.slice none 0 0) (.string (B [])) (.bool false) (.string (B [])) (.bool false) (.string (B []))
 have K0 : Blk (w.alloc (.cells #[.string (B []), .string (B []), .string (B []), .int .i64 0, .string (B []), .int .i64 0, .int .i64 0, .slice none 0 0, .string (B []), .bool false, .string (B []), .bool false, .string (B [])] 27)) w.heap.size #[.string (B []), .string (B []), .string (B []), .int .i64 0, .string (B []), .int .i64 0, .int .i64 0, .slice none 0 0, .string (B []), .bool false, .string (B []), .bool false, .string (B [])] := blk_new w _
 cases hs : schemeV t with
 | none =>
  rw [hs] at hA
  rw [hA] at HC
  clear hA hs
  go_enter Tryz.func61, Tryz.ntmps61
  go_wp2_with fail
  refine (HT.out _).mono ?_
  rintro e w1 ⟨rfl, hb1⟩
  have HS1 := HS0.go hb1
  go_wp2_with fail
  refine (HC.out _ HS1.2).mono ?_
  rintro e w2 ⟨rfl, hb2⟩
  have HB2 := Lib.hid (HS1.go hb2).2
  have K2 := (K0.below hb1).below hb2
  have kc := K2.cells
  clear HS1 hb1 hb2
  go_wp2
  refine bodyPost_ret (results_ct rfl _ _ w.heap.size 27 _ (0, 0) _ rfl (Blk.put13 K2) Tryz.underlying27 rfl (by kernel_rfl)) rfl ⟨_, rfl, q_of_own (World.ownsRow_nil _ _ _ _), below13 HB2.out (Nat.le_refl _)⟩
 | some sr =>
  obtain ⟨s, r⟩ := sr
  have hlen := (scheme_some t s r hs).2.2
  rw [hs] at hA
  rw [hA] at HC
  have HSP := Lib.hid (special_walk s)
  show Calls Tryz.prog 61 #[.string (B l)] w (UrlOut (readU s r) w)
  by_cases ho : ownP s < 0
  ·clear hA hs
   have hd : decide (0 ≤ ownP s) = false := decide_eq_false (by omega)
   have HRD : Hid (readU s r = (opaqueU s r, true)) := Lib.hid (by unfold readU; rw [if_pos ho])
   go_enter Tryz.func61, Tryz.ntmps61
   go_wp2_with fail
   refine (HT.out _).mono ?_
   rintro e w1 ⟨rfl, hb1⟩
   have HS1 := HS0.go hb1
   go_wp2_with fail
   refine (HC.out _ HS1.2).mono ?_
   rintro e w2 ⟨rfl, hb2⟩
   have HB2 := Lib.hid (HS1.go hb2).2
   have K2 := (K0.below hb1).below hb2
   clear HS1 hb1 hb2
   go_wp2_with fail
   have K7 : Blk (w2.alloc (.cells #[.string (B s), .string ⟨#[]⟩, .string ⟨#[]⟩, .int .i64 0, .string ⟨#[]⟩, .int .i64 0, .int .i64 (-1), .slice none 0 0, .string ⟨#[]⟩, .bool false, .string ⟨#[]⟩, .bool false, .string ⟨#[]⟩] 27)) w2.heap.size (uCells (baseU s) (.slice none 0 0)) := blk_new w2 _
   have K23 := K2.below (below_alloc (Below.refl w2.heap.size w2) (.cells #[.string (B s), .string ⟨#[]⟩, .string ⟨#[]⟩, .int .i64 0, .string ⟨#[]⟩, .int .i64 0, .int .i64 (-1), .slice none 0 0, .string ⟨#[]⟩, .bool false, .string ⟨#[]⟩, .bool false, .string ⟨#[]⟩] 27))
   have HB3 := Lib.hid (HB2.out.alloc HB2.out.size (.cells #[.string (B s), .string ⟨#[]⟩, .string ⟨#[]⟩, .int .i64 0, .string ⟨#[]⟩, .int .i64 0, .int .i64 (-1), .slice none 0 0, .string ⟨#[]⟩, .bool false, .string ⟨#[]⟩, .bool false, .string ⟨#[]⟩] 27))
   have hne : w.heap.size ≠ w2.heap.size := by have := K2.lt; omega
   have hge : w.heap.size ≤ w2.heap.size := HB2.out.size
   generalize w2.alloc (.cells #[.string (B s), .string ⟨#[]⟩, .string ⟨#[]⟩, .int .i64 0, .string ⟨#[]⟩, .int .i64 0, .int .i64 (-1), .slice none 0 0, .string ⟨#[]⟩, .bool false, .string ⟨#[]⟩, .bool false, .string ⟨#[]⟩] 27) = w3 at K7 K23 HB3 ⊢
   generalize w2.heap.size = g at K7 hne hge ⊢
   clear HB2 K2
   refine (HSP.out _).mono ?_
   rintro e w4 ⟨rfl, hw4⟩
   subst w4
   rw [hd]
   go_wp2_with fail
   refine (upTo_walk r [63, 35] w3 (by simp) (by simp) (by decide) (by omega)).mono ?_
   rintro e w4 ⟨rfl, hb4⟩
   have K74 := K7.below hb4
   have K24 := K23.below hb4
   have HB4 := Lib.hid (below_then HB3.out HB3.out.size hb4)
   clear hb4 K7 K23 HB3
   go_wp2_with fail
   have hul := up_len [63, 35] r
   refine (encU_walk 5 (upA [63, 35] r) w4 (hS.below HB4.out) (by omega)).mono ?_
   rintro e w5 ⟨rfl, hb5⟩
   have K75 := K74.below hb5
   have K25 := K24.below hb5
   have HB5 := Lib.hid (below_then HB4.out HB4.out.size hb5)
   have kc5 := K75.cells
   clear hb5 K74 K24 HB4
   go_wp2_with fail
   have K76 : Blk (w5.setCell ⟨g, 8, none⟩ (.string (B (enc (setB 5) (upA [63, 35] r))))) g (uCells { baseU s with opq := enc (setB 5) (upA [63, 35] r) } (.slice none 0 0)) := K75.put 8 _
   have K26 := K25.far (p := ⟨g, 8, none⟩) hne (.string (B (enc (setB 5) (upA [63, 35] r))))
   have HB6 := Lib.hid (HB5.out.setCell (p := ⟨g, 8, none⟩) hge (.string (B (enc (setB 5) (upA [63, 35] r)))))
   clear kc5 K75 K25 HB5
   refine (tail_walk g { baseU s with opq := enc (setB 5) (upA [63, 35] r) } (.slice none 0 0) (upR [63, 35] r) w _ HB6.out hge K76 hS hM (by omega)).mono ?_
   rintro e w7 ⟨rfl, K77, hg7⟩
   have K27 := K26.grown hg7 hne
   have HB7 := Lib.hid (below_by HB6.out hge hg7)
   have hU : setTail { baseU s with opq := enc (setB 5) (upA [63, 35] r) } (upR [63, 35] r) = opaqueU s r := rfl
   rw [hU] at K77
   clear hg7 K76 K26 HB6 hU
   have hfit := fit_opaque s r (by omega)
   have hput := opaque_put s r ho
   have HTX := Lib.hid fun w1 (hb : Below w.heap.size w w1) => text_walk (opaqueU s r) (.slice none 0 0) w1 hfit (hM.below hb) (hI.below hb) (pathAt_nil w1)
   have hlen600 : decide (((putU (opaqueU s r)).length : Int) ≤ 600) = true := decide_eq_true (by omega)
   clear hput hfit
   obtain ⟨u, HU⟩ : ∃ u, Hid (u = opaqueU s r) := ⟨_, Lib.hid rfl⟩
   rw [← HU.out] at K77 HTX hlen600
   have HP7 : Hid (u.path = []) := Lib.hid (by rw [HU.out]; rfl)
   unfold uCells at K77 HTX
   have HS7 : Held w g (.string (B u.sch)) (.string (B u.usr)) (.string (B u.pas)) (.int .i64 u.hk) (.string (B u.hn)) (.int .i64 u.ha) (.int .i64 u.port) (.slice none 0 0) (.string (B u.opq)) (.bool u.hq) (.string (B u.qry)) (.bool u.hf) (.string (B u.frg)) w7 := ⟨K77.cells.1, HB7.out⟩
   have hBB := HB7.out
   go_wp2_with fail
   go_region_held3 (Held w g (.string (B u.sch)) (.string (B u.usr)) (.string (B u.pas)) (.int .i64 u.hk) (.string (B u.hn)) (.int .i64 u.ha) (.int .i64 u.port) (.slice none 0 0) (.string (B u.opq)) (.bool u.hq) (.string (B u.qry)) (.bool u.hf) (.string (B u.frg)))
    (first | (with_reducible assumption) | ((with_reducible refine Held.drew ?_); (with_reducible assumption)) | ((with_reducible refine Held.far13 ?_ hne (Nat.le_refl _)); (with_reducible assumption)) | ((with_reducible refine Held.go ?_ hb8); (with_reducible assumption)))
    ((go_at_call 43; refine (HTX.out _ ?sb).mono ?_; (case sb => exact below_drew hBB); rintro e w8 ⟨rfl, hb8⟩; have K28 := Blk.below (w := w7.drew) K27 hb8; have kc8 := Blk.cells K28))
   all_goals
    go_wp2
    refine bodyPost_ret (results_ct rfl _ _ w.heap.size 27 _ (0, 0) _ rfl (Blk.put13 K28) Tryz.underlying27 rfl (by kernel_rfl)) rfl ?_
    refine ⟨.slice none 0 0, by rw [HRD.out, ← HU.out]; rfl, ?_, below13 (below_then (below_drew HB7.out) HB7.out.size hb8) (Nat.le_refl _)⟩
    rw [HRD.out]
    show QRow _ _ _ _ _ (opaqueU s r).path.length (strV (opaqueU s r).path)
    rw [← HU.out, HP7.out]
    exact q_of_own (World.ownsRow_nil _ _ _ _)
  ·exact parse_hosted l t s r w hl HTE.out hs (by omega) hS hM hI
end Go.Proofs.YtopcpbokfngpeaaGreatDoor.H
/- impl.UrlGet: the call comes to the address that the text is read as; the package-level variables read as their tables. -/
set_option linter.unusedVariables false
namespace Go.Proofs.YtopcpbokfngpeaaGreatDoor.H
open Go.RowKit Go.Proofs.YtopcpbokfngpeaaGreatDoorW.PrintWords Go.Proofs.YtopcpbokfngpeaaGreatDoor.Base Go.Proofs.YtopcpbokfngpeaaGreatDoor.Pure
set_option maxHeartbeats 2000000 in
set_option maxRecDepth 100000 in
theorem implUrlGet_walk (l : Bs) (w : World) (hl : l.length ≤ 140737488355327) (hS : TabS w) (hM : TabM w) (hI : TabI w) : Calls Tryz.prog 23 #[.string (B l)] w (UrlOut (urlG l) w) := by
 have HB0 : Below w.heap.size w (w.alloc (.cells #[.string ⟨#[]⟩, .string ⟨#[]⟩, .string ⟨#[]⟩, .int .i64 0, .string ⟨#[]⟩, .int .i64 0, .int .i64 0, .slice none 0 0, .string ⟨#[]⟩, .bool false, .string ⟨#[]⟩, .bool false, .string ⟨#[]⟩] 27)) := (Below.refl _ w).alloc (Nat.le_refl _) _
 have K0 : Blk (w.alloc (.cells #[.string ⟨#[]⟩, .string ⟨#[]⟩, .string ⟨#[]⟩, .int .i64 0, .string ⟨#[]⟩, .int .i64 0, .int .i64 0, .slice none 0 0, .string ⟨#[]⟩, .bool false, .string ⟨#[]⟩, .bool false, .string ⟨#[]⟩] 27)) w.heap.size #[.string ⟨#[]⟩, .string ⟨#[]⟩, .string ⟨#[]⟩, .int .i64 0, .string ⟨#[]⟩, .int .i64 0, .int .i64 0, .slice none 0 0, .string ⟨#[]⟩, .bool false, .string ⟨#[]⟩, .bool false, .string ⟨#[]⟩] := blk_new w _
 have hlt := K0.lt
 by_cases h2 : l.length ≤ 200
 ·have hd : decide (200 < (l.length : Int)) = false := decide_eq_false (by omega)
  have hr : urlG l = (match schemeV (trimU l) with | none => (Ur.zero, false) | some (s, r) => readU s r) := by unfold urlG; rw [if_pos h2]; cases schemeV (trimU l) <;> rfl
  have HP : Hid (∀ w1, Below w.heap.size w w1 → Calls Tryz.prog 61 #[.string (B l)] w1 (UrlOut (urlG l) w1)) := Lib.hid fun w1 hb => by rw [hr]; exact parse_walk l w1 h2 (hS.below hb) (hM.below hb) (hI.below hb)
  clear hr
  generalize urlG l = r at HP ⊢
  go_enter Tryz.func23, Tryz.ntmps23
  go_wp2_with fail
  refine (HP.out _ HB0).mono ?_
  rintro e w1 ⟨pv, rfl, hq, hb1⟩
  have HB1 := Lib.hid (below_then HB0 HB0.size hb1)
  have K1 := K0.below hb1
  have kc := K1.cells
  obtain ⟨A, c, rfl, hAc⟩ := q_slice hq
  have HQ := Lib.hid hq
  clear hb1 hq
  unfold uCells
  go_wp2
  exact bodyPost_ret (results_ct rfl _ _ w.heap.size 27 _ (0, 0) _ rfl (Blk.put13 K1) Tryz.underlying27 rfl (by kernel_rfl)) rfl ⟨_, rfl, q_lower (q_grown HQ.out (grown13 (g := w.heap.size) (grown_b (Below.refl _ w1))) hlt) (Nat.le_of_lt hlt), below13 HB1.out (Nat.le_refl _)⟩
 ·have hd : decide (200 < (l.length : Int)) = true := decide_eq_true (by omega)
  have hr : urlG l = (Ur.zero, false) := by unfold urlG; rw [if_neg h2]
  rw [hr]; clear hr
  have HB1 := Lib.hid HB0
  clear HB0
  go_enter Tryz.func23, Tryz.ntmps23
  go_upto_region 2 with fail
  generalize w.alloc (.cells #[.string ⟨#[]⟩, .string ⟨#[]⟩, .string ⟨#[]⟩, .int .i64 0, .string ⟨#[]⟩, .int .i64 0, .int .i64 0, .slice none 0 0, .string ⟨#[]⟩, .bool false, .string ⟨#[]⟩, .bool false, .string ⟨#[]⟩] 27) = w1 at K0 HB1 hlt ⊢
  have kc := K0.cells
  go_wp2
  exact bodyPost_ret (results_ct rfl _ _ w.heap.size 27 _ (0, 0) _ rfl (Blk.put13 K0) Tryz.underlying27 rfl (by kernel_rfl)) rfl ⟨_, rfl, q_of_own (World.ownsRow_nil _ _ _ _), below13 HB1.out (Nat.le_refl _)⟩
end Go.Proofs.YtopcpbokfngpeaaGreatDoor.H
/- spec.l3Scheme: what the call comes to. No condition. -/
set_option linter.unusedVariables false
namespace Go.Proofs.YtopcpbokfngpeaaGreatDoor.H
open Go.RowKit Go.Proofs.YtopcpbokfngpeaaGreatDoorW.PrintWords Go.Proofs.YtopcpbokfngpeaaGreatDoor.Base Go.Proofs.YtopcpbokfngpeaaGreatDoor.Pure
abbrev Bel (w0 w : World) : Prop := Below w0.heap.size w0 w
theorem Bel.go {w0 w w1 : World} (h : Bel w0 w) (hb : Below w.heap.size w w1) : Bel w0 w1 := below_then h h.size hb
theorem Bel.drew {w0 w : World} (h : Bel w0 w) : Bel w0 w.drew := below_drew h
theorem schemeA_at (l : Bs) (k : Nat) (h : k < l.length) (hp : (l.take k).all schC = true) (h0 : 0 < k → isLet (l.headD 0) = true) :
    (l[k] = 58 → 0 < k → schemeA l = (lower (l.take k), l.drop (k + 1), true)) ∧
    (l[k] = 58 → k = 0 → schemeA l = ([], [], false)) ∧
    (l[k] ≠ 58 → schC l[k] = false → schemeA l = ([], [], false)) ∧
    (k = 0 → isLet l[k] = false → schemeA l = ([], [], false)) := by
  obtain ⟨h1, h2, h3, h4⟩ := scheme_at l k h hp h0
  unfold schemeA
  exact ⟨fun a b => by rw [h1 a b], fun a b => by rw [h2 a b], fun a b => by rw [h3 a b], fun a b => by rw [h4 a b]⟩
theorem schemeA_end (l : Bs) (hp : l.all schC = true) : schemeA l = ([], [], false) := by unfold schemeA; rw [scheme_end l hp]
theorem isLet_int (c : UInt8) : isLet c = ((decide (97 ≤ (c.toNat : Int)) && decide ((c.toNat : Int) ≤ 122)) || (decide (65 ≤ (c.toNat : Int)) && decide ((c.toNat : Int) ≤ 90))) := by
  unfold isLet
  have e : ∀ n : Nat, decide (n ≤ c.toNat) = decide ((n : Int) ≤ (c.toNat : Int)) := fun n => decide_eq_decide.2 (by omega)
  have f : ∀ n : Nat, decide (c.toNat ≤ n) = decide ((c.toNat : Int) ≤ (n : Int)) := fun n => decide_eq_decide.2 (by omega)
  rw [e, e, f, f]; rfl
theorem isDig_int (c : UInt8) : isDig c = (decide (48 ≤ (c.toNat : Int)) && decide ((c.toNat : Int) ≤ 57)) := by
  unfold isDig
  have e : ∀ n : Nat, decide (n ≤ c.toNat) = decide ((n : Int) ≤ (c.toNat : Int)) := fun n => decide_eq_decide.2 (by omega)
  have f : ∀ n : Nat, decide (c.toNat ≤ n) = decide ((c.toNat : Int) ≤ (n : Int)) := fun n => decide_eq_decide.2 (by omega)
  rw [e, f]; rfl
set_option maxHeartbeats 4000000 in
set_option maxRecDepth 100000 in
theorem specScheme_walk (l : Bs) (w : World) (hl : l.length ≤ 1000000) : Calls Tryz.prog 69 #[.string (B l)] w fun e w' => e = .returned (.tuple #[.string (B (schemeA l).1), .string (B (schemeA l).2.1), .bool (schemeA l).2.2]) ∧ Below w.heap.size w w' := by
  have HAT := Lib.hid (schemeA_at l)
  have HEND := Lib.hid (schemeA_end l)
  have HLOW := Lib.hid fun (k : Nat) w1 => specLower_walk (l.take k) w1 (by simp; omega)
  generalize schemeA l = r at HAT HEND ⊢
  have HB0 := Below.refl w.heap.size w
  go_enter Tryz.func69, Tryz.ntmps69
  go_wp2_with fail
  go_loop [5] (fun v => ∃ k : Nat, k ≤ l.length ∧ v = .int .i64 k ∧ Hid ((l.take k).all schC = true) ∧ Hid (0 < k → isLet (l.headD 0) = true)) (fun v => l.length - (intOf v).toNat)
  case atStart => exact ⟨0, by omega, rfl, Lib.hid rfl, Lib.hid fun q => absurd q (by omega)⟩
  case round =>
    obtain ⟨k, hk, rfl, HP, HL⟩ := hrel
    by_cases hlt : k < l.length
    · have HX := Lib.hid (HAT.out k hlt HP.out HL.out)
      have HT := Lib.hid (all_take schC l k hlt)
      have HH : Hid (k = 0 → l.headD 0 = l[k]) := Lib.hid (by rintro rfl; cases l with | nil => simp at hlt | cons a t => rfl)
      obtain ⟨c, hc⟩ : ∃ c, c = l[k] := ⟨_, rfl⟩
      rw [← hc] at HX HT HH
      have HL4 := Lib.hid (isLet_int c)
      have HD4 := Lib.hid (isDig_int c)
      have HS4 := Lib.hid (schC_int c)
      have hcl : ((l[k].toNat : Nat) : Int) = ((c.toNat : Nat) : Int) := by rw [hc]
      have HC := Lib.hid hc
      clear hc
      go_upto_region 5 with fail
      go_cut [7] (fun v wc => v = .bool (isLet c) ∧ w = wc)
      case first =>
        cases t1 : decide (97 ≤ (c.toNat : Int)) <;> cases t2 : decide ((c.toNat : Int) ≤ 122) <;> cases t3 : decide (65 ≤ (c.toNat : Int)) <;> cases t4 : decide ((c.toNat : Int) ≤ 90)
        all_goals
          have hs := HL4.out
          rw [t1, t2, t3, t4] at hs
          have HS := Lib.hid hs
          clear hs
          go_wp2
          go_meet
          case rel => exact ⟨by rw [HS.out]; rfl, rfl⟩
      case rest =>
        obtain ⟨rfl, rfl⟩ := hcut
        by_cases h58 : c = 58
        · have b58 : (((c.toNat : Nat) : Int) == 58) = true := by rw [h58]; rfl
          have hlet : isLet c = false := by rw [h58]; rfl
          by_cases hk0 : 0 < k
          · have HR := Lib.hid (HX.out.1 h58 hk0)
            have hx1 := B_take l k
            have hx2 : (B l).extract (k + 1) l.length = B (l.drop (k + 1)) := by rw [B_extract, List.take_of_length_le (by simp)]
            have hkb : decide (0 < (k : Int)) = true := decide_eq_true (by omega)
            have HB1 : Bel w w := HB0
            have hk1 : (k : Int) + 1 ≤ (l.length : Int) := by omega
            have hk2 : ¬ (k : Int) + 1 < 0 := by omega
            have hk5 : ¬ (l.length : Int) < (k : Int) + 1 := by omega
            have hw : IntKind.i64.wrap ((k : Int) + 1) = (k : Int) + 1 := by rw [i64wrap, w64 (by omega) (by omega)]
            have htn : ((k : Int) + 1).toNat = k + 1 := by omega
            have hk3 : k + 1 ≤ l.length := by omega
            have hk4 : (k : Int) ≤ (l.length : Int) := by omega
            rw [hlet]
            clear h58 hlet
            go_wp2_with fail
            go_region_held3 (Bel w)
              (first | (with_reducible assumption) | ((with_reducible refine Bel.drew ?_); (with_reducible assumption)) | ((with_reducible refine Bel.go ?_ hb2); (with_reducible assumption)))
              ((go_at_call 104; refine (HLOW.out k _).mono ?_; rintro e w2 ⟨rfl, hb2⟩))
            all_goals
              go_wp2
              go_ret3
              exact ⟨by rw [HR.out]; rfl, (by assumption : Bel w _)⟩
          · have HR := Lib.hid (HX.out.2.1 h58 (by omega))
            have hkb : decide (0 < (k : Int)) = false := decide_eq_false (by omega)
            rw [hlet]
            clear h58 hlet
            go_wp2
            go_ret3
            exact ⟨by rw [HR.out]; rfl, Below.refl _ _⟩
        · have b58 : (((c.toNat : Nat) : Int) == 58) = false := beq_eq_false_iff_ne.2 fun q => h58 (UInt8.toNat_inj.1 (by show c.toNat = 58; omega))
          cases hlc : isLet c with
          | true =>
            have HS : Hid (schC c = true) := Lib.hid (by rw [HS4.out, hlc]; rfl)
            have HLC := Lib.hid hlc
            clear h58 hlc
            go_wp2
            go_round
            case rel => exact ⟨k + 1, by omega, by go_num, Lib.hid (by rw [HT.out, HP.out, HS.out]; rfl), Lib.hid fun _ => by
              by_cases q : k = 0
              · rw [HH.out q]; exact HLC.out
              · exact HL.out (by omega)⟩
            case measure => simp [intOf]; omega
          | false =>
            by_cases hk0 : k = 0
            · have HR := Lib.hid (HX.out.2.2.2 hk0 hlc)
              have hkb : decide (0 < (k : Int)) = false := decide_eq_false (by omega)
              clear h58 hlc
              go_wp2
              go_ret3
              exact ⟨by rw [HR.out]; rfl, Below.refl _ _⟩
            · have hkb : decide (0 < (k : Int)) = true := decide_eq_true (by omega)
              have HN := Lib.hid (HX.out.2.2.1 h58)
              have HLC := Lib.hid hlc
              clear h58 hlc
              cases t1 : decide (48 ≤ (c.toNat : Int)) <;> cases t2 : decide ((c.toNat : Int) ≤ 57) <;> cases t3 : ((c.toNat : Int) == 43) <;> cases t4 : ((c.toNat : Int) == 45) <;> cases t5 : ((c.toNat : Int) == 46)
              all_goals
                have hs := HS4.out
                rw [HLC.out, HD4.out, t1, t2, t3, t4, t5] at hs
                have HS := Lib.hid hs
                clear hs
                go_wp2
                first
                | (go_ret3
                   exact ⟨by rw [HN.out HS.out]; rfl, Below.refl _ _⟩)
                | (go_round
                   (case rel => exact ⟨k + 1, by omega, by go_num, Lib.hid (by rw [HT.out, HP.out, HS.out]; rfl), Lib.hid fun _ => HL.out (by omega)⟩)
                   (case measure => simp [intOf]; omega))
    · obtain rfl : k = l.length := by omega
      rw [List.take_of_length_le (Nat.le_refl _)] at HP
      have HR := Lib.hid (HEND.out HP.out)
      go_wp2
      go_ret3
      exact ⟨by rw [HR.out]; rfl, Below.refl _ _⟩
end Go.Proofs.YtopcpbokfngpeaaGreatDoor.H
/- spec.l1At, spec.l3Port: what the calls come to. No condition. -/
set_option linter.unusedVariables false
namespace Go.Proofs.YtopcpbokfngpeaaGreatDoor.H
open Go.RowKit Go.Proofs.YtopcpbokfngpeaaGreatDoor.Lh Go.Proofs.YtopcpbokfngpeaaGreatDoorW.PrintWords Go.Proofs.YtopcpbokfngpeaaGreatDoorW.PrintLast Go.Proofs.YtopcpbokfngpeaaGreatDoor.Base Go.Proofs.YtopcpbokfngpeaaGreatDoor.Pure Go.Proofs.YtopcpbokfngpeaaGreatDoor.Lp
theorem cut_ix (c : UInt8) : ∀ l : Bs, cutAh c l = l.take (ixS [c] l) ∧ cutBe c l = l.drop (ixS [c] l + 1)
 | [] => ⟨rfl, rfl⟩
 | x :: t => by
  obtain ⟨h1, h2⟩ := cut_ix c t
  rw [ixS_cons]
  unfold cutAh cutBe
  by_cases e : x = c
  ·subst e; simp
  ·have hc : ([c] : Bs).contains x = false := by simp [e]
   rw [if_neg e, if_neg e, if_neg (by rw [hc]; simp), List.take_succ_cons, List.drop_succ_cons, ← h1, ← h2]
   exact ⟨rfl, rfl⟩
theorem AtS_l1 (S l : Bs) (hS : S.length ≤ 1000) (hl : l.length ≤ 140737488355328) (i : Nat) (hlt : i < l.length) (R : Int) (hR : Ev (fun k => spec_l1At.l0 k (B l) (B S) ((i + 1 : Nat) : Int)) R) (d : Nat) :
  ∀ j : Nat, j + d = S.length → Ev (fun k => spec_l1At.l1 k (B l) (B S) i j) (if (S.drop j).contains l[i] = true then (i : Int) else R) := by
 have hi0 : (0 : Int) ≤ (i : Int) := by omega
 have hi1 : (i : Int) < (l.length : Int) := by omega
 have hw : wrap64 ((i : Int) + 1) = ((i + 1 : Nat) : Int) := by rw [w64 (by omega) (by omega)]; rfl
 induction d with
 | zero =>
  intro j hj
  refine Ev.step (fun k => by rw [spec_l1At.l1]) ?_
  have e : (S.drop j).contains l[i] = false := by rw [List.drop_eq_nil_of_le (by omega)]; rfl
  rw [e]
  simp only [B_size, if_neg (show ¬ (j : Int) < (S.length : Int) by omega), hw]
  exact hR
 | succ d ih =>
  intro j hj
  have hjl : j < S.length := by omega
  have hj0 : (0 : Int) ≤ (j : Int) := by omega
  have hj1 : (j : Int) < (S.length : Int) := by omega
  have hwj : wrap64 ((j : Int) + 1) = ((j + 1 : Nat) : Int) := by rw [w64 (by omega) (by omega)]; rfl
  refine Ev.step (fun k => by rw [spec_l1At.l1]) ?_
  have e : (S.drop j).contains l[i] = (l[i] == S[j] || (S.drop (j + 1)).contains l[i]) := by rw [List.drop_eq_getElem_cons hjl, List.contains_cons]
  rw [e]
  simp only [B_size, if_pos hi0, if_pos hi1, if_pos hj0, if_pos hj1, bt_B, Int.toNat_natCast, get_eq hlt, get_eq hjl, hwj]
  by_cases q : l[i] = S[j]
  ·have q2 : (l[i] == S[j]) = true := beq_iff_eq.2 q
   rw [q2, Bool.true_or]
   simp only [q, if_true]
   exact Ev.now _
  ·have q2 : (l[i] == S[j]) = false := beq_eq_false_iff_ne.2 q
   have q3 : ¬ ((l[i].toNat : Nat) : Int) = ((S[j].toNat : Nat) : Int) := fun h => q (UInt8.toNat_inj.1 (by omega))
   rw [q2, Bool.false_or]
   simp only [if_neg q3]
   exact ih (j + 1) (by omega)
theorem AtS_l0 (S l : Bs) (hS : S.length ≤ 1000) (hl : l.length ≤ 140737488355328) (d : Nat) : ∀ i : Nat, i + d = l.length → Ev (fun k => spec_l1At.l0 k (B l) (B S) i) ((i + ixS S (l.drop i) : Nat) : Int) := by
 induction d with
 | zero =>
  intro i hi
  refine ev_1 fun k => ?_
  simp only [spec_l1At.l0, B_size]
  rw [if_neg (by omega), List.drop_eq_nil_of_le (by omega)]
  have : ixS S [] = 0 := rfl
  rw [this]; congr 1; omega
 | succ d ih =>
  intro i hi
  have hlt : i < l.length := by omega
  have hi1 : (i : Int) < (l.length : Int) := by omega
  refine Ev.step (fun k => by rw [spec_l1At.l0]) ?_
  simp only [B_size, if_pos hi1]
  have := AtS_l1 S l hS hl i hlt _ (ih (i + 1) (by omega)) S.length 0 (by omega)
  rw [ixS_at S l i hlt]
  rw [List.drop_zero] at this
  by_cases q : S.contains l[i] = true
  ·rw [if_pos q] at this ⊢; exact this
  ·rw [if_neg q] at this ⊢
   have e : i + (ixS S (l.drop (i + 1)) + 1) = i + 1 + ixS S (l.drop (i + 1)) := by omega
   rw [e]; exact this
theorem specAt_walk (S l : Bs) (w : World) (hS : S.length ≤ 1000) (hl : l.length ≤ 140737488355328) : Calls Tryz.prog 105 #[.string (B l), .string (B S)] w fun e w' => e = .returned (.int .i64 (ixS S l)) ∧ Below w.heap.size w w' := by
 have h := AtS_l0 S l hS hl l.length 0 (by omega)
 rw [List.drop_zero, Nat.zero_add] at h
 obtain ⟨k, hk⟩ := h.rounds
 exact (spec_l1At.calls k (B l) (B S) _ w hk).mono fun e w' hh => ⟨hh.1, hh.2.below⟩
def portS (l : Bs) (own : Int) : Int := (portV l own).getD (-2)
theorem specIn_walk (a b c : Int) (w : World) : Calls Tryz.prog 56 #[.int .i64 a, .int .i64 b, .int .i64 c] w fun e w' => e = .returned (.bool (decide (b ≤ a ∧ a ≤ c))) ∧ Below w.heap.size w w' := by
 refine (spec_l1In.calls a b c (decide (b ≤ a ∧ a ≤ c)) w ?_).mono fun e w' hh => ⟨hh.1, hh.2.below⟩
 unfold spec_l1In.f
 by_cases h : a ≥ b
 ·rw [if_pos h]; congr 1; exact decide_eq_decide.2 ⟨fun q => ⟨h, q⟩, fun q => q.2⟩
 ·rw [if_neg h]; congr 1; exact (decide_eq_false fun q => h q.1).symm
theorem specDigits_walk (l : Bs) (w : World) (hl : l.length ≤ 140737488355328) : Calls Tryz.prog 152 #[.string (B l), .int .i64 10] w fun e w' => e = .returned (.int .i64 ((dig 10 0 l).getD (-1))) ∧ Below w.heap.size w w' := by
 obtain ⟨k, hk⟩ := (spec_Digits 10 (by omega) (by omega) l hl).rounds
 exact (spec_l2Digits.calls k (B l) 10 _ w hk).mono fun e w' hh => ⟨hh.1, hh.2.below⟩
set_option maxHeartbeats 2000000 in
theorem specPort_walk (l : Bs) (own : Int) (w : World) (hl : l.length ≤ 1000000) : Calls Tryz.prog 163 #[.string (B l), .int .i64 own] w fun e w' => e = .returned (.int .i64 (portS l own)) ∧ Below w.heap.size w w' := by
 cases he : l.isEmpty with
 | true =>
  obtain rfl : l = [] := List.isEmpty_iff.1 he
  have hr : portS [] own = -1 := rfl
  rw [hr]; clear hr he
  go_enter Tryz.func163, Tryz.ntmps163
  go_wp2
  go_ret
  exact ⟨rfl, Below.refl _ _⟩
 | false =>
  have hne : l ≠ [] := fun q => by rw [q] at he; cases he
  have hr : portS l own = if 0 ≤ (dig 10 0 l).getD (-1) ∧ (dig 10 0 l).getD (-1) ≤ 65535 then (if (dig 10 0 l).getD (-1) = own then -1 else (dig 10 0 l).getD (-1)) else -2 := by
   unfold portS portV
   cases hd : dig 10 0 l with
   | none => rfl
   | some n =>
    have := (dig_rng 10 (by omega) (by omega) l 0 n (by omega) (by omega) hd).1
    show Option.getD (if 65535 < n then none else if l = [] ∨ n = own then some (-1) else some n) (-2) = if 0 ≤ n ∧ n ≤ 65535 then (if n = own then -1 else n) else -2
    by_cases h1 : 65535 < n
    ·rw [if_pos h1, if_neg (show ¬ (0 ≤ n ∧ n ≤ 65535) by omega)]; rfl
    ·rw [if_neg h1, if_pos (show 0 ≤ n ∧ n ≤ 65535 by omega)]
     by_cases h2 : n = own
     ·rw [if_pos (.inr h2), if_pos h2]; rfl
     ·rw [if_neg (by rintro (q | q); exact hne q; exact h2 q), if_neg h2]; rfl
  have HD := Lib.hid fun w1 => specDigits_walk l w1 (by omega)
  generalize (dig 10 0 l).getD (-1) = n at hr HD
  have HI := Lib.hid fun w1 => specIn_walk n 0 65535 w1
  have HR := Lib.hid hr
  clear hr hne
  generalize portS l own = r at HR ⊢
  go_enter Tryz.func163, Tryz.ntmps163
  go_wp2_with fail
  refine (HD.out _).mono ?_
  rintro e w1 ⟨rfl, hb1⟩
  have HB1 := Lib.hid hb1
  clear hb1
  go_wp2_with fail
  refine (HI.out _).mono ?_
  rintro e w2 ⟨rfl, hb2⟩
  have HB2 : Hid (Below w.heap.size w w2) := Lib.hid (below_then HB1.out HB1.out.size hb2)
  clear hb2
  by_cases h1 : 0 ≤ n ∧ n ≤ 65535
  ·have hb : decide (0 ≤ n ∧ n ≤ 65535) = true := decide_eq_true h1
   have HR2 := Lib.hid HR.out
   rw [if_pos h1] at HR2
   rw [hb]
   clear h1 hb
   by_cases h2 : n = own
   ·have h2b : (n == own) = true := beq_iff_eq.2 h2
    rw [if_pos h2] at HR2
    clear h2
    go_wp2
    go_ret
    exact ⟨by rw [HR2.out]; rfl, HB2.out⟩
   ·have h2b : (n == own) = false := beq_eq_false_iff_ne.2 h2
    rw [if_neg h2] at HR2
    clear h2
    go_wp2
    go_ret
    exact ⟨by rw [HR2.out]; rfl, HB2.out⟩
  ·have hb : decide (0 ≤ n ∧ n ≤ 65535) = false := decide_eq_false h1
   have HR2 := Lib.hid HR.out
   rw [if_neg h1] at HR2
   rw [hb]
   clear h1 hb
   go_wp2
   go_ret
   exact ⟨by rw [HR2.out]; rfl, HB2.out⟩
end Go.Proofs.YtopcpbokfngpeaaGreatDoor.H
