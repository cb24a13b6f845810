/- Texts of this claim, joined: DUrlT, HUrlE, UrlB, UrlC, HUrlT, HUrlP, HUrlC, HUrlD, HUrlA. Conditions: each theorem's own. -/
import Derived.Test.YtopcpbokfngpeaaGreatDoorB12
import Derived.Test.YtopcpbokfngpeaaGreatDoorB05
import Derived.Deep.QuietTactic
import Derived.BigQuiet
import Derived.Deep.LoopGhost
import Derived.Lib.Hide
import Derived.Test.YtopcpbokfngpeaaGreatDoorB04
import Derived.Tactics
import Derived.KernelRfl
import Derived.RowKit3
import Derived.Laws.Slices
import Derived.Laws.Rows
import Derived.RowKit
import Derived.Outline
import Derived.WalkSmall
import Derived.Deep.DeepCutAuto
import Derived.Deep.RegionHeld3
import Derived.Test.YtopcpbokfngpeaaGreatDoorB03
/- spec.l11Bytes, l11Host, l11Tail, l11Path, l11Text, l11AnyHost: texts and hosts that are drawn are short. Conditions: each theorem's own. -/
set_option linter.unusedVariables false
namespace Go.Proofs.YtopcpbokfngpeaaGreatDoor.H
open Go.RowKit Go.Proofs.YtopcpbokfngpeaaGreatDoorW.PrintWords Go.Proofs.YtopcpbokfngpeaaGreatDoor.Base Go.Proofs.YtopcpbokfngpeaaGreatDoor.Pure
def TextDrew (L : Nat) (w0 w : World) (g n : Nat) (e : Ending) (w' : World) : Prop := ∃ x : Bs, e = .returned (.string (B x)) ∧ x.length ≤ L ∧ Drew w0 w w' g n
set_option maxRecDepth 100000 in
theorem host_text (g n : Nat) (w0 w : World) (h : Drew w0 w w g (n + 1)) : Calls Tryz.prog 82 #[.pointer (some ⟨g, 0, none⟩)] w (TextDrew 10 w0 w g n) := by
 go_enter Tryz.func82, Tryz.ntmps82
 go_wp2_with fail
 refine (of_lit g n 10 22 w0 w w _ _ h (by rfl) (by rfl) (by omega) (by omega)).mono ?_
 rintro e w1 ⟨x, rfl, hx, D1⟩
 have HD := Lib.hid D1
 clear D1 h
 go_wp2
 go_ret
 exact ⟨x, rfl, hx, HD.out⟩
set_option maxRecDepth 100000 in
theorem tail_text (g n : Nat) (w0 w : World) (h : Drew w0 w w g (n + 1)) : Calls Tryz.prog 116 #[.pointer (some ⟨g, 0, none⟩)] w (TextDrew 4 w0 w g n) := by
 go_enter Tryz.func116, Tryz.ntmps116
 go_wp2_with fail
 refine (of_lit g n 4 11 w0 w w _ _ h (by rfl) (by rfl) (by omega) (by omega)).mono ?_
 rintro e w1 ⟨x, rfl, hx, D1⟩
 have HD := Lib.hid D1
 clear D1 h
 go_wp2
 go_ret
 exact ⟨x, rfl, hx, HD.out⟩
set_option maxHeartbeats 1000000 in
set_option maxRecDepth 100000 in
theorem path_text (g n : Nat) (w0 w : World) (h : Drew w0 w w g (n + 9)) : Calls Tryz.prog 115 #[.pointer (some ⟨g, 0, none⟩)] w (TextDrew 20 w0 w g n) := by
 go_enter Tryz.func115, Tryz.ntmps115
 go_wp2_with fail
 refine (pick_draw g (n + 8) 5 w0 w w h (by omega) (by omega)).mono ?_
 rintro e w1 ⟨r, rfl, hr, D1⟩
 clear h
 have eap : ∀ a b : Bs, B a ++ B b = B (a ++ b) := fun a b => B_append a b
 go_wp2_with fail
 go_loopw [3, 4] (fun o m wr => ∃ (out : Bs) (k : Nat), o = .string (B out) ∧ m = .int .i64 (k : Int) ∧ k ≤ 4 ∧ out.length ≤ 5 * (4 - k) ∧ Drew w0 w wr g (n + 2 * k)) (fun _ m _ => (intOf m).toNat)
 case atStart => exact ⟨[], r, rfl, rfl, by omega, by simp, D1.less (by omega)⟩
 case round =>
  clear D1
  obtain ⟨out, k, rfl, rfl, hk, hl, D1⟩ := hrel
  by_cases hk0 : 0 < k
  ·have hd : decide (0 < (k : Int)) = true := decide_eq_true (by omega)
   obtain ⟨j, hj⟩ : ∃ j, k = j + 1 := ⟨k - 1, by omega⟩
   have D1' : Drew w0 w wr g (n + 2 * j + 1 + 1) := D1.less (by omega)
   go_wp2_with fail
   refine (of_lit g _ 1 5 w0 wr wr _ _ D1'.at (by rfl) (by rfl) (by omega) (by omega)).mono ?_
   rintro e w2 ⟨x, rfl, hx, D12⟩
   have D2 := D1'.trans D12
   have k1 : ¬ 9223372036854775807 < out.length + x.length := by omega
   clear D1 D1' D12
   go_wp2_with fail
   refine (of_lit g _ 4 14 w0 w2 w2 _ _ D2.at (by rfl) (by rfl) (by omega) (by omega)).mono ?_
   rintro e w3 ⟨y, rfl, hy, D23⟩
   have D3 := Lib.hid (D2.trans D23)
   have k2 : ¬ 9223372036854775807 < out.length + x.length + y.length := by omega
   clear D2 D23
   go_wp2
   go_roundw
   case rel => exact ⟨out ++ (x ++ y), j, rfl, by go_num, by omega, by simp only [List.length_append]; omega, D3.out⟩
   case measure => simp only [intOf]; omega
  ·have hd : decide (0 < (k : Int)) = false := decide_eq_false (by omega)
   have HD := Lib.hid D1
   clear D1
   go_wp2
   go_ret
   exact ⟨out, rfl, by omega, HD.out.less (by omega)⟩
theorem infoU8 : (Tryz.prog.info? 5).map (fun i => (i.zero, i.size, i.bytes)) = some (some (.int .u8 0), 1, 1) := by kernel_rfl
def u8V (b : Bs) : List Value := b.map fun c => .int .u8 (c.toNat : Int)
theorem own_lt {w : World} {base : Nat} {e : TypeId} {size n : Nat} {v : Value} {xs : List Value} (h : w.ownsRow base e size v n xs) (k : Nat) (hk : v.ownBlock = some k) : base ≤ k ∧ k < w.heap.size := h.lt k hk
theorem own_drewn {w0 w w1 : World} {g n base : Nat} {e : TypeId} {size m : Nat} {v : Value} {xs : List Value} (h : w.ownsRow base e size v m xs) (d : Drew w0 w w1 g n) (hg : g < base) : w1.ownsRow base e size v m xs :=
 own_move h fun k hk => d.k.2 k (own_lt h k hk).2 (by have := (own_lt h k hk).1; omega) (by simp)
theorem Drew.grown {w0 w w1 w2 : World} {g n : Nat} {row : Option Nat} (h : Drew w0 w w1 g n) (k : w1.grownBy w2 row) (hr : ∀ b, row = some b → w.heap.size ≤ b ∧ b ≠ g) (hs : w0.heap.size ≤ w.heap.size) : Drew w0 w w2 g n := by
 refine ⟨?_, h.b.grown k h.b.size (fun b hb => Nat.le_trans hs (hr b hb).1), ⟨Nat.le_trans h.k.1 k.size, fun i hi hne _ => ?_⟩⟩
 ·obtain ⟨s, p, h1, h2⟩ := h.rd
  exact ⟨s, p, h1.grown k (fun q => (hr g q.symm).2 rfl), h2⟩
 ·rw [k.block i (Nat.lt_of_lt_of_le hi h.k.1) (fun q => by have := (hr i q.symm).1; omega)]
  exact h.k.2 i hi hne (by simp)
theorem u8_reads {w : World} {base : Nat} {A : Option Addr} {c : Nat} {b : Bs} (h : w.ownsRow base 5 1 (.slice A b.length c) b.length (u8V b)) (hl : b.length ≤ 1000000) : ReadsInt w .u8 A b.length (bytesOf (B b)) := by
 refine ⟨by simp [bytesOf_length], by omega, fun hn => ?_⟩
 rcases h.2 with ⟨hv, h0⟩ | ⟨g, cap, cur, hv, hb, hg, hnc, hcm, hcs, ht⟩
 ·omega
 ·obtain rfl : A = some ⟨g, 0, none⟩ := by injection hv
  refine ⟨_, rfl, fun j hj => ?_⟩
  rw [add_plain, h.cellAt j (by omega)]
  simp [u8V, bytesOf, List.getD_eq_getElem?_getD, List.getElem?_eq_getElem hj, B_data]
set_option maxHeartbeats 2000000 in
set_option maxRecDepth 100000 in
theorem bytes_text (g n m : Nat) (w0 w : World) (h : Drew w0 w w g (n + 2 * m)) (hm : m ≤ 1000) : Calls Tryz.prog 114 #[.pointer (some ⟨g, 0, none⟩), .int .i64 (m : Int)] w (TextDrew m w0 w g n) := by
 obtain ⟨i0, hi, hz0, hz1, hz2⟩ := info_parts infoU8
 have hlt := h.rd.lt
 have hs0 := h.b.size
 go_enter Tryz.func114, Tryz.ntmps114
 go_wp2_with fail
 go_loopw [1, 5] (fun i v wr => ∃ (k : Nat) (b : Bs), i = .int .i64 (k : Int) ∧ b.length + k = m ∧ wr.ownsRow w.heap.size 5 1 v b.length (u8V b) ∧ Drew w0 w wr g (n + 2 * k)) (fun i _ _ => (intOf i).toNat)
 case atStart => exact ⟨m, [], rfl, by simp, own_empty w 5, h.alloc _⟩
 case round =>
  clear h
  obtain ⟨k, b, rfl, hk, hown, D1⟩ := hrel
  obtain ⟨A, cap, rfl, hcap⟩ := own_form hown
  have hwr := D1.k.1
  by_cases hk0 : 0 < k
  ·have hd : decide (0 < (k : Int)) = true := decide_eq_true (by omega)
   obtain ⟨j, hj⟩ : ∃ j, k = j + 1 := ⟨k - 1, by omega⟩
   have D1' : Drew w0 w wr g (n + 2 * j + 1 + 1) := D1.less (by omega)
   go_wp2_with fail
   refine (pick_draw g _ 256 w0 wr wr D1'.at (by omega) (by omega)).mono ?_
   rintro e w2 ⟨r, rfl, hr, D12⟩
   have D2 := D1'.trans D12
   have hown2 := own_drewn hown D12 hlt
   clear D1 D1' D12 hown
   go_wp2_with fail
   refine (one_lit g _ 20 0 255 w0 w2 w2 _ _ D2.at (by simp [intOk]; omega) (by rfl) (by omega) (by omega)).mono ?_
   rintro e w3 ⟨x, rfl, ⟨x0, x1⟩, D23⟩
   obtain ⟨c, rfl⟩ : ∃ c : UInt8, x = (c.toNat : Int) := ⟨UInt8.ofNat x.toNat, by simp; omega⟩
   have D3 := D2.trans D23
   have hown3 := own_drewn hown2 D23 hlt
   have hw3 := D3.k.1
   clear D2 D23 hown2
   have hc0 : ((c.toNat : Int) % 256) = (c.toNat : Int) := by have := c.toNat_lt; omega
   go_wp2_with (at_builtin; refine wpList_append_own _ rfl _ _ 22 rfl w.heap.size 5 i0 (.int .u8 0) 1 1 Tryz.underlying22 hi hz0 hz1 hz2 rfl (by decide) _ _ _ rfl (hown3.alloc _) ⟨w3.heap.size, 0, none⟩ 1 1 [.int .u8 (c.toNat : Int)] rfl rfl ?c1 ?c2 ?c3 ?c4 ?c5 ?_)
   case c1 =>
    intro j u hj
    match j, hj with
    | 0, hj => simp at hj; subst hj; simp [Addr.add]
   case c2 => intro u hu; simp at hu; subst hu; rfl
   case c3 => unfold maxLen; omega
   case c4 => omega
   case c5 => simp; omega
   intro v' w6 hown' hgrow _
   have D6 := Lib.hid ((D3.alloc _).grown hgrow (fun b hb => by have := (own_lt hown3 b hb).1; exact ⟨this, by omega⟩) hs0)
   clear D3
   go_wp2
   go_roundw
   case rel => exact ⟨j, b ++ [c], by go_num, by simp; omega, by rw [show (b ++ [c]).length = b.length + 1 by simp, show u8V (b ++ [c]) = u8V b ++ [.int .u8 (c.toNat : Int)] by simp [u8V]]; exact hown', D6.out⟩
   case measure => simp only [intOf]; omega
  ·have hd : decide (0 < (k : Int)) = false := decide_eq_false (by omega)
   have HD := Lib.hid D1
   have hconv := string_of_reads (P := Tryz.prog) (c := cap) Tryz.underlying22 Tryz.underlying5 Tryz.underlying9 (u8_reads hown (by omega))
   rw [strOf_bytes] at hconv
   clear D1
   go_wp2
   go_ret
   exact ⟨b, rfl, by omega, HD.out.less (by omega)⟩
set_option maxHeartbeats 1000000 in
set_option maxRecDepth 100000 in
theorem text_draw (g n : Nat) (w0 w : World) (h : Drew w0 w w g (n + 30)) : Calls Tryz.prog 80 #[.pointer (some ⟨g, 0, none⟩)] w (TextDrew 100 w0 w g n) := by
 have eap : ∀ a b : Bs, B a ++ B b = B (a ++ b) := fun a b => B_append a b
 go_enter Tryz.func80, Tryz.ntmps80
 go_wp2_with fail
 refine (pick_draw g (n + 29) 10 w0 w w h (by omega) (by omega)).mono ?_
 rintro e w1 ⟨r, rfl, hr, D1⟩
 clear h
 by_cases c0 : r = 0
 ·have d0 : ((r : Int) == 0) = true := by rw [beq_iff_eq]; omega
  go_wp2_with fail
  refine (of_lit g n 14 7 w0 w1 w1 _ _ (D1.at.less (by omega)) (by rfl) (by rfl) (by omega) (by omega)).mono ?_
  rintro e w2 ⟨x, rfl, hx, D12⟩
  have HD := Lib.hid (D1.trans D12)
  clear D1 D12
  go_wp2
  go_ret
  exact ⟨x, rfl, by omega, HD.out⟩
 have d0 : ((r : Int) == 0) = false := by rw [beq_eq_false_iff_ne]; omega
 by_cases c1 : r = 1
 ·have d1 : ((r : Int) == 1) = true := by rw [beq_iff_eq]; omega
  go_wp2_with fail
  refine (pick_draw g (n + 28) 9 w0 w1 w1 (D1.at.less (by omega)) (by omega) (by omega)).mono ?_
  rintro e w2 ⟨m, rfl, hm, D12⟩
  have D2 := D1.trans D12
  clear D1 D12
  go_wp2_with fail
  refine (bytes_text g n m w0 w2 (D2.at.less (by omega)) (by omega)).mono ?_
  rintro e w3 ⟨x, rfl, hx, D23⟩
  have HD := Lib.hid (D2.trans D23)
  clear D2 D23
  go_wp2
  go_ret
  exact ⟨x, rfl, by omega, HD.out⟩
 have d1 : ((r : Int) == 1) = false := by rw [beq_eq_false_iff_ne]; omega
 clear c0 c1
 go_wp2_with fail
 refine (of_lit g (n + 28) 9 9 w0 w1 w1 _ _ D1.at (by rfl) (by rfl) (by omega) (by omega)).mono ?_
 rintro e w2 ⟨x1, rfl, h1, D12⟩
 have D2 := D1.trans D12
 clear D1 D12
 go_wp2_with fail
 refine (of_lit g (n + 27) 6 9 w0 w2 w2 _ _ D2.at (by rfl) (by rfl) (by omega) (by omega)).mono ?_
 rintro e w3 ⟨x2, rfl, h2, D23⟩
 have D3 := D2.trans D23
 have k2 : ¬ 9223372036854775807 < x1.length + x2.length := by omega
 clear D2 D23
 go_wp2_with fail
 refine (host_text g (n + 26) w0 w3 D3.at).mono ?_
 rintro e w4 ⟨x3, rfl, h3, D34⟩
 have D4 := D3.trans D34
 clear D3 D34
 have hdx : strOk 10 (.string (B x3)) = true := decide_eq_true (by rw [B_size]; omega)
 go_wp2_with fail
 refine (of_lit g (n + 25) 10 7 w0 w4 w4 _ _ D4.at (by simp only [List.all_cons, List.all_nil, hdx]; rfl) (by rfl) (by omega) (by omega)).mono ?_
 rintro e w5 ⟨x4, rfl, h4, D45⟩
 have D5 := D4.trans D45
 have k4 : ¬ 9223372036854775807 < x1.length + x2.length + x4.length := by omega
 clear D4 D45
 go_wp2_with fail
 refine (of_lit g (n + 24) 6 10 w0 w5 w5 _ _ D5.at (by rfl) (by rfl) (by omega) (by omega)).mono ?_
 rintro e w6 ⟨x5, rfl, h5, D56⟩
 have D6 := D5.trans D56
 have k5 : ¬ 9223372036854775807 < x1.length + x2.length + x4.length + x5.length := by omega
 clear D5 D56
 go_wp2_with fail
 refine (path_text g (n + 15) w0 w6 (D6.at.less (by omega))).mono ?_
 rintro e w7 ⟨x6, rfl, h6, D67⟩
 have D7 := D6.trans D67
 have k6 : ¬ 9223372036854775807 < x1.length + x2.length + x4.length + x5.length + x6.length := by omega
 clear D6 D67
 go_wp2_with fail
 refine (tail_text g (n + 14) w0 w7 D7.at).mono ?_
 rintro e w8 ⟨x7, rfl, h7, D78⟩
 have D8 := Lib.hid (D7.trans D78)
 have k7 : ¬ 9223372036854775807 < x1.length + x2.length + x4.length + x5.length + x6.length + x7.length := by omega
 clear D7 D78
 go_wp2
 go_ret
 exact ⟨x1 ++ (x2 ++ (x4 ++ (x5 ++ (x6 ++ x7)))), rfl, by simp only [List.length_append]; omega, D8.out.less (by omega)⟩
theorem cells3 {w : World} {g : Nat} {t : TypeId} {c0 c1 c2 : Value} (h : w.heap[g]? = some (.cells #[c0, c1, c2] t (0, 0))) :
  (w.cell? ⟨g, 0, none⟩ = some c0 ∧ w.cell? ⟨g, 1, none⟩ = some c1 ∧ w.cell? ⟨g, 2, none⟩ = some c2) ∧ (w.frozen? ⟨g, 0, none⟩ = false ∧ w.frozen? ⟨g, 1, none⟩ = false ∧ w.frozen? ⟨g, 2, none⟩ = false) :=
 ⟨⟨(blk_cell h 0).trans rfl, (blk_cell h 1).trans rfl, (blk_cell h 2).trans rfl⟩, ⟨blk_frozen h 0, blk_frozen h 1, blk_frozen h 2⟩⟩
theorem put3 {w : World} {g : Nat} {t : TypeId} {c0 c1 c2 v0 v1 v2 : Value} (h : w.heap[g]? = some (.cells #[c0, c1, c2] t (0, 0))) :
  (((w.setCell ⟨g, 0, none⟩ v0).setCell ⟨g, 1, none⟩ v1).setCell ⟨g, 2, none⟩ v2).heap[g]? = some (.cells #[v0, v1, v2] t (0, 0)) := by
 have h0 : (w.setCell ⟨g, 0, none⟩ v0).heap[g]? = some (.cells #[v0, c1, c2] t (0, 0)) := blk_set h 0 v0
 have h1 : ((w.setCell ⟨g, 0, none⟩ v0).setCell ⟨g, 1, none⟩ v1).heap[g]? = some (.cells #[v0, v1, c2] t (0, 0)) := blk_set h0 1 v1
 exact blk_set h1 2 v2
theorem Drew.put {w0 w w1 : World} {g n b : Nat} (h : Drew w0 w w1 g n) (i : Nat) (v : Value) (hg : b ≠ g) (hb : w.heap.size ≤ b) (hs : w0.heap.size ≤ w.heap.size) : Drew w0 w (w1.setCell ⟨b, i, none⟩ v) g n := h.set hg hb hs v
set_option maxHeartbeats 2000000 in
set_option maxRecDepth 100000 in
theorem host_draw (g n : Nat) (w0 w : World) (h : Drew w0 w w g (n + 3)) :
  Calls Tryz.prog 48 #[.pointer (some ⟨g, 0, none⟩)] w fun e w' => ∃ (hk : Int) (hn : Bs) (ha : Int), e = .returned (.agg #[.int .i64 hk, .string (B hn), .int .i64 ha]) ∧ hn.length ≤ 1000 ∧ Drew w0 w w' g n := by
 have hlt := h.rd.lt
 have hs0 := h.b.size
 have K2 : (w.alloc (.cells #[.int .i64 0, .string ⟨#[]⟩, .int .i64 0] 24)).heap[w.heap.size]? = some (.cells #[.int .i64 0, .string ⟨#[]⟩, .int .i64 0] 24 (0, 0)) := blk_new w _
 have D1 := h.alloc (.cells #[.int .i64 0, .string ⟨#[]⟩, .int .i64 0] 24)
 go_enter Tryz.func48, Tryz.ntmps48
 go_upto_region 1 with fail
 generalize w.alloc _ = w1 at K2 D1 ⊢
 have hg2 : w.heap.size < w1.heap.size := blk_lt K2
 go_wp2_with fail
 refine (host_text g (n + 2) w0 w1 D1.at).mono ?_
 rintro e w2 ⟨x, rfl, hx, D12⟩
 have K22 := D12.k.blk K2 (by omega) (by simp)
 have D2 := D1.trans D12
 clear D1 D12 K2
 obtain ⟨m0, l, m2, b, hgv, hl⟩ := hostGV_len x
 have HG := specHostGet_walk x w2 (by omega)
 rw [hgv, B_data] at HG
 go_wp2_with fail
 refine HG.mono ?_
 rintro e w3 ⟨rfl, hb3⟩
 clear HG hgv
 have hba := below_alloc (Below.refl _ w3) (.cells #[.int .i64 m0, .string (B l), .int .i64 m2] 24)
 have K3 : (w3.alloc (.cells #[.int .i64 m0, .string (B l), .int .i64 m2] 24)).heap[w3.heap.size]? = some (.cells #[.int .i64 m0, .string (B l), .int .i64 m2] 24 (0, 0)) := blk_new w3 _
 have K23 := blk_below (blk_below K22 hb3) hba
 have D3 := (D2.below hb3).below hba
 have hg3 : w.heap.size < w3.heap.size := blk_lt (blk_below K22 hb3)
 clear hb3 hba K22 D2
 go_upto_region 2 with fail
 generalize w3.alloc _ = w4 at K3 K23 D3 ⊢
 generalize w3.heap.size = g3 at K3 hg3 ⊢
 have hg34 : g3 < w4.heap.size := blk_lt K3
 have hg24 : w.heap.size < w4.heap.size := blk_lt K23
 go_wp2_with fail
 refine (pick_draw g (n + 1) 12 w0 w4 w4 D3.at (by omega) (by omega)).mono ?_
 rintro e w5 ⟨r, rfl, hr, D45⟩
 have K35 := D45.k.blk K3 (by omega) (by simp)
 have K25 := D45.k.blk K23 (by omega) (by simp)
 have D5 := D3.trans D45
 have hsz := D45.k.1
 clear D45 D3 K3 K23
 by_cases c0 : r = 0
 ·have d0 : ((r : Int) == 0) = true := by rw [beq_iff_eq]; omega
  go_wp2_with fail
  refine (pick_draw g n 4 w0 w5 w5 D5.at (by omega) (by omega)).mono ?_
  rintro e w6 ⟨r2, rfl, hr2, D56⟩
  have K36 := D56.k.blk K35 (by omega) (by simp)
  have K26 := D56.k.blk K25 (by omega) (by simp)
  have D6 := D5.trans D56
  clear D5 D56 K35 K25
  have kc3 := cells3 K36
  go_upto_region 9 with fail
  have K37 := blk_set K36 0 (.int .i64 (r2 : Int))
  have K27 := blk_far (p := ⟨g3, 0, none⟩) K26 (by show w.heap.size ≠ g3; omega) (.int .i64 (r2 : Int))
  have D7 := D6.put (b := g3) 0 (.int .i64 (r2 : Int)) (by omega) (by omega) hs0
  generalize w6.setCell _ _ = w7 at K37 K27 D7 ⊢
  clear kc3 K36 K26 D6
  have kc3 := cells3 K37
  have kc2 := cells3 K27
  have HD := Lib.hid D7
  clear D7
  go_wp2
  exact bodyPost_ret (results_cell_row rfl _ _ w.heap.size 24 _ (0, 0) _ rfl (put3 K27) Tryz.underlying24 rfl (by kernel_rfl)) rfl ⟨(r2 : Int), l, m2, rfl, hl, ((HD.out.put _ _ (by omega) (Nat.le_refl _) hs0).put _ _ (by omega) (Nat.le_refl _) hs0).put _ _ (by omega) (Nat.le_refl _) hs0⟩
 have d0 : ((r : Int) == 0) = false := by rw [beq_eq_false_iff_ne]; omega
 by_cases c1 : r = 1
 ·have d1 : ((r : Int) == 1) = true := by rw [beq_iff_eq]; omega
  go_wp2_with fail
  refine (of_lit g n 3 5 w0 w5 w5 _ _ D5.at (by rfl) (by rfl) (by omega) (by omega)).mono ?_
  rintro e w6 ⟨y, rfl, hy, D56⟩
  have K36 := D56.k.blk K35 (by omega) (by simp)
  have K26 := D56.k.blk K25 (by omega) (by simp)
  have D6 := D5.trans D56
  clear D5 D56 K35 K25
  have kc3 := cells3 K36
  go_upto_region 9 with fail
  have K37 := blk_set K36 1 (.string (B y))
  have K27 := blk_far (p := ⟨g3, 1, none⟩) K26 (by show w.heap.size ≠ g3; omega) (.string (B y))
  have D7 := D6.put (b := g3) 1 (.string (B y)) (by omega) (by omega) hs0
  generalize w6.setCell _ _ = w7 at K37 K27 D7 ⊢
  clear kc3 K36 K26 D6
  have kc3 := cells3 K37
  have kc2 := cells3 K27
  have HD := Lib.hid D7
  clear D7
  go_wp2
  exact bodyPost_ret (results_cell_row rfl _ _ w.heap.size 24 _ (0, 0) _ rfl (put3 K27) Tryz.underlying24 rfl (by kernel_rfl)) rfl ⟨m0, y, m2, rfl, by omega, ((HD.out.put _ _ (by omega) (Nat.le_refl _) hs0).put _ _ (by omega) (Nat.le_refl _) hs0).put _ _ (by omega) (Nat.le_refl _) hs0⟩
 have d1 : ((r : Int) == 1) = false := by rw [beq_eq_false_iff_ne]; omega
 by_cases c2 : r = 2
 ·have d2 : ((r : Int) == 2) = true := by rw [beq_iff_eq]; omega
  go_wp2_with fail
  refine (one_lit g n 4 (-1) 4294967296 w0 w5 w5 _ _ D5.at (by rfl) (by rfl) (by omega) (by omega)).mono ?_
  rintro e w6 ⟨y, rfl, hy, D56⟩
  have K36 := D56.k.blk K35 (by omega) (by simp)
  have K26 := D56.k.blk K25 (by omega) (by simp)
  have D6 := D5.trans D56
  clear D5 D56 K35 K25
  have kc3 := cells3 K36
  go_upto_region 9 with fail
  have K37 := blk_set K36 2 (.int .i64 y)
  have K27 := blk_far (p := ⟨g3, 2, none⟩) K26 (by show w.heap.size ≠ g3; omega) (.int .i64 y)
  have D7 := D6.put (b := g3) 2 (.int .i64 y) (by omega) (by omega) hs0
  generalize w6.setCell _ _ = w7 at K37 K27 D7 ⊢
  clear kc3 K36 K26 D6
  have kc3 := cells3 K37
  have kc2 := cells3 K27
  have HD := Lib.hid D7
  clear D7
  go_wp2
  exact bodyPost_ret (results_cell_row rfl _ _ w.heap.size 24 _ (0, 0) _ rfl (put3 K27) Tryz.underlying24 rfl (by kernel_rfl)) rfl ⟨m0, l, y, rfl, hl, ((HD.out.put _ _ (by omega) (Nat.le_refl _) hs0).put _ _ (by omega) (Nat.le_refl _) hs0).put _ _ (by omega) (Nat.le_refl _) hs0⟩
 have d2 : ((r : Int) == 2) = false := by rw [beq_eq_false_iff_ne]; omega
 have kc3 := cells3 K35
 have kc2 := cells3 K25
 have HD := Lib.hid D5
 clear D5
 go_wp2
 exact bodyPost_ret (results_cell_row rfl _ _ w.heap.size 24 _ (0, 0) _ rfl (put3 K25) Tryz.underlying24 rfl (by kernel_rfl)) rfl ⟨m0, l, m2, rfl, hl, (((HD.out.put _ _ (by omega) (Nat.le_refl _) hs0).put _ _ (by omega) (Nat.le_refl _) hs0).put _ _ (by omega) (Nat.le_refl _) hs0).less (by omega)⟩
end Go.Proofs.YtopcpbokfngpeaaGreatDoor.H
/- laws.eqStringS, laws.guTexts, slices.Equal at texts: two rows of texts held against each other. No condition. -/
set_option linter.unusedVariables false
namespace Go.Proofs.YtopcpbokfngpeaaGreatDoor.H
open Go.RowKit Go.Proofs.YtopcpbokfngpeaaGreatDoorW.PrintWords Go.Proofs.YtopcpbokfngpeaaGreatDoor.Base Go.Proofs.YtopcpbokfngpeaaGreatDoor.Pure
theorem kd_at {w : World} {A : Option Addr} {ps : List Bs} (h : Kd.C Kd.string w A (ps.map B).length (ps.map B)) (k : Nat) (hk : k < ps.length) : ∃ ad, A = some ad ∧ w.cell? (ad.add k) = some (.string (B ps[k])) := by
 obtain ⟨ad, e0, hcell⟩ := Kd.at_string h (k : Int) (by omega) (by simp; omega)
 have hrd : rdOf ByteArray.empty (ps.map B) (k : Int) = B ps[k] := by unfold rdOf; rw [Int.toNat_natCast, List.getD_eq_getElem?_getD, List.getElem?_map, List.getElem?_eq_getElem hk]; rfl
 rw [hrd, Int.toNat_natCast] at hcell
 exact ⟨ad, e0, hcell⟩
theorem take_eq {ps qs : List Bs} (k : Nat) (h1 : k < ps.length) (h2 : k < qs.length) (h : ps.take k = qs.take k) (he : ps[k] = qs[k]) : ps.take (k + 1) = qs.take (k + 1) := by
 rw [List.take_succ_eq_append_getElem h1, List.take_succ_eq_append_getElem h2, h, he]
theorem take_ne {ps qs : List Bs} (k : Nat) (h1 : k < ps.length) (h2 : k < qs.length) (he : ps[k] ≠ qs[k]) : (ps == qs) = false := by
 rw [beq_eq_false_iff_ne]; intro e; subst e; exact he rfl
set_option maxHeartbeats 1000000 in
set_option maxRecDepth 100000 in
theorem slEqual_walk (pv qv : Value) (ps qs : List Bs) (w : World) (hP : PathAt w pv ps) (hQ : PathAt w qv qs) (hm : ps.length ≤ 1048576) :
  Calls Tryz.prog 79 #[pv, qv] w fun e w' => e = .returned (.bool (ps == qs)) ∧ Below w.heap.size w w' := by
 obtain ⟨A, c, rfl, hc, hk⟩ := hP
 obtain ⟨A', c', rfl, hc', hk'⟩ := hQ
 by_cases hl : ps.length = qs.length
 ·have HP := Lib.hid hk
  have HQ := Lib.hid hk'
  have HL := Lib.hid hl
  rw [← hl]
  clear hk hk' hl
  go_enter Tryz.func79, Tryz.ntmps79
  go_wp2
  go_loopw [13] (fun i wr => ∃ k : Nat, k ≤ ps.length ∧ i = .int .i64 k ∧ ps.take k = qs.take k ∧ Below w.heap.size w wr) (fun i _ => ps.length - (intOf i).toNat)
  case atStart => exact ⟨0, by omega, rfl, rfl, Below.refl _ _⟩
  case round =>
   obtain ⟨k, hk, rfl, ht, hb⟩ := hrel
   by_cases hlt : k < ps.length
   ·have hlt2 : k < qs.length := by rw [← HL.out]; exact hlt
    obtain ⟨ad, e0, hcell⟩ := kd_at (Kd.C_below HP.out hb) k hlt
    obtain ⟨ad', e0', hcell'⟩ := kd_at (Kd.C_below HQ.out hb) k hlt2
    subst e0 e0'
    have i1 : ((k : Int) < (ps.length : Int)) := by omega
    have it : ((k : Int)).toNat = k := rfl
    have HT := Lib.hid fun h => take_eq k hlt hlt2 ht h
    have HN := Lib.hid fun h => take_ne k hlt hlt2 h
    clear ht
    by_cases he : ps[k] = qs[k]
    ·have HE := Lib.hid (HT.out he)
     have hne : (ps[k] != qs[k]) = false := by simp [he]
     have hee : (ps[k] == qs[k]) = true := by simp [he]
     clear he HT HN
     generalize ps[k] = x at *
     generalize qs[k] = y at *
     go_wp2_with fail
     go_quiet (fail)
     go_wp2
     go_roundw
     case rel => exact ⟨k + 1, by omega, by go_num, HE.out, below_drewN hb _⟩
     case measure => simp only [intOf]; omega
    ·have HE := Lib.hid (HN.out he)
     have hne : (ps[k] != qs[k]) = true := by simp [he]
     have hee : (ps[k] == qs[k]) = false := by simp [he]
     clear he HT HN
     generalize ps[k] = x at *
     generalize qs[k] = y at *
     go_wp2_with fail
     go_quiet (fail)
     go_wp2
     go_ret
     exact ⟨by rw [HE.out]; rfl, below_drewN hb _⟩
   ·have HE : Hid (ps = qs) := Lib.hid (by rw [List.take_of_length_le (by omega), List.take_of_length_le (by rw [← HL.out]; omega)] at ht; exact ht)
    have hn : decide ((k : Int) < (ps.length : Int)) = false := decide_eq_false (by omega)
    clear ht
    go_wp2
    go_ret
    exact ⟨by rw [HE.out]; simp, hb⟩
 ·have HE : Hid ((ps == qs) = false) := Lib.hid (by rw [beq_eq_false_iff_ne]; intro e; exact hl (by rw [e]))
  have hn : ((ps.length : Int) != (qs.length : Int)) = true := by simp; omega
  have hn2 : ((ps.length : Int) == (qs.length : Int)) = false := by simp; omega
  generalize (ps == qs) = b at HE ⊢
  generalize ps.length = m at *
  generalize qs.length = n at *
  clear hl hk hk'
  go_enter Tryz.func79, Tryz.ntmps79
  go_wp2
  go_ret
  exact ⟨by rw [HE.out]; rfl, Below.refl _ _⟩
end Go.Proofs.YtopcpbokfngpeaaGreatDoor.H
/- Of no program: an address that was read, written again, is read as itself; plain lists of bytes. Conditions: each theorem's own. -/
namespace Go.Proofs.YtopcpbokfngpeaaGreatDoor.H
open Go.RowKit Go.Proofs.YtopcpbokfngpeaaGreatDoorW.PrintWords Go.Proofs.YtopcpbokfngpeaaGreatDoor.Base Go.Proofs.YtopcpbokfngpeaaGreatDoor.Pure

/-! What is left of a text that was written as figures. -/
theorem encC_in (S : Bs) (d c : UInt8) (h : c ∈ encC S d) : c ∈ plainS ∨ (c = d ∧ needs S d = false) := by
 unfold encC at h
 split at h
 ·have hd := d.toNat_lt
  unfold pct at h
  simp only [List.mem_cons, List.not_mem_nil, or_false] at h
  rcases h with rfl | rfl | rfl
  ·exact .inl (by decide)
  ·exact .inl (fig_plain _ (by omega))
  ·exact .inl (fig_plain _ (by omega))
 ·rename_i q
  exact .inr ⟨by simpa using h, by simpa using q⟩
theorem enc_in (S l : Bs) (c : UInt8) (h : c ∈ enc S l) : c ∈ plainS ∨ (c ∈ l ∧ needs S c = false) := by
 obtain ⟨d, hd, hc⟩ := List.mem_flatMap.1 h
 rcases encC_in S d c hc with q | ⟨rfl, q⟩
 ·exact .inl q
 ·exact .inr ⟨hd, q⟩
theorem enc_no (S l : Bs) (x : UInt8) (hx : S.contains x = true) (hp : x ∉ plainS) : ∀ c ∈ enc S l, c ≠ x := fun c hc e => by
 subst e
 rcases enc_in S l c hc with q | ⟨_, q⟩
 ·exact hp q
 ·unfold needs at q; rw [hx, Bool.or_true] at q; cases q
theorem enc_keeps (S l : Bs) (x : UInt8) (hp : x ∉ plainS) (h : ∀ c ∈ l, c ≠ x) : ∀ c ∈ enc S l, c ≠ x := fun c hc e => by
 subst e
 rcases enc_in S l c hc with q | ⟨q, _⟩
 ·exact hp q
 ·exact h c q rfl
def Seen (l : Bs) : Prop := ∀ c ∈ l, 32 < c.toNat
theorem Seen.cons {c : UInt8} {b : Bs} (hc : 32 < c.toNat) (hb : Seen b) : Seen (c :: b) := fun d hd => by
 rcases List.mem_cons.1 hd with rfl | q
 ·exact hc
 ·exact hb d q
theorem Seen.nil : Seen [] := fun c hc => by cases hc
/-! Up to the first of some bytes, of what is put together. -/
theorem upA_not (S l : Bs) : ∀ c ∈ upA S l, S.contains c = false := fun c hc => by
 unfold upA at hc
 induction l with
 | nil => cases hc
 | cons x t ih =>
  rw [List.takeWhile_cons] at hc
  cases h : S.contains x with
  | true => rw [h] at hc; cases hc
  | false =>
   rw [h] at hc
   rcases List.mem_cons.1 hc with rfl | q
   ·exact h
   ·exact ih q
/-! Query and fragment. -/
structure TailOk (u : Ur) : Prop where
 q0 : u.hq = false → u.qry = []
 f0 : u.hf = false → u.frg = []
 q : enc (setB 2) u.qry = u.qry
 f : enc (setB 3) u.frg = u.frg
theorem setTail_ok (u : Ur) (l : Bs) : TailOk (setTail u l) := by
 refine ⟨fun h => ?_, fun h => ?_, enc_twice 2 _, enc_twice 3 _⟩
 ·have h' : (!(cutAh 35 l).isEmpty) = false := h
  have : cutAh 35 l = [] := List.isEmpty_iff.1 (by simpa using h')
  show enc (setB 2) ((cutAh 35 l).drop 1) = []
  rw [this]; rfl
 ·have h' : l.contains 35 = false := h
  show enc (setB 3) (cutBe 35 l) = []
  rw [cutBe_plain 35 l fun x hx e => by
   subst e
   rw [List.contains_eq_mem, decide_eq_false_iff_not] at h'
   exact h' hx]
  rfl
theorem tail_back (u v : Ur) (h : TailOk u) : setTail v (tailB u) = { v with hq := u.hq, qry := u.qry, hf := u.hf, frg := u.frg } := by
 have hn : ∀ c ∈ (if u.hq = true then 63 :: u.qry else []), c ≠ 35 := fun c hc => by
  split at hc
  ·rcases List.mem_cons.1 hc with rfl | q
   ·decide
   ·rw [← h.q] at q
    exact enc_no (setB 2) _ 35 (by decide) (by decide) c q
  ·cases hc
 have e1 : cutAh 35 (tailB u) = if u.hq = true then 63 :: u.qry else [] := by
  unfold tailB
  cases hf : u.hf with
  | true => rw [if_pos rfl]; exact cutAh_cut 35 _ _ hn
  | false => rw [if_neg (show ¬ false = true by simp), List.append_nil]; exact cutAh_plain 35 _ hn
 have e2 : cutBe 35 (tailB u) = u.frg := by
  unfold tailB
  cases hf : u.hf with
  | true => rw [if_pos rfl]; exact cutBe_cut 35 _ _ hn
  | false => rw [if_neg (show ¬ false = true by simp), List.append_nil, h.f0 hf]; exact cutBe_plain 35 _ hn
 have e3 : (tailB u).contains 35 = u.hf := by
  unfold tailB
  cases hf : u.hf with
  | true => rw [if_pos rfl, List.contains_eq_mem]; exact decide_eq_true (by simp)
  | false =>
   rw [if_neg (show ¬ false = true by simp), List.append_nil, List.contains_eq_mem]
   exact decide_eq_false fun q => hn _ q rfl
 unfold setTail
 rw [e1, e2, e3]
 cases hq : u.hq with
 | true => rw [if_pos rfl]; simp [h.q, h.f]
 | false => rw [if_neg (show ¬ false = true by simp), h.q0 hq]; simp [h.f]; rfl
theorem cut_total (c : UInt8) : ∀ l : Bs, (cutAh c l).length + (cutBe c l).length + (if l.contains c = true then 1 else 0) = l.length
 | [] => rfl
 | x :: t => by
  have ih := cut_total c t
  unfold cutAh cutBe
  by_cases e : x = c
  ·subst e
   rw [if_pos rfl, if_pos rfl, if_pos (by simp), List.length_nil, List.length_cons]; omega
  ·rw [if_neg e, if_neg e]
   have : (x :: t).contains c = t.contains c := by
    rw [List.contains_cons]
    have : (c == x) = false := by rw [beq_eq_false_iff_ne]; exact fun q => e q.symm
    rw [this, Bool.false_or]
   rw [this, List.length_cons, List.length_cons]; omega
theorem setTail_size (u : Ur) (l : Bs) : (tailB (setTail u l)).length ≤ 3 * l.length := by
 have h1 := cut_total 35 l
 have h2 := (enc_len (setB 2) ((cutAh 35 l).drop 1)).2
 have h3 := (enc_len (setB 3) (cutBe 35 l)).2
 unfold tailB setTail
 show ((if (!(cutAh 35 l).isEmpty) = true then 63 :: enc (setB 2) ((cutAh 35 l).drop 1) else []) ++ (if l.contains 35 = true then 35 :: enc (setB 3) (cutBe 35 l) else [])).length ≤ _
 rw [List.length_append]
 have e1 : (if (!(cutAh 35 l).isEmpty) = true then 63 :: enc (setB 2) ((cutAh 35 l).drop 1) else []).length ≤ 3 * (cutAh 35 l).length := by
  cases hc : cutAh 35 l with
  | nil => simp
  | cons x t => rw [hc] at h2; simp at h2 ⊢; omega
 have e2 : (if l.contains 35 = true then 35 :: enc (setB 3) (cutBe 35 l) else []).length ≤ 3 * (cutBe 35 l).length + 3 * (if l.contains 35 = true then 1 else 0) := by
  split
  ·simp; omega
  ·simp
 omega
end Go.Proofs.YtopcpbokfngpeaaGreatDoor.H
/- Of no program: an address that was read, written again, is read as itself; plain lists of bytes. Conditions: each theorem's own. -/
namespace Go.Proofs.YtopcpbokfngpeaaGreatDoor.H
open Go.RowKit Go.Proofs.YtopcpbokfngpeaaGreatDoorW.PrintWords Go.Proofs.YtopcpbokfngpeaaGreatDoor.Base Go.Proofs.YtopcpbokfngpeaaGreatDoor.Pure

/-! A number in decimals, read as a port. -/
theorem dec_dg : ∀ n : Nat, ∀ c ∈ Lib.decDigits n, 48 ≤ c.toNat ∧ c.toNat ≤ 57 := fun n => by
 induction n using Nat.strongRecOn with
 | ind n ih =>
  have hx : ∀ m : Nat, m < 10 → (UInt8.ofNat (48 + m)).toNat = 48 + m := fun m hm => by simp; omega
  intro c hc
  by_cases h : n < 10
  ·rw [dec_small h, List.mem_singleton] at hc
   rw [hc, hx n h]; omega
  ·rw [dec_big h] at hc
   rcases List.mem_append.1 hc with q | q
   ·exact ih (n / 10) (by omega) c q
   ·rw [List.mem_singleton] at q
    rw [q, hx _ (by omega)]; omega
theorem portV_nil (own : Int) : portV [] own = some (-1) := rfl
theorem portV_rng (l : Bs) (own n : Int) (h : portV l own = some n) : n = -1 ∨ (0 ≤ n ∧ n ≤ 65535 ∧ n ≠ own) := by
 unfold portV at h
 cases hd : dig 10 0 l with
 | none => rw [hd] at h; cases h
 | some m =>
  rw [hd] at h
  have hm := dig_rng 10 (by omega) (by omega) l 0 m (by omega) (by omega) hd
  replace h : (if 65535 < m then none else if l = [] ∨ m = own then some (-1) else some m) = some n := h
  split at h
  ·cases h
  ·split at h
   ·exact .inl (Option.some.inj h).symm
   ·rename_i h1 h2
    obtain rfl := Option.some.inj h
    exact .inr ⟨hm.1, by omega, fun q => h2 (.inr q)⟩
theorem dig_len : ∀ (l : Bs) (m n : Int), 0 ≤ m → dig 10 m l = some n → ∀ k : Nat, m < 10 ^ k → n < 10 ^ (k + l.length)
 | [], m, n, h0, h, k, hk => by rw [dig] at h; obtain rfl := Option.some.inj h; simpa using hk
 | c :: t, m, n, h0, h, k, hk => by
  rw [dig] at h
  split at h
  ·cases h
  ·rename_i q
   have := dig_len t (m * 10 + hexI c) n (by omega) h (k + 1) (by rw [Int.pow_succ]; omega)
   rw [List.length_cons, show k + (t.length + 1) = k + 1 + t.length by omega]; exact this
theorem dec_le : ∀ (k n : Nat), n < 10 ^ k → 0 < k → (Lib.decDigits n).length ≤ k
 | 0, _, _, h => absurd h (Nat.lt_irrefl 0)
 | 1, n, h, _ => by rw [dec_small (by omega)]; simp
 | k + 2, n, h, _ => by
  by_cases q : n < 10
  ·rw [dec_small q]; simp
  ·rw [dec_big q, List.length_append]
   have := dec_le (k + 1) (n / 10) (by rw [Nat.pow_succ] at h; omega) (by omega)
   simp; omega
theorem portB_size (l : Bs) (own n : Int) (h : portV l own = some n) : (portB n).length ≤ l.length + 1 := by
 unfold portB
 split
 ·rename_i h0
  unfold portV at h
  cases hd : dig 10 0 l with
  | none => rw [hd] at h; cases h
  | some m =>
   rw [hd] at h
   replace h : (if 65535 < m then none else if l = [] ∨ m = own then some (-1) else some m) = some n := h
   split at h
   ·cases h
   ·split at h
    ·have := Option.some.inj h; omega
    ·rename_i h1 h2
     obtain rfl := Option.some.inj h
     have hl : l ≠ [] := fun q => h2 (.inl q)
     have hp := dig_len l 0 m (by omega) hd 0 (by simp)
     have := dec_le l.length m.toNat (by
      have : ((m.toNat : Nat) : Int) < ((10 ^ l.length : Nat) : Int) := by
       rw [Nat.zero_add] at hp
       have e : ((10 ^ l.length : Nat) : Int) = 10 ^ l.length := by simp
       rw [e]; omega
      exact Int.ofNat_lt.1 this) (List.length_pos_iff.2 hl)
     simp; omega
 ·simp

/-! A host, read and written. -/
def hostC (c : UInt8) : Prop := 45 ≤ c.toNat ∧ c.toNat ≤ 122 ∧ c.toNat ≠ 47 ∧ c.toNat ≠ 92 ∧ c.toNat ≠ 63 ∧ c.toNat ≠ 64 ∧ c.toNat ≠ 58
theorem hc_hostC (c : UInt8) (h : (hc c || decide (c = 46)) = true) : hostC c := by
 unfold hostC
 rcases Bool.or_eq_true_iff.1 h with q | q
 ·have := (hc_iff c).1 q; omega
 ·have := of_decide_eq_true q; subst this; decide
theorem four_hostC (a : Nat) : ∀ c ∈ fourB a, hostC c := fun c hc => by
 have h : (48 ≤ c.toNat ∧ c.toNat ≤ 57) ∨ c = 46 := by
  unfold fourB at hc
  simp only [List.mem_append, List.mem_cons] at hc
  rcases hc with q | q | q | q | q | q | q
  ·exact .inl (dec_dg _ c q)
  ·exact .inr q
  ·exact .inl (dec_dg _ c q)
  ·exact .inr q
  ·exact .inl (dec_dg _ c q)
  ·exact .inr q
  ·exact .inl (dec_dg _ c q)
 unfold hostC
 rcases h with q | rfl
 ·omega
 ·decide
structure HostRt (k : Int) (n : Bs) (a : Int) : Prop where
 back : hostGV (hostPV k n a) = (k, B n, a, true)
 ne : hostPV k n a ≠ []
 ok : ∀ c ∈ hostPV k n a, hostC c
 kind : k ≠ 0
 size : n.length ≤ 60
 put : (hostPV k n a).length ≤ 60
theorem host_rt (t : Bs) (h : (hostGV t).2.2.2 = true) : HostRt (hostGV t).1 (hostGV t).2.1.data.toList (hostGV t).2.2.1 := by
 rcases hostGV_shape t with e | ⟨l, hl, e⟩ | ⟨a, ha, e⟩
 ·rw [e] at h; cases h
 ·rw [e]
  show HostRt 1 (B l).data.toList 0
  rw [B_data]
  have hp := hostPV_name l hl
  have hlen := plain_len l hl
  refine ⟨by rw [hp]; exact hostGV_name l hl, by rw [hp]; exact hlen.1, fun c hc => ?_, by decide, hlen.2, by rw [hp]; exact hlen.2⟩
  rw [hp] at hc
  have h1 := (Bool.and_eq_true_iff.1 hl).1
  unfold isHost at h1
  have h2 := (Bool.and_eq_true_iff.1 (Bool.and_eq_true_iff.1 h1).1).1
  exact hc_hostC c (List.all_eq_true.1 h2 c hc)
 ·rw [e]
  show HostRt 2 [] (a : Int)
  have hp := hostPV_four a ha
  have hne : fourB a ≠ [] := by
   unfold fourB; intro q
   have := congrArg List.length q
   simp at this
  refine ⟨by rw [hp]; exact hostGV_four a ha, by rw [hp]; exact hne, fun c hc => by rw [hp] at hc; exact four_hostC a c hc, by decide, by simp, by rw [hp]; have := fourB_len a; omega⟩
theorem host_size (t : Bs) (h : (hostGV t).2.2.2 = true) : (hostPV (hostGV t).1 (hostGV t).2.1.data.toList (hostGV t).2.2.1).length ≤ t.length + 15 := by
 have hs := hostGV_shape t
 rcases hs with e | ⟨l, hl, e⟩ | ⟨a, ha, e⟩
 ·rw [e] at h; cases h
 ·have hle : l.length ≤ t.length := by
   have hg : hostGV t = (1, B l, 0, true) := e
   unfold hostGV at hg
   split at hg
   ·unfold hostV at hg
    split at hg
    ·cases hg
    ·split at hg
     ·split at hg <;> cases hg
     ·split at hg
      ·have hb : B (hostT0 t) = B l := by simpa using congrArg (fun x => x.2.1) hg
       rw [← B_inj.1 hb]
       unfold hostT0
       rw [lower_length]; exact decMax_len t
      ·cases hg
   ·cases hg
  rw [e]
  show (hostPV 1 (B l).data.toList 0).length ≤ _
  rw [B_data, hostPV_name l hl]; omega
 ·rw [e]
  show (hostPV 2 [] (a : Int)).length ≤ _
  rw [hostPV_four a ha]
  have := fourB_len a; omega
end Go.Proofs.YtopcpbokfngpeaaGreatDoor.H
/- (*impl.Url).tail: the call sets query and fragment in the address's block, and nothing else that was there; impl.sets reads as its table, internal/bytealg.MaxLen holds some integer. -/
set_option linter.unusedVariables false
namespace Go.Proofs.YtopcpbokfngpeaaGreatDoor.H
open Go.RowKit Go.Proofs.YtopcpbokfngpeaaGreatDoorW.PrintWords Go.Proofs.YtopcpbokfngpeaaGreatDoor.Base Go.Proofs.YtopcpbokfngpeaaGreatDoor.Pure
theorem cutU_walk (c : UInt8) (l : Bs) (w : World) (hT : TabM w) (hl : l.length < 4294967281) :
  Calls Tryz.prog 96 #[.string (B l), .string (B [c])] w fun e w' => e = .returned (.tuple #[.string (B (cutAh c l)), .string (B (cutBe c l)), .bool (l.contains c)]) ∧ Below w.heap.size w w' := by
 refine strings_Cut.calls (B l) (B [c]) (B (cutAh c l), B (cutBe c l), l.contains c) w hT ?_
 unfold strings_Cut.f
 rw [if_pos (by simpa using hl), B_data, B_data]
theorem encU_walk (n : Int) (l : Bs) (w : World) (hT : TabS w) (hl : l.length ≤ 1000000) :
  Calls Tryz.prog 92 #[.int .i64 n, .string (B l)] w fun e w' => e = .returned (.string (B (enc (setB n) l))) ∧ Below w.heap.size w w' := by
 rw [← enc_same]
 exact encode_walk n l w hT (by have := (enc_len (setI n) l).2; omega)
set_option maxHeartbeats 4000000 in
set_option maxRecDepth 100000 in
theorem tail_walk (g : Nat) (u : Ur) (pv : Value) (l : Bs) (w0 w : World) (hB : Below w0.heap.size w0 w) (hg : w0.heap.size ≤ g) (hb : Blk w g (uCells u pv)) (hS : TabS w0) (hM : TabM w0) (hl : l.length ≤ 1000000) :
  Calls Tryz.prog 93 #[.pointer (some ⟨g, 0, none⟩), .string (B l)] w fun e w' => e = .returned (.tuple #[]) ∧ Blk w' g (uCells (setTail u l) pv) ∧ w.grownBy w' (some g) := by
 have hq : (setTail u l) = { u with hq := !(cutAh 35 l).isEmpty, qry := enc (setB 2) ((cutAh 35 l).drop 1), hf := l.contains 35, frg := enc (setB 3) (cutBe 35 l) } := rfl
 have h1 := cutAh_le 35 l
 have h2 := cutBe_le 35 l
 have hC := cutU_walk 35 l w (hM.below hB) (by omega)
 generalize cutAh 35 l = x at hq h1 hC
 generalize cutBe 35 l = y at hq h2 hC
 generalize l.contains 35 = b at hq hC
 have HC := Lib.hid hC
 have HQ := Lib.hid hq
 clear hC hq
 go_enter Tryz.func93, Tryz.ntmps93
 go_wp2_with fail
 refine HC.out.mono ?_
 rintro e w1 ⟨rfl, hb1⟩
 have k1 : Blk w1 g (uCells u pv) := hb.below hb1
 have g1 : w.grownBy w1 (some g) := grown_b hb1
 go_wp2_with fail
 refine (encU_walk 3 y w1 (hS.below (below_by hB hg g1)) (by omega)).mono ?_
 rintro e w2 ⟨rfl, hb2⟩
 have k2 := k1.below hb2
 have g2 := g1.trans (grown_b (row := some g) hb2)
 have kc := k2.cells
 generalize enc (setB 3) y = fr at HQ ⊢
 by_cases hx : x = []
 ·subst hx
  have e2 : ([] : Bs).isEmpty = true := rfl
  go_wp2
  exact end0 rfl rfl ⟨rfl, by rw [HQ.out]; exact (((k2.put 11 _).put 12 _).put 9 _).put 10 _, grown_put (grown_put (grown_put (grown_put g2 _ _) _ _) _ _) _ _⟩
 ·obtain ⟨c, t, rfl⟩ : ∃ c t, x = c :: t := by
   cases x with
   | nil => exact absurd rfl hx
   | cons c t => exact ⟨c, t, rfl⟩
  have e2 : ((c :: t : Bs) != []) = true := rfl
  have e3 : (c :: t : Bs).isEmpty = false := rfl
  have ex : (B (c :: t)).extract 1 (t.length + 1) = B t := by rw [B_extract, List.take_of_length_le (by simp)]; rfl
  have k3 := (((k2.put 11 (.bool b)).put 12 (.string (B fr))).put 9 (.bool false)).put 10 (.string (B []))
  have g3 := grown_put (grown_put (grown_put (grown_put g2 11 (.bool b)) 12 (.string (B fr))) 9 (.bool false)) 10 (.string (B []))
  go_wp2_with fail
  refine (encU_walk 2 t _ (hS.below (below_by hB hg g3)) (by rw [List.length_cons] at h1; omega)).mono ?_
  rintro e w4 ⟨rfl, hb4⟩
  have k4 := k3.below hb4
  have g4 := g3.trans (grown_b (row := some g) hb4)
  have kc4 := k4.cells
  clear kc
  go_wp2
  exact end0 rfl rfl ⟨rfl, by rw [HQ.out]; exact (k4.put 9 _).put 10 _, grown_put (grown_put g4 _ _) _ _⟩
end Go.Proofs.YtopcpbokfngpeaaGreatDoor.H
/- impl.special, (impl.Url).tailText, (impl.Url).text: what the calls come to. -/
set_option linter.unusedVariables false
namespace Go.Proofs.YtopcpbokfngpeaaGreatDoor.H
open Go.RowKit Go.Proofs.YtopcpbokfngpeaaGreatDoorW.PrintWords Go.Proofs.YtopcpbokfngpeaaGreatDoor.Base Go.Proofs.YtopcpbokfngpeaaGreatDoor.Pure
theorem special_walk (s : Bs) (w : World) : Calls Tryz.prog 50 #[.string (B s)] w fun e w' => e = .returned (.tuple #[.int .i64 (ownP s), .bool (decide (0 ≤ ownP s))]) ∧ w' = w := by
 by_cases c1 : s = [104, 116, 116, 112]
 ·subst c1
  go_enter Tryz.func50, Tryz.ntmps50
  go_wp2
  go_ret2
  exact ⟨rfl, rfl⟩
 ·have c1b := str_ne c1
  by_cases c2 : s = [104, 116, 116, 112, 115]
  ·subst c2
   go_enter Tryz.func50, Tryz.ntmps50
   go_wp2
   go_ret2
   exact ⟨rfl, rfl⟩
  ·have c2b := str_ne c2
   have e : ownP s = -1 := by unfold ownP; rw [if_neg c1, if_neg c2]
   rw [e]; clear e c1 c2
   go_enter Tryz.func50, Tryz.ntmps50
   go_wp2
   go_ret2
   exact ⟨rfl, rfl⟩
structure Fit (u : Ur) : Prop where
 s : u.sch.length ≤ 1048576
 us : u.usr.length ≤ 1048576
 ps : u.pas.length ≤ 1048576
 hn : u.hn.length ≤ 1048576
 o : u.opq.length ≤ 1048576
 q : u.qry.length ≤ 1048576
 f : u.frg.length ≤ 1048576
 p : (pathPut u.path).length ≤ 2097152
 pl : u.path.length ≤ 1048576
 port : -9223372036854775808 ≤ u.port ∧ u.port ≤ 9223372036854775807
theorem bapp (a b : Bs) : B a ++ B b = B (a ++ b) := B_append a b
theorem tailB_len (u : Ur) (hu : Fit u) : (tailB u).length ≤ 2097154 := by
 have h1 := hu.q
 have h2 := hu.f
 unfold tailB
 rw [List.length_append]
 have e1 : (if u.hq = true then 63 :: u.qry else []).length ≤ 1048577 := by split <;> simp; omega
 have e2 : (if u.hf = true then 35 :: u.frg else []).length ≤ 1048577 := by split <;> simp; omega
 omega
set_option maxHeartbeats 1000000 in
set_option maxRecDepth 100000 in
theorem tailText_walk (u : Ur) (pv : Value) (w : World) (hu : Fit u) :
  Calls Tryz.prog 77 #[.agg (uCells u pv)] w fun e w' => e = .returned (.string (B (tailB u))) ∧ Below w.heap.size w w' := by
 have h1 := hu.q
 have h2 := hu.f
 have e63 : (⟨#[63]⟩ : ByteArray) = B [63] := rfl
 have e35 : (⟨#[35]⟩ : ByteArray) = B [35] := rfl
 have e0 : (⟨#[]⟩ : ByteArray) = B [] := rfl
 have eap := bapp
 have hT : tailB u = (if u.hq = true then 63 :: u.qry else []) ++ (if u.hf = true then 35 :: u.frg else []) := rfl
 have HT := Lib.hid hT
 clear hT
 generalize tailB u = x at HT ⊢
 unfold uCells
 go_enter Tryz.func77, Tryz.ntmps77
 go_wp2
 all_goals
  go_ret
  exact ⟨by rw [HT.out]; simp [*], (Below.refl _ w).alloc (Nat.le_refl _) _⟩
theorem itoaB (n : Int) (h0 : 0 ≤ n) (h1 : n ≤ 9223372036854775807) (w : World) (hT : TabI w) : Calls Tryz.prog 54 #[.int .i64 n] w fun e w' => e = .returned (.string (B (Lib.decDigits n.toNat))) ∧ Below w.heap.size w w' := by
 refine strconv_Itoa.calls n _ w hT ?_
 unfold strconv_Itoa.f
 rw [if_pos ⟨by omega, h1⟩]
 have e : n = ((n.toNat : Nat) : Int) := by omega
 conv => lhs; rw [e]
 rw [itoa_nat]
theorem pathPutU_walk (pv : Value) (ps : List Bs) (w : World) (h : PathAt w pv ps) (h1 : ps.length ≤ 1048576) (h2 : (pathPut ps).length ≤ 2097152) :
  Calls Tryz.prog 78 #[pv] w fun e w' => e = .returned (.string (B (pathPut ps))) ∧ Below w.heap.size w w' := by
 obtain ⟨A, c, rfl, hc, hk⟩ := h
 have e : segs (ps.map B) = ps := by unfold segs; rw [List.map_map]; exact (List.map_congr_left fun s _ => B_data s).trans (List.map_id ps)
 have := pathPut_walk A c (ps.map B) w hk (by simpa using hc) (by simp; omega) (by rw [e]; omega)
 rw [e, List.length_map] at this
 exact this
theorem dec_len19 (n : Int) (h : n ≤ 9223372036854775807) : (Lib.decDigits n.toNat).length ≤ 19 := by
 refine dec_le 19 n.toNat ?_ (by omega)
 have : (10 : Nat) ^ 19 = 10000000000000000000 := by decide
 omega
theorem hostPV_len (k a : Int) (n : Bs) (h : n.length ≤ 1048576) : (hostPV k n a).length ≤ 1048576 := by
 unfold hostPV
 split
 ·split
  ·have := fourB_len a.toNat; omega
  ·exact h
 ·simp
theorem ret_str {a b : Bs} (h : a = b) : Ending.returned (.string (B a)) = .returned (.string (B b)) := by rw [h]
theorem userB_e (u : Ur) : userB u = if (u.usr.isEmpty && u.pas.isEmpty) = true then [] else u.usr ++ (if u.pas.isEmpty = true then [] else 58 :: u.pas) ++ [64] := by
 unfold userB
 cases u.usr <;> cases u.pas <;> simp
theorem held_new (w : World) (c0 c1 c2 c3 c4 c5 c6 c7 c8 c9 c10 c11 c12 : Value) : Held w w.heap.size c0 c1 c2 c3 c4 c5 c6 c7 c8 c9 c10 c11 c12 (w.alloc (.cells #[c0, c1, c2, c3, c4, c5, c6, c7, c8, c9, c10, c11, c12] 27)) := ⟨(Blk.cells (blk_new w _)).1, (Below.refl _ w).alloc (Nat.le_refl _) _⟩
set_option maxHeartbeats 4000000 in
set_option maxRecDepth 100000 in
theorem text_walk (u : Ur) (pv : Value) (w : World) (hu : Fit u) (hM : TabM w) (hI : TabI w) (hP : PathAt w pv u.path) :
  Calls Tryz.prog 43 #[.agg (uCells u pv)] w fun e w' => e = .returned (.string (B (putU u))) ∧ Below w.heap.size w w' := by
 have f5 := tailB_len u hu
 have f7 := hostPV_len u.hk u.ha u.hn hu.hn
 have HTT := Lib.hid fun w1 => tailText_walk u pv w1 hu
 have HPP : Hid (∀ w1, Below w.heap.size w w1 → Calls Tryz.prog 78 #[pv] w1 fun e w' => e = .returned (.string (B (pathPut u.path))) ∧ Below w1.heap.size w1 w') := Lib.hid fun w1 hb => pathPutU_walk pv u.path w1 (hP.below hb) hu.pl hu.p
 have HHP := Lib.hid fun w1 (hb : Below w.heap.size w w1) => implHostPut_walk u.hk u.hn u.ha w1 ⟨hM.below hb, hI.below hb⟩ hu.hn
 have HT : Hid (putU u = u.sch ++ [58] ++ (if ownP u.sch < 0 then u.opq else [47, 47] ++ userB u ++ hostPV u.hk u.hn u.ha ++ portB u.port ++ pathPut u.path) ++ tailB u) := Lib.hid rfl
 have HUB := Lib.hid (userB_e u)
 generalize putU u = x at HT ⊢
 generalize tailB u = tl at HT HTT f5
 generalize userB u = ub at HT HUB
 obtain ⟨f1, f2, f3, _, f4, _, _, f6, _, f8⟩ := hu
 obtain ⟨sch, usr, pas, hk, hn, ha, port, path, opq, hq, qry, hf, frg⟩ := u
 unfold uCells at HTT ⊢
 dsimp only at *
 generalize hostPV hk hn ha = hp at HT HHP f7
 generalize pathPut path = pp at HT HPP f6
 have HS := held_new w (.string (B sch)) (.string (B usr)) (.string (B pas)) (.int .i64 hk) (.string (B hn)) (.int .i64 ha) (.int .i64 port) pv (.string (B opq)) (.bool hq) (.string (B qry)) (.bool hf) (.string (B frg))
 have e58 : (⟨#[58]⟩ : ByteArray) = B [58] := rfl
 have e47 : (⟨#[47, 47]⟩ : ByteArray) = B [47, 47] := rfl
 have e64 : (⟨#[64]⟩ : ByteArray) = B [64] := rfl
 have e0 : (⟨#[]⟩ : ByteArray) = B [] := rfl
 have eap := bapp
 have HC := Lib.hid (special_walk sch)
 by_cases ho : ownP sch < 0
 ·have hd : decide (0 ≤ ownP sch) = false := decide_eq_false (by omega)
  have k1 : ¬ 9223372036854775807 < sch.length + 1 + opq.length := by omega
  have k2 : ¬ 9223372036854775807 < sch.length + (opq.length + 1) + tl.length := by omega
  go_enter Tryz.func43, Tryz.ntmps43
  go_wp2_with fail
  refine (HC.out _).mono ?_
  rintro e w1 ⟨rfl, hw1⟩
  subst w1
  rw [hd]
  go_wp2_with fail
  go_region_held3 (Held w w.heap.size (.string (B sch)) (.string (B usr)) (.string (B pas)) (.int .i64 hk) (.string (B hn)) (.int .i64 ha) (.int .i64 port) pv (.string (B opq)) (.bool hq) (.string (B qry)) (.bool hf) (.string (B frg)))
   (first | assumption | (refine Held.drew ?_; assumption) | exact Held.go (by assumption) (by assumption))
   ((go_at_call 77; refine (HTT.out _).mono ?_; rintro e w2 ⟨rfl, hb2⟩))
  all_goals
   go_wp2
   go_ret
   exact ⟨by rw [HT.out, if_pos ho]; simp, (by assumption : Held w w.heap.size (.string (B sch)) (.string (B usr)) (.string (B pas)) (.int .i64 hk) (.string (B hn)) (.int .i64 ha) (.int .i64 port) pv (.string (B opq)) (.bool hq) (.string (B qry)) (.bool hf) (.string (B frg)) _).2⟩
 ·have hd : decide (0 ≤ ownP sch) = true := decide_eq_true (by omega)
  have HI : Hid (∀ w1, Below w.heap.size w w1 → 0 ≤ port → Calls Tryz.prog 54 #[.int .i64 port] w1 fun e w' => e = .returned (.string (B (Lib.decDigits port.toNat))) ∧ Below w1.heap.size w1 w') := Lib.hid fun w1 hb h0 => itoaB port h0 f8.2 w1 (hI.below hb)
  have f9 := dec_len19 port f8.2
  obtain ⟨dp, HDP⟩ : ∃ dp, Hid (Lib.decDigits port.toNat = dp) := ⟨_, Lib.hid rfl⟩
  rw [HDP.out] at HI f9
  obtain ⟨zz, HZ⟩ : ∃ zz, Hid (zz = sch ++ [58, 47, 47] ++ ub ++ hp ++ portB port) := ⟨_, Lib.hid rfl⟩
  have lu : ub.length ≤ 2097154 := by
   rw [HUB.out]
   split
   ·simp
   ·split <;> simp <;> omega
  have lz : zz.length ≤ 6000000 := by
   have hpb : (portB port).length ≤ 20 := by
    unfold portB; rw [HDP.out]; split <;> simp; omega
   rw [HZ.out]; simp; omega
  have k1 : ¬ 9223372036854775807 < zz.length + pp.length := by omega
  have k2 : ¬ 9223372036854775807 < zz.length + pp.length + tl.length := by omega
  have HO := Lib.hid ho
  go_enter Tryz.func43, Tryz.ntmps43
  go_wp2_with fail
  refine (HC.out _).mono ?_
  rintro e w1 ⟨rfl, hw1⟩
  subst w1
  rw [hd]
  go_upto_region 6 with fail
  go_cut [33] (fun v wc => v = .bool (!(usr.isEmpty && pas.isEmpty)) ∧ wc = w.alloc (.cells #[.string (B sch), .string (B usr), .string (B pas), .int .i64 hk, .string (B hn), .int .i64 ha, .int .i64 port, pv, .string (B opq), .bool hq, .string (B qry), .bool hf, .string (B frg)] 27))
  case first =>
   cases h1 : usr.isEmpty <;> cases h2 : pas.isEmpty
   all_goals
    go_wp2
    go_meet
    case rel => exact ⟨by simp [h1, h2], rfl⟩
  case rest =>
   obtain ⟨rfl, rfl⟩ := hcut
   go_upto_if 33 with fail
   go_cut [3] (fun v wc => v = .string (B (sch ++ [58, 47, 47] ++ ub)) ∧ wc = w.alloc (.cells #[.string (B sch), .string (B usr), .string (B pas), .int .i64 hk, .string (B hn), .int .i64 ha, .int .i64 port, pv, .string (B opq), .bool hq, .string (B qry), .bool hf, .string (B frg)] 27))
   case first =>
    cases h1 : usr.isEmpty <;> cases h2 : pas.isEmpty
    all_goals
     have HY := Lib.hid HUB.out
     rw [h1, h2] at HY
     go_wp2
     go_meet
     case rel => exact ⟨by rw [HY.out]; simp, rfl⟩
   case rest =>
    obtain ⟨rfl, rfl⟩ := hcut
    go_wp2_with fail
    refine (HHP.out _ HS.2).mono ?_
    rintro e w1 ⟨rfl, hb1⟩
    have HS1 := HS.go hb1
    clear hb1
    go_upto_if 55 with fail
    go_cut [3] (fun v wc => v = .string (B zz) ∧ Held w w.heap.size (.string (B sch)) (.string (B usr)) (.string (B pas)) (.int .i64 hk) (.string (B hn)) (.int .i64 ha) (.int .i64 port) pv (.string (B opq)) (.bool hq) (.string (B qry)) (.bool hf) (.string (B frg)) wc)
    case first =>
     by_cases h0 : 0 ≤ port
     ·have h0b : decide (0 ≤ port) = true := decide_eq_true h0
      have HPB : Hid (portB port = 58 :: dp) := Lib.hid (by unfold portB; rw [if_pos h0, HDP.out])
      go_wp2_with fail
      refine (HI.out _ HS1.2 h0).mono ?_
      rintro e w2 ⟨rfl, hb2⟩
      have HS2 := HS1.go hb2
      clear hb2
      go_wp2
      go_meet
      case rel => exact ⟨by rw [HZ.out, HPB.out]; simp, HS2⟩
     ·have h0b : decide (0 ≤ port) = false := decide_eq_false h0
      have HPB : Hid (portB port = []) := Lib.hid (by unfold portB; rw [if_neg h0])
      go_wp2
      go_meet
      case rel => exact ⟨by rw [HZ.out, HPB.out]; simp, HS1⟩
    case rest =>
     obtain ⟨rfl, HS2⟩ := hcut
     go_wp2_with fail
     go_region_held3 (Held w w.heap.size (.string (B sch)) (.string (B usr)) (.string (B pas)) (.int .i64 hk) (.string (B hn)) (.int .i64 ha) (.int .i64 port) pv (.string (B opq)) (.bool hq) (.string (B qry)) (.bool hf) (.string (B frg)))
      (first | assumption | (refine Held.drew ?_; assumption) | exact Held.go (by assumption) (by assumption))
      (first | ((go_at_call 77; refine (HTT.out _).mono ?_; rintro e w3 ⟨rfl, hb3⟩)) | ((go_at_call 78; refine (HPP.out _ (And.right (by assumption))).mono ?_; rintro e w3 ⟨rfl, hb3⟩)))
     all_goals
      go_wp2
      go_ret
      exact ⟨ret_str (show zz ++ (pp ++ tl) = x by rw [HT.out, if_neg (Int.not_lt.2 HO.out), HZ.out]; simp), (by assumption : Held w w.heap.size (.string (B sch)) (.string (B usr)) (.string (B pas)) (.int .i64 hk) (.string (B hn)) (.int .i64 ha) (.int .i64 port) pv (.string (B opq)) (.bool hq) (.string (B qry)) (.bool hf) (.string (B frg)) _).2⟩
end Go.Proofs.YtopcpbokfngpeaaGreatDoor.H
/- laws.eqHost, laws.eqUrl, laws.guUrl: an address held against itself. No condition. -/
set_option linter.unusedVariables false
namespace Go.Proofs.YtopcpbokfngpeaaGreatDoor.H
open Go.RowKit Go.Proofs.YtopcpbokfngpeaaGreatDoorW.PrintWords Go.Proofs.YtopcpbokfngpeaaGreatDoor.Base Go.Proofs.YtopcpbokfngpeaaGreatDoor.Pure
theorem eqA_host (d : Nat) (w : World) (x0 y0 : Int) (x1 y1 : ByteArray) (x2 y2 : Int) :
  (Op.equalIn (d + 2) 24 (.agg #[.int .i64 x0, .string x1, .int .i64 x2]) (.agg #[.int .i64 y0, .string y1, .int .i64 y2])).run Tryz.prog w = .ok (x0 == y0 && (x1.toList == y1.toList && (x2 == y2))) w := by
 refine eqA_of Tryz.underlying24 (by kernel_rfl) ?_
 refine eqf_cons (by rfl) (by go_simp; rfl) (by go_simp; rfl) (by go_simp) ?_
 refine eqf_cons (by rfl) (by go_simp; rfl) (by go_simp; rfl) (by go_simp) ?_
 exact eqf_last (by rfl) (by go_simp; rfl) (by go_simp; rfl) (by go_simp)
theorem two_cells (w : World) (cs ds : Array Value) (t : TypeId) : (((w.alloc (.cells cs t)).alloc (.cells ds t)).heap[w.heap.size]? = some (.cells cs t (0, 0))) ∧ (((w.alloc (.cells cs t)).alloc (.cells ds t)).heap[w.heap.size + 1]? = some (.cells ds t (0, 0))) ∧ Below w.heap.size w ((w.alloc (.cells cs t)).alloc (.cells ds t)) := by
 refine ⟨blk_below (w := w.alloc (.cells cs t)) (blk_new w (.cells cs t (0, 0))) (below_alloc (Below.refl _ _) _), ?_, ((Below.refl _ w).alloc (Nat.le_refl _) _).alloc (by simp) _⟩
 have := blk_new (w.alloc (.cells cs t)) (.cells ds t (0, 0))
 have e : (w.alloc (.cells cs t)).heap.size = w.heap.size + 1 := by simp
 rw [e] at this; exact this
attribute [local go_sem high] eqA_host
end Go.Proofs.YtopcpbokfngpeaaGreatDoor.H
/- (impl.Url).same, spec.l3Equal: two addresses held against each other. No condition. -/
set_option linter.unusedVariables false
namespace Go.Proofs.YtopcpbokfngpeaaGreatDoor.H
open Go.RowKit Go.Proofs.YtopcpbokfngpeaaGreatDoorW.PrintWords Go.Proofs.YtopcpbokfngpeaaGreatDoor.Base Go.Proofs.YtopcpbokfngpeaaGreatDoor.Pure
theorem dec1 {α : Type} [BEq α] [LawfulBEq α] (a b : α) : a = b ∨ (a == b) = false := by
 cases h : a == b
 ·exact .inr rfl
 ·exact .inl (eq_of_beq h)
theorem dec3 (a b : Int) (m n : Bs) (c d : Int) : (a = b ∧ m = n ∧ c = d) ∨ (a == b && (m == n && c == d)) = false := by
 cases h : (a == b && (m == n && c == d))
 ·exact .inr rfl
 ·simp only [Bool.and_eq_true, beq_iff_eq] at h
  exact .inl h
attribute [local go_sem high] eqA_host
theorem eqU_row (u v : Ur) : eqU u v = (u.sch == v.sch && (u.usr == v.usr && (u.pas == v.pas && ((u.hk == v.hk && (u.hn == v.hn && u.ha == v.ha)) && (u.port == v.port && (u.path == v.path && (u.opq == v.opq && (u.hq == v.hq && (u.qry == v.qry && (u.hf == v.hf && u.frg == v.frg)))))))))) := by
 unfold eqU; simp only [Bool.and_assoc]
set_option maxHeartbeats 8000000 in
set_option maxRecDepth 100000 in
theorem same_walk (u v : Ur) (pv qv : Value) (w : World) (hP : PathAt w pv u.path) (hQ : PathAt w qv v.path) (hm : u.path.length ≤ 1048576) :
  Calls Tryz.prog 44 #[.agg (uCells u pv), .agg (uCells v qv)] w fun e w' => e = .returned (.bool (eqU u v)) ∧ Below w.heap.size w w' := by
 obtain ⟨k2, k3, HB⟩ := two_cells w (uCells u pv) (uCells v qv) 27
 have K2 : Blk _ w.heap.size (uCells u pv) := k2
 have K3 : Blk _ (w.heap.size + 1) (uCells v qv) := k3
 have HS := Lib.hid fun w1 (hb : Below w.heap.size w w1) => slEqual_walk pv qv u.path v.path w1 (hP.below hb) (hQ.below hb) hm
 clear hP hQ k2 k3
 rw [eqU_row u v]
 obtain ⟨sch, usr, pas, hk, hn, ha, port, path, opq, hq, qry, hf, frg⟩ := u
 obtain ⟨sch', usr', pas', hk', hn', ha', port', path', opq', hq', qry', hf', frg'⟩ := v
 unfold uCells at *
 dsimp only at *
 rcases dec1 sch sch' with rfl | h
 rcases dec1 usr usr' with rfl | h
 rcases dec1 pas pas' with rfl | h
 rcases dec3 hk hk' hn hn' ha ha' with ⟨rfl, rfl, rfl⟩ | h
 rcases dec1 port port' with rfl | h
 ·rcases dec1 path path' with rfl | h5
  rcases dec1 opq opq' with rfl | h
  rcases dec1 hq hq' with rfl | h
  rcases dec1 qry qry' with rfl | h
  rcases dec1 hf hf' with rfl | h
  rcases dec1 frg frg' with rfl | h
  all_goals
   first
   | simp only [h, beq_self_eq_true, Bool.true_and, Bool.and_self, Bool.false_and]
   | simp only [h5, beq_self_eq_true, Bool.true_and, Bool.and_self, Bool.false_and]
   | simp only [beq_self_eq_true, Bool.and_self]
   go_enter Tryz.func44, Tryz.ntmps44
   go_upto_region 1 with fail
   generalize (w.alloc _).alloc _ = w1 at K2 K3 HB ⊢
   generalize w.heap.size + 1 = g at K3 ⊢
   have kc2 := K2.cells.1
   have kc3 := K3.cells.1
   go_wp2_with fail
   refine (HS.out _ HB).mono ?_
   rintro e w2 ⟨rfl, hb2⟩
   have K22 := K2.below hb2
   have K32 := K3.below hb2
   have HB2 := Lib.hid (below_then HB HB.size hb2)
   clear kc2 kc3 K2 K3 HB hb2
   have kc2 := K22.cells.1
   have kc3 := K32.cells.1
   go_wp2
   go_ret
   exact ⟨by first | rfl | simp only [h5] | simp, HB2.out⟩
 all_goals
  simp only [h, beq_self_eq_true, Bool.true_and, Bool.false_and]
  go_enter Tryz.func44, Tryz.ntmps44
  go_upto_region 1 with fail
  generalize (w.alloc _).alloc _ = w1 at K2 K3 HB ⊢
  generalize w.heap.size + 1 = g at K3 ⊢
  have kc2 := K2.cells.1
  have kc3 := K3.cells.1
  go_wp2
  go_ret
  exact ⟨rfl, HB⟩
end Go.Proofs.YtopcpbokfngpeaaGreatDoor.H
/- impl.special, impl.isLetter, impl.isDigit, impl.schemeOf, impl.portOf: what the calls come to; internal/bytealg.MaxLen holds some integer. -/
set_option linter.unusedVariables false
namespace Go.Proofs.YtopcpbokfngpeaaGreatDoor.H
open Go.RowKit Go.Proofs.YtopcpbokfngpeaaGreatDoorW.PrintWords Go.Proofs.YtopcpbokfngpeaaGreatDoor.Base Go.Proofs.YtopcpbokfngpeaaGreatDoor.Pure
attribute [local go_sem] Go.Proofs.YtopcpbokfngpeaaGreatDoorW.PrintMore.min2_int Go.Proofs.YtopcpbokfngpeaaGreatDoorW.PrintMore.min_two
def portA (l : Bs) (own : Int) : Int × Bool := match portV l own with | none => (0, false) | some n => (n, true)
set_option maxHeartbeats 1000000 in
theorem portOf_walk (l : Bs) (own : Int) (w : World) (hl : l.length ≤ 1000000) : Calls Tryz.prog 98 #[.string (B l), .int .i64 own] w fun e w' => e = .returned (.tuple #[.int .i64 (portA l own).1, .bool (portA l own).2]) ∧ Below w.heap.size w w' := by
  have HC := Lib.hid (cap_port l own)
  have HA : Hid (portA l own = (match portV l own with | none => (0, false) | some n => (n, true))) := Lib.hid rfl
  generalize portA l own = r at HA ⊢
  go_enter Tryz.func98, Tryz.ntmps98
  go_wp2
  go_loopw [6, 10] (fun n i wr => ∃ (k : Nat) (m : Int), k ≤ l.length ∧ i = .int .i64 k ∧ n = .int .i64 m ∧ Hid (capN 0 (l.take k) = some m) ∧ 0 ≤ m ∧ m ≤ 65536 ∧ Below w.heap.size w wr) (fun _ i _ => l.length - (intOf i).toNat)
  case atStart => exact ⟨0, 0, by omega, rfl, rfl, Lib.hid rfl, by omega, by omega, Below.refl _ _⟩
  case round =>
    obtain ⟨k, m, hk, rfl, rfl, HM, hm0, hm1, hb⟩ := hrel
    by_cases hlt : k < l.length
    · go_wp2_with fail
      refine (isDigit_walk l[k] wr).mono ?_
      rintro e w1 ⟨rfl, hd1⟩
      have HB := Lib.hid (below_then hb hb.size hd1.below)
      have ht := capN_take l k hlt
      rw [HM.out, Option.bind_some, dg_isDig] at ht
      have hn := capN_none l k hlt
      rw [dg_isDig] at hn
      have hdd : isDig l[k] = true → 48 ≤ l[k].toNat ∧ l[k].toNat ≤ 57 := fun h => by unfold isDig at h; simpa using h
      generalize isDig l[k] = b at ht hn hdd ⊢
      cases b with
      | false =>
        have HN := Lib.hid (hn rfl)
        clear hn ht hdd hd1 hb
        go_wp2
        go_ret2
        have e : r = (0, false) := by
          rw [HA.out, ← HC.out, HN.out]
        exact ⟨by rw [e]; rfl, HB.out⟩
      | true =>
        obtain ⟨d0, d1⟩ := hdd rfl
        rw [if_pos rfl] at ht
        have HT := Lib.hid ht
        clear hn ht hd1 hb hdd
        go_wp2
        go_roundw
        case rel => exact ⟨k + 1, min 65536 (10 * m + ((l[k].toNat : Int) - 48)), by omega, by go_num, by congr 1; split <;> omega, HT, by omega, by omega, HB.out⟩
        case measure => simp [intOf]; omega
    · obtain rfl : k = l.length := by omega
      rw [List.take_of_length_le (Nat.le_refl _)] at HM
      have HR : Hid (r = (if 65535 < m then (0, false) else if l = [] ∨ m = own then (-1, true) else (m, true))) := Lib.hid (by
        rw [HA.out, ← HC.out, HM.out]
        by_cases c1 : 65535 < m
        · simp [c1]
        · by_cases c2 : l = [] ∨ m = own
          · simp [c1, c2]
          · simp [c1, c2])
      have HB := Lib.hid hb
      clear hb HC HA
      by_cases c1 : 65535 < m
      · have HR2 : Hid (r = (0, false)) := Lib.hid (by rw [HR.out, if_pos c1])
        go_wp2
        go_ret2
        exact ⟨by rw [HR2.out]; rfl, HB.out⟩
      · cases c2 : l.isEmpty with
        | true =>
          have HR2 : Hid (r = (-1, true)) := Lib.hid (by rw [HR.out, if_neg c1, if_pos (.inl (List.isEmpty_iff.1 c2))])
          go_wp2
          go_ret2
          exact ⟨by rw [HR2.out]; rfl, HB.out⟩
        | false =>
          have hz : l ≠ [] := fun q => by rw [q] at c2; cases c2
          by_cases c3 : m = own
          · have c3b : (m == own) = true := beq_iff_eq.2 c3
            have HR2 : Hid (r = (-1, true)) := Lib.hid (by rw [HR.out, if_neg c1, if_pos (.inr c3)])
            clear c3 hz
            go_wp2
            all_goals
              go_ret2
              exact ⟨by rw [HR2.out]; rfl, HB.out⟩
          · have c3b : (m == own) = false := beq_eq_false_iff_ne.2 c3
            have HR2 : Hid (r = (m, true)) := Lib.hid (by rw [HR.out, if_neg c1, if_neg (by rintro (q | q); exact hz q; exact c3 q)])
            clear c3 hz
            go_wp2
            all_goals
              go_ret2
              exact ⟨by rw [HR2.out]; rfl, HB.out⟩
theorem schC_int (c : UInt8) : schC c = (isLet c || isDig c || ((c.toNat : Int) == 43) || ((c.toNat : Int) == 45) || ((c.toNat : Int) == 46)) := by
  have h : ∀ n : UInt8, (c == n) = ((c.toNat : Int) == (n.toNat : Int)) := fun n => by
    apply Bool.eq_iff_iff.2
    rw [beq_iff_eq, beq_iff_eq]
    constructor
    · rintro rfl; rfl
    · intro q; exact UInt8.toNat_inj.1 (by omega)
  unfold schC
  rw [h 43, h 45, h 46]; rfl
def schemeA (l : Bs) : Bs × Bs × Bool := match schemeV l with | none => ([], [], false) | some (s, r) => (s, r, true)
set_option maxHeartbeats 2000000 in
theorem schemeOf_walk (l : Bs) (w : World) (hM : TabM w) (hl : l.length ≤ 1000000) : Calls Tryz.prog 89 #[.string (B l)] w fun e w' => e = .returned (.tuple #[.string (B (schemeA l).1), .string (B (schemeA l).2.1), .bool (schemeA l).2.2]) ∧ Below w.heap.size w w' := by
  have h1 := cutAh_le 58 l
  have hC := cutU_walk 58 l w hM (by omega)
  have hA : schemeA l = if l.contains 58 && schOk (cutAh 58 l) then (lower (cutAh 58 l), cutBe 58 l, true) else ([], [], false) := by
    unfold schemeA schemeV
    split <;> rename_i h
    · split at h
      · cases h
      · rename_i q; rw [if_neg q]
    · split at h
      · rename_i q; rw [if_pos q]; cases Option.some.inj h; rfl
      · cases h
  generalize schemeA l = r at hA ⊢
  generalize cutAh 58 l = x at hC hA h1
  generalize cutBe 58 l = y at hC hA
  generalize l.contains 58 = b at hC hA
  have HC := Lib.hid hC
  have HA := Lib.hid hA
  have HL := Lib.hid fun w1 => lower_walk x w1 (by omega)
  clear hC hA
  go_enter Tryz.func89, Tryz.ntmps89
  go_wp2_with fail
  refine HC.out.mono ?_
  rintro e w1 ⟨rfl, hb1⟩
  have HB1 := Lib.hid hb1
  clear hb1
  cases b with
  | false =>
    have HR : Hid (r = ([], [], false)) := Lib.hid HA.out
    go_wp2
    go_ret3
    exact ⟨by rw [HR.out]; rfl, HB1.out⟩
  | true =>
    have hA : r = if schOk x then (lower x, y, true) else ([], [], false) := HA.out
    cases x with
    | nil =>
      have HR : Hid (r = ([], [], false)) := Lib.hid hA
      clear hA
      go_wp2
      go_ret3
      exact ⟨by rw [HR.out]; rfl, HB1.out⟩
    | cons c t =>
      have hok : schOk (c :: t) = (isLet c && (c :: t).all schC) := by simp [schOk]
      rw [hok] at hA
      have hlen : 0 < (c :: t).length := by simp
      have hget : (c :: t)[0] = c := rfl
      generalize hx : (c :: t : Bs) = x at *
      have e1 : x.isEmpty = false := by rw [← hx]; rfl
      have hlen2 : (0 : Int) < (x.length : Int) := by omega
      have HA2 := Lib.hid hA
      have HX := Lib.hid hx
      clear hA hok hx HA
      go_wp2_with fail
      refine (isLetter_walk c w1).mono ?_
      rintro e w2 ⟨rfl, hd2⟩
      have HB2 : Hid (Below w.heap.size w w2) := Lib.hid (below_then HB1.out HB1.out.size hd2.below)
      clear hd2
      cases hlc : isLet c with
      | false =>
        have HR : Hid (r = ([], [], false)) := Lib.hid (by rw [HA2.out, hlc]; rfl)
        go_wp2
        go_ret3
        exact ⟨by rw [HR.out]; rfl, HB2.out⟩
      | true =>
        rw [hlc, Bool.true_and] at HA2
        clear hlc
        go_wp2
        go_loopw [30] (fun i wr => ∃ k : Nat, k ≤ x.length ∧ i = .int .i64 k ∧ Hid ((x.take k).all schC = true) ∧ Below w.heap.size w wr) (fun i _ => x.length - (intOf i).toNat)
        case atStart => exact ⟨0, by omega, rfl, Lib.hid rfl, HB2.out⟩
        case round =>
          obtain ⟨k, hk, rfl, HK, hb⟩ := hrel
          by_cases hlt : k < x.length
          · have HT := Lib.hid (all_take schC x k hlt)
            have HN : Hid (schC x[k] = false → r = ([], [], false)) := Lib.hid fun q => by
              have : x.all schC = false := by
                rw [List.all_eq_false]; exact ⟨x[k], List.getElem_mem hlt, by rw [q]; simp⟩
              rw [HA2.out, this]; rfl
            have HS := Lib.hid (schC_int x[k])
            have HB := Lib.hid hb
            clear hb
            go_wp2_with fail
            refine (isLetter_walk x[k] wr).mono ?_
            rintro e w3 ⟨rfl, hd3⟩
            have HB3 : Hid (Below w.heap.size w w3) := Lib.hid (below_then HB.out HB.out.size hd3.below)
            clear hd3
            cases b1 : isLet x[k] with
            | true =>
              go_wp2
              go_roundw
              case rel => exact ⟨k + 1, by omega, by go_num, Lib.hid (by rw [HT.out, HK.out, HS.out, b1]; rfl), HB3.out⟩
              case measure => simp [intOf]; omega
            | false =>
              go_wp2_with fail
              refine (isDigit_walk x[k] w3).mono ?_
              rintro e w4 ⟨rfl, hd4⟩
              have HB4 : Hid (Below w.heap.size w w4) := Lib.hid (below_then HB3.out HB3.out.size hd4.below)
              clear hd4
              cases b2 : isDig x[k] with
              | true =>
                go_wp2
                go_roundw
                case rel => exact ⟨k + 1, by omega, by go_num, Lib.hid (by rw [HT.out, HK.out, HS.out, b1, b2]; rfl), HB4.out⟩
                case measure => simp [intOf]; omega
              | false =>
                have HS2 := HS.out
                rw [b1, b2] at HS2
                have HS3 := Lib.hid HS2
                clear b1 b2 HS2
                have n1 : ((x[k].toNat : Int) != 43) = !((x[k].toNat : Int) == 43) := rfl
                have n2 : ((x[k].toNat : Int) != 45) = !((x[k].toNat : Int) == 45) := rfl
                have n3 : ((x[k].toNat : Int) != 46) = !((x[k].toNat : Int) == 46) := rfl
                cases t1 : ((x[k].toNat : Int) == 43) <;> cases t2 : ((x[k].toNat : Int) == 45) <;> cases t3 : ((x[k].toNat : Int) == 46)
                all_goals
                  have hs := HS3.out
                  rw [t1, t2, t3] at hs
                  simp only [t1, t2, t3, Bool.not_true, Bool.not_false] at n1 n2 n3
                  have HS4 := Lib.hid hs
                  clear hs
                  go_wp2
                  first
                  | (go_ret3
                     exact ⟨by rw [HN.out HS4.out]; rfl, HB4.out⟩)
                  | (go_roundw
                     (case rel => exact ⟨k + 1, by omega, by go_num, Lib.hid (by rw [HT.out, HK.out, HS4.out]; rfl), HB4.out⟩)
                     (case measure => simp [intOf]; omega))
          · obtain rfl : k = x.length := by omega
            rw [List.take_of_length_le (Nat.le_refl _)] at HK
            have HR : Hid (r = (lower x, y, true)) := Lib.hid (by rw [HA2.out, HK.out]; rfl)
            have HB := Lib.hid hb
            clear hb
            go_wp2_with fail
            refine (HL.out _).mono ?_
            rintro e w3 ⟨rfl, hb3⟩
            have HB3 : Hid (Below w.heap.size w w3) := Lib.hid (below_then HB.out HB.out.size hb3)
            clear hb3
            go_wp2
            go_ret3
            exact ⟨by rw [HR.out]; rfl, HB3.out⟩
end Go.Proofs.YtopcpbokfngpeaaGreatDoor.H
