/- Texts of this claim, joined: LEntDAt. Conditions: each theorem's own. -/
import Derived.Test.YtopcpbokfngpeaaGreatDoorB17
/- laws.FnHistAt: the call comes to true, whatever the code; the package-level variables read as their tables. -/
set_option linter.unusedVariables false
namespace Go.Proofs.YtopcpbokfngpeaaGreatDoor.H
open Go.RowKit Go.Proofs.YtopcpbokfngpeaaGreatDoorW.PrintWords Go.Proofs.YtopcpbokfngpeaaGreatDoor.Base Go.Proofs.YtopcpbokfngpeaaGreatDoor.Pure
set_option maxHeartbeats 8000000 in
set_option maxRecDepth 100000 in
theorem FnHistAt_walk (a0 : Option Addr) (len0 cap0 : Nat) (z0 : List Int) (w : World) (w0 : CodeRow w a0 len0 cap0 z0) (y0 : len0 * 1 ≤ 140737488351232) (hT : Tabs w) :
  Calls Tryz.prog 7 #[.slice a0 len0 cap0] w fun e w' => e = .returned (.bool true) ∧ Below w.heap.size w w' := by
 have HDR := Lib.hid (code_DrawHistAt a0 len0 cap0 z0 w w0)
 by_cases hbig : 1048576 < len0
 ·have hd : decide (1048576 < (len0 : Int)) = true := decide_eq_true (by omega)
  clear hT
  go_enter Tryz.func7, Tryz.ntmps7
  go_wp2
  go_ret
  exact ⟨rfl, Below.refl _ _⟩
 have hd : decide (1048576 < (len0 : Int)) = false := decide_eq_false (by omega)
 clear hbig w0 y0
 go_enter Tryz.func7, Tryz.ntmps7
 go_wp2_with fail
 refine HDR.out.mono ?_
 rintro e w1 ⟨v, es, n, rfl, R1, hf, hl, hb1⟩
 clear HDR
 have HW := Lib.hid fun w2 (hb : Below w1.heap.size w1 w2) => below_then hb1 hb1.size hb
 have HI := Lib.hid fun w2 (hb : Below w1.heap.size w1 w2) => implHistAt_walk v es n w2 (R1.below hb) hf (by omega) (hT.below (below_then hb1 hb1.size hb))
 have HS := Lib.hid fun w2 (hb : Below w1.heap.size w1 w2) => specHistAt_walk v es n w2 (R1.below hb) hf (by omega)
 have HO := Lib.hid fun w2 (hb : Below w1.heap.size w1 w2) => specHistOk_walk v es w2 (R1.below hb) hf (by omega)
 have HP := Lib.hid fun w2 (hb : Below w1.heap.size w1 w2) => implHistOk_walk v es w2 (R1.below hb) hf (by omega) (hT.below (below_then hb1 hb1.size hb))
 have HR := Lib.hid fun w2 (hb : Below w1.heap.size w1 w2) => R1.below hb
 obtain ⟨A, c, rfl, hc, _⟩ := id R1
 have HZ : Hid (histAtV es n = if histOkV es = true then atE es n es.length else -1) := Lib.hid rfl
 have HLAW := Lib.hid (at_law es n es.length (Nat.le_refl _))
 clear hT R1 hb1 hf
 generalize histAtV es n = z at HI HS HZ
 have hz1 : (z != z) = false := by simp
 have hz2 : (z == z) = true := by simp
 generalize histOkV es = o at HO HZ HLAW HP
 go_wp2_with fail
 refine (HI.out w1 (Below.refl _ _)).mono ?_
 rintro e w2 ⟨rfl, hb2⟩
 have HB2 := Lib.hid hb2
 clear hb2
 go_wp2_with fail
 refine (HS.out w2 HB2.out).mono ?_
 rintro e w3 ⟨rfl, hb3⟩
 have HB3 := Lib.hid (below_then HB2.out HB2.out.size hb3)
 clear hb3 HB2
 cases o with
 | false =>
  go_wp2_with fail
  refine (HP.out w3 HB3.out).mono ?_
  rintro e w4 ⟨rfl, hb4⟩
  have HB4 := Lib.hid (below_then HB3.out HB3.out.size hb4)
  clear hb4
  go_wp2_with fail
  refine (HO.out w4 HB4.out).mono ?_
  rintro e w5 ⟨rfl, hb5⟩
  have HB5 := Lib.hid (below_then HB4.out HB4.out.size hb5)
  clear hb5
  go_wp2_with fail
  refine (HO.out w5 HB5.out).mono ?_
  rintro e w6 ⟨rfl, hb6⟩
  have HB6 := Lib.hid (below_then HB5.out HB5.out.size hb6)
  clear hb6
  go_wp2_with fail
  refine (HS.out w6 HB6.out).mono ?_
  rintro e w7 ⟨rfl, hb7⟩
  have HB7 := Lib.hid (below_then HB6.out HB6.out.size hb7)
  clear hb7
  go_wp2_with fail
  refine (HP.out w7 HB7.out).mono ?_
  rintro e w8 ⟨rfl, hb8⟩
  have HB8 := Lib.hid (below_then HB7.out HB7.out.size hb8)
  clear hb8
  go_wp2_with fail
  refine (HO.out w8 HB8.out).mono ?_
  rintro e w9 ⟨rfl, hb9⟩
  have HB9 := Lib.hid (below_then HB8.out HB8.out.size hb9)
  clear hb9
  go_wp2
  go_ret
  exact ⟨rfl, HW.out _ HB9.out⟩
 | true =>
  go_wp2_with fail
  refine (HP.out w3 HB3.out).mono ?_
  rintro e w4 ⟨rfl, hb4⟩
  have HB4 := Lib.hid (below_then HB3.out HB3.out.size hb4)
  clear hb4
  go_wp2_with fail
  refine (HO.out w4 HB4.out).mono ?_
  rintro e w5 ⟨rfl, hb5⟩
  have HB5 := Lib.hid (below_then HB4.out HB4.out.size hb5)
  clear hb5
  go_wp2_with fail
  refine (HO.out w5 HB5.out).mono ?_
  rintro e w6 ⟨rfl, hb6⟩
  have HB6 := Lib.hid (below_then HB5.out HB5.out.size hb6)
  clear hb6
  obtain ⟨l1, l2, l3, l4⟩ := HLAW.out
  have hz : z = atE es n es.length := by rw [HZ.out]; simp
  rw [← hz] at l1 l2 l3 l4
  clear hz HZ HLAW HI HS HO HP
  have hwl : IntKind.i64.wrap ((es.length : Int) - 1) = (es.length : Int) - 1 := by rw [i64wrap, w64 (by omega) (by omega)]
  by_cases h0 : z < 0
  ·obtain rfl : z = -1 := by omega
   by_cases hn : es.length = 0
   ·have he : ((-1 : Int) == (es.length : Int) - 1) = true := by rw [beq_iff_eq]; omega
    clear l1 l2 l3 l4 hz1 hz2
    go_wp2
    go_ret
    exact ⟨rfl, HW.out _ HB6.out⟩
   ·have he : ((-1 : Int) == (es.length : Int) - 1) = false := by rw [beq_eq_false_iff_ne]; omega
    have hp : 0 < es.length := by omega
    have l5 := l4 0 (by omega) hp hp
    obtain ⟨ad, e0, hck, _, _⟩ := (HR.out _ HB6.out).cell 0 hp
    subst e0
    rw [show ad.add (0 * 17) = ad by simp [Addr.add]] at hck
    have i1 : ((0 : Int) < (es.length : Int)) := by omega
    generalize es[0].step = x at hck l5
    have hx : decide (n < x) = true := decide_eq_true l5
    clear l1 l2 l3 l4 l5 hz1 hz2 hn
    go_wp2
    go_ret
    exact ⟨rfl, HW.out _ HB6.out⟩
  ·obtain ⟨k, rfl⟩ := Int.eq_ofNat_of_zero_le (show 0 ≤ z by omega)
   have hk : k < es.length := by omega
   have hd0 : decide ((k : Int) < 0) = false := decide_eq_false (by omega)
   obtain ⟨_, l5⟩ := l3 k rfl
   have HC := Lib.hid ((HR.out _ HB6.out).cell k hk)
   have i1 : ((k : Int) < (es.length : Int)) := by omega
   have it : ((k : Int)).toNat = k := rfl
   by_cases hn : k + 1 = es.length
   ·obtain ⟨ad, e0, hck, _, _⟩ := HC.out
    subst e0
    have he : ((k : Int) == (es.length : Int) - 1) = true := by rw [beq_iff_eq]; omega
    generalize es[k].step = x at hck l5
    have hx : decide (x ≤ n) = true := decide_eq_true l5
    clear l1 l2 l3 l4 l5 hz1 hz2 HC h0 hn
    go_wp2
    go_ret
    exact ⟨rfl, HW.out _ HB6.out⟩
   ·have he : ((k : Int) == (es.length : Int) - 1) = false := by rw [beq_eq_false_iff_ne]; omega
    have hk2 : k + 1 < es.length := by omega
    have hwk : IntKind.i64.wrap ((k : Int) + 1) = ((k + 1 : Nat) : Int) := by rw [i64wrap, w64 (by omega) (by omega)]; omega
    have l6 := l4 (k + 1) (by omega) hk2 hk2
    obtain ⟨ad, e0, hck, _, _⟩ := HC.out
    obtain ⟨ad2, e2, hck2, _, _⟩ := (HR.out _ HB6.out).cell (k + 1) hk2
    rw [e0] at e2
    obtain rfl := Option.some.inj e2
    subst e0
    have i2 : (((k + 1 : Nat) : Int) < (es.length : Int)) := by omega
    have it2 : (((k + 1 : Nat) : Int)).toNat = k + 1 := rfl
    generalize es[k].step = x at hck l5
    generalize es[k + 1].step = y at hck2 l6
    have hx : decide (x ≤ n) = true := decide_eq_true l5
    have hy : decide (n < y) = true := decide_eq_true l6
    clear l1 l2 l3 l4 l5 l6 hz1 hz2 HC h0 hn
    go_wp2
    go_ret
    exact ⟨rfl, HW.out _ HB6.out⟩
end Go.Proofs.YtopcpbokfngpeaaGreatDoor.H
