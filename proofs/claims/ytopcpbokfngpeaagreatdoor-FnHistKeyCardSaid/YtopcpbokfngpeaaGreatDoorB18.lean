/- Texts of this claim, joined: LEntDKey. Conditions: each theorem's own. -/
import Derived.Test.YtopcpbokfngpeaaGreatDoorB17
/- laws.FnHistKey: the call comes to true, whatever the code; the package-level variables read as their tables. -/
set_option linter.unusedVariables false
namespace Go.Proofs.YtopcpbokfngpeaaGreatDoor.H
open Go.RowKit Go.Proofs.YtopcpbokfngpeaaGreatDoorW.PrintWords Go.Proofs.YtopcpbokfngpeaaGreatDoor.Base Go.Proofs.YtopcpbokfngpeaaGreatDoor.Pure
set_option maxHeartbeats 8000000 in
set_option maxRecDepth 100000 in
theorem FnHistKey_walk (a0 : Option Addr) (len0 cap0 : Nat) (z0 : List Int) (w : World) (w0 : CodeRow w a0 len0 cap0 z0) (y0 : len0 * 1 ≤ 140737488351232) (hT : Tabs w) :
  Calls Tryz.prog 6 #[.slice a0 len0 cap0] w fun e w' => e = .returned (.bool true) ∧ Below w.heap.size w w' := by
 have HDR := Lib.hid (code_DrawHistKey a0 len0 cap0 z0 w w0)
 by_cases hbig : 1048576 < len0
 ·have hd : decide (1048576 < (len0 : Int)) = true := decide_eq_true (by omega)
  clear hT
  go_enter Tryz.func6, Tryz.ntmps6
  go_wp2
  go_ret
  exact ⟨rfl, Below.refl _ _⟩
 have hd : decide (1048576 < (len0 : Int)) = false := decide_eq_false (by omega)
 clear hbig w0 y0
 go_enter Tryz.func6, Tryz.ntmps6
 go_wp2_with fail
 refine HDR.out.mono ?_
 rintro e w1 ⟨v, es, n, rfl, R1, hf, hl, hb1⟩
 clear HDR
 have HW := Lib.hid fun w2 (hb : Below w1.heap.size w1 w2) => below_then hb1 hb1.size hb
 have HI := Lib.hid fun w2 (hb : Below w1.heap.size w1 w2) => implHistKey_walk v es n w2 (R1.below hb) hf (by omega) (hT.below (below_then hb1 hb1.size hb))
 have HS := Lib.hid fun w2 (hb : Below w1.heap.size w1 w2) => specHistKey_walk v es n w2 (R1.below hb) hf (by omega)
 have HO := Lib.hid fun w2 (hb : Below w1.heap.size w1 w2) => specHistOk_walk v es w2 (R1.below hb) hf (by omega)
 have HR := Lib.hid fun w2 (hb : Below w1.heap.size w1 w2) => R1.below hb
 obtain ⟨A, c, rfl, hc, _⟩ := id R1
 have HZ : Hid (histKeyV es n = if histOkV es = true then keyV es n else -1) := Lib.hid rfl
 have HLAW := Lib.hid (fun h : histOkV es = true => key_law (es := es) n h)
 clear hT R1 hb1 hf
 generalize histKeyV es n = z at HI HS HZ
 have hz1 : (z != z) = false := by simp
 have hz2 : (z == z) = true := by simp
 generalize histOkV es = o at HO HZ HLAW
 go_wp2_with fail
 refine (HI.out w1 (Below.refl _ _)).mono ?_
 rintro e w2 ⟨rfl, hb2⟩
 have HB2 := Lib.hid hb2
 clear hb2
 go_wp2_with fail
 refine (HS.out w2 HB2.out).mono ?_
 rintro e w3 ⟨rfl, hb3⟩
 have HB3 := Lib.hid (below_then HB2.out HB2.out.size hb3)
 clear hb3 HB2
 go_wp2_with fail
 refine (HO.out w3 HB3.out).mono ?_
 rintro e w4 ⟨rfl, hb4⟩
 have HB4 := Lib.hid (below_then HB3.out HB3.out.size hb4)
 clear hb4 HB3
 cases o with
 | false =>
  go_wp2_with fail
  refine (HS.out w4 HB4.out).mono ?_
  rintro e w5 ⟨rfl, hb5⟩
  have HB5 := Lib.hid (below_then HB4.out HB4.out.size hb5)
  clear hb5
  go_wp2
  go_ret
  exact ⟨rfl, HW.out _ HB5.out⟩
 | true =>
  obtain ⟨l1, l2, l3⟩ := HLAW.out rfl
  have hz : z = keyV es n := by rw [HZ.out, if_pos rfl]
  rw [← hz] at l1 l2
  have L1 := Lib.hid l1
  have hzl : decide (z < (es.length : Int)) = true := decide_eq_true l2
  clear l1 l2 l3 hz HZ HLAW HI HS HO
  go_wp2_with fail
  go_loopw [6] (fun i wr => ∃ k : Nat, k ≤ es.length ∧ i = .int .i64 k ∧ Below w1.heap.size w1 wr) (fun i _ => es.length - (intOf i).toNat)
  case atStart => exact ⟨0, by omega, rfl, HB4.out⟩
  case round =>
   obtain ⟨k, hk, rfl, hb⟩ := hrel
   by_cases hlt : k < es.length
   ·obtain ⟨ad, e0, _, _, hck⟩ := (HR.out _ hb).cell k hlt
    subst e0
    have i1 : ((k : Int) < (es.length : Int)) := by omega
    have it : ((k : Int)).toNat = k := rfl
    have HQ := Lib.hid (L1.out k hlt)
    generalize es[k].key = x at hck HQ
    have HB := Lib.hid hb
    clear hb
    obtain ⟨q, hq⟩ : ∃ q, (x == n) = q := ⟨_, rfl⟩
    have hq2 : ((k : Int) == z) = q := by rw [← hq, Bool.eq_iff_iff, beq_iff_eq, beq_iff_eq]; exact (decide_eq_decide.1 HQ.out).symm
    cases q <;> (go_wp2; go_roundw; (case rel => exact ⟨k + 1, by omega, by go_num, HB.out⟩); (case measure => simp only [intOf]; omega))
   ·have hn2 : decide ((k : Int) < (es.length : Int)) = false := decide_eq_false (by omega)
    have HB := Lib.hid hb
    clear hb
    go_wp2
    go_ret
    exact ⟨rfl, HW.out _ HB.out⟩
end Go.Proofs.YtopcpbokfngpeaaGreatDoor.H
