/- Of no program: a text written for form data; plain lists of bytes. No condition. -/
import Derived.Test.YtekeimhhffnjpaaDoorEncodeM
namespace Go.Proofs.YtekeimhhffnjpaaDoor.H
open Go.RowKit Go.Proofs.YtekeimhhffnjpaaDoorW.PrintWords Go.Proofs.YtekeimhhffnjpaaDoor.Base
def isLet (c : UInt8) : Bool := (decide (97 ≤ c.toNat) && decide (c.toNat ≤ 122)) || (decide (65 ≤ c.toNat) && decide (c.toNat ≤ 90))
def isDig (c : UInt8) : Bool := decide (48 ≤ c.toNat) && decide (c.toNat ≤ 57)
def formS : Bs := [42, 45, 46, 95]
def formC (c : UInt8) : Bs := if (isLet c || isDig c || formS.contains c) = true then [c] else if c = 32 then [43] else pct c
def formB (l : Bs) : Bs := l.flatMap formC
theorem formB_append (a b : Bs) : formB (a ++ b) = formB a ++ formB b := by simp [formB]
theorem formB_take (l : Bs) (i : Nat) (h : i < l.length) : formB (l.take (i + 1)) = formB (l.take i) ++ formC l[i] := by
  rw [List.take_succ_eq_append_getElem h, formB_append]; simp [formB]
theorem formC_len (c : UInt8) : 1 ≤ (formC c).length ∧ (formC c).length ≤ 3 := by unfold formC pct; split <;> (try split) <;> simp
theorem formB_len (l : Bs) : l.length ≤ (formB l).length ∧ (formB l).length ≤ 3 * l.length := by
  induction l with
  | nil => simp [formB]
  | cons c t ih =>
    have := formC_len c
    simp only [formB, List.flatMap_cons, List.length_append, List.length_cons] at *
    omega
theorem formB_mono (l : Bs) (k : Nat) : (formB (l.take k)).length ≤ (formB l).length := by
  conv => rhs; rw [← List.take_append_drop k l, formB_append]
  simp
end Go.Proofs.YtekeimhhffnjpaaDoor.H
