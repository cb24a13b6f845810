/- Of no program: bytes written as escapes; plain lists of bytes. No condition. -/
import Derived.Test.YtekeimhhffnjpaaDoorBase
namespace Go.Proofs.YtekeimhhffnjpaaDoor.H
open Go.RowKit Go.Proofs.YtekeimhhffnjpaaDoorW.PrintWords Go.Proofs.YtekeimhhffnjpaaDoor.Base

def figs : Bs := [48, 49, 50, 51, 52, 53, 54, 55, 56, 57, 65, 66, 67, 68, 69, 70]
/-- A figure of sixteen. -/
def fig (n : Nat) : UInt8 := figs[n]?.getD 0
/-- Is a byte written as an escape? -/
def needs (any : Bs) (c : UInt8) : Bool := decide (c.toNat < 32) || decide (126 < c.toNat) || any.contains c
def pct (c : UInt8) : Bs := [37, fig (c.toNat / 16), fig (c.toNat % 16)]
def encC (any : Bs) (c : UInt8) : Bs := if needs any c = true then pct c else [c]
def enc (any : Bs) (l : Bs) : Bs := l.flatMap (encC any)
/-- The bytes of a set. -/
def setB (n : Int) : Bs := if n = 1 then [32, 34, 35, 60, 62, 63, 96, 123, 125] else if n = 2 then [32, 34, 35, 60, 62, 39] else if n = 3 then [32, 34, 60, 62, 96] else if n = 5 then [32] else if n = 4 then [32, 34, 35, 60, 62, 63, 96, 123, 125, 47, 58, 59, 61, 64, 91, 92, 93, 94, 124] else []
theorem enc_nil (any : Bs) : enc any [] = [] := rfl
theorem enc_append (any a b : Bs) : enc any (a ++ b) = enc any a ++ enc any b := by simp [enc]
theorem enc_take (any l : Bs) (i : Nat) (h : i < l.length) : enc any (l.take (i + 1)) = enc any (l.take i) ++ encC any l[i] := by
  rw [List.take_succ_eq_append_getElem h, enc_append]; simp [enc]
theorem encC_len (any : Bs) (c : UInt8) : 1 ≤ (encC any c).length ∧ (encC any c).length ≤ 3 := by unfold encC pct; split <;> simp
theorem enc_len (any l : Bs) : l.length ≤ (enc any l).length ∧ (enc any l).length ≤ 3 * l.length := by
  induction l with
  | nil => simp [enc]
  | cons c t ih =>
    have := encC_len any c
    simp only [enc, List.flatMap_cons, List.length_append, List.length_cons] at *
    omega
/-- What Encode answers. -/
def encMax (n : Int) (l : Bs) : Bs := if l.length ≤ 200 then enc (setB n) l else []
end Go.Proofs.YtekeimhhffnjpaaDoor.H
