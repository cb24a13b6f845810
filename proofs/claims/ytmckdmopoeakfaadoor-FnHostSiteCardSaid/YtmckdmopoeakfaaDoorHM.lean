/- Of no program: a text cut at each byte of a kind; plain lists of bytes. No condition. · Of no program: a text with each instance of another, from the left, written as a third; at one byte: byte by byte. No condition. · Of no program: a text of which the first k bytes are written with each c as a d. No condition. · Of no program: bytes written as escapes; plain lists of bytes. No condition. · Of no program: escapes in a text, decoded; plain lists of bytes. No condition. · Of no program: a text written for form data; plain lists of bytes. No condition. -/
import Derived.Test.YtmckdmopoeakfaaDoorBase
import Derived.Lib.Split
import Derived.Lib.Replace
import Derived.Lib.ReplaceLaws
import Derived.Lib.IndexLaws
import Derived.Lib.IndexMore
import Derived.Lib.CountLaws
namespace Go.Proofs.YtmckdmopoeakfaaDoor.H
open Go.RowKit Go.Proofs.YtmckdmopoeakfaaDoorW.PrintWords Go.Proofs.YtmckdmopoeakfaaDoor.Base
def splitC (c : UInt8) : Bs → List Bs
  | [] => [[]]
  | x :: t => if x = c then [] :: splitC c t else match splitC c t with
    | [] => [[x]]
    | h :: r => (x :: h) :: r
theorem splitC_ne (c : UInt8) (l : Bs) : splitC c l ≠ [] := by
  cases l with
  | nil => simp [splitC]
  | cons x t =>
    unfold splitC
    split
    · simp
    · split <;> simp
theorem splitC_plain (c : UInt8) (a : Bs) (h : ∀ x ∈ a, x ≠ c) : splitC c a = [a] := by
  induction a with
  | nil => rfl
  | cons x t ih =>
    unfold splitC
    rw [if_neg (h x (by simp)), ih (fun y hy => h y (by simp [hy]))]
theorem splitC_cut (c : UInt8) (a b : Bs) (h : ∀ x ∈ a, x ≠ c) : splitC c (a ++ c :: b) = a :: splitC c b := by
  induction a with
  | nil => simp [splitC]
  | cons x t ih =>
    rw [List.cons_append, splitC, if_neg (h x (by simp)), ih (fun y hy => h y (by simp [hy]))]
theorem splitC_length (c : UInt8) (l : Bs) : (splitC c l).length = l.count c + 1 := by
  induction l with
  | nil => rfl
  | cons x t ih =>
    unfold splitC
    by_cases e : x = c
    · subst e; rw [if_pos rfl]; simp [ih]
    · rw [if_neg e, List.count_cons_of_ne (by simpa using e)]
      have := splitC_ne c t
      revert ih this
      cases splitC c t <;> simp
end Go.Proofs.YtmckdmopoeakfaaDoor.H
namespace Go.Proofs.YtmckdmopoeakfaaDoor.H
open Go.RowKit Go.Proofs.YtmckdmopoeakfaaDoorW.PrintWords Go.Proofs.YtmckdmopoeakfaaDoor.Base
def replA (old new : Bs) : Bs → Bs
  | [] => []
  | x :: t => if old.isPrefixOf (x :: t) = true then new ++ replA old new (t.drop (old.length - 1)) else x :: replA old new t
termination_by l => l.length
def swapC (c d : UInt8) (l : Bs) : Bs := l.map fun x => if x = c then d else x
end Go.Proofs.YtmckdmopoeakfaaDoor.H
namespace Go.Proofs.YtmckdmopoeakfaaDoor.H
open Go.RowKit Go.Proofs.YtmckdmopoeakfaaDoorW.PrintWords Go.Proofs.YtmckdmopoeakfaaDoor.Base
def swK (c d : UInt8) (l : Bs) (k : Nat) : Bs := swapC c d (l.take k) ++ l.drop k
end Go.Proofs.YtmckdmopoeakfaaDoor.H
namespace Go.Proofs.YtmckdmopoeakfaaDoor.H
open Go.RowKit Go.Proofs.YtmckdmopoeakfaaDoorW.PrintWords Go.Proofs.YtmckdmopoeakfaaDoor.Base

def figs : Bs := [48, 49, 50, 51, 52, 53, 54, 55, 56, 57, 65, 66, 67, 68, 69, 70]
def fig (n : Nat) : UInt8 := figs[n]?.getD 0
def needs (any : Bs) (c : UInt8) : Bool := decide (c.toNat < 32) || decide (126 < c.toNat) || any.contains c
def pct (c : UInt8) : Bs := [37, fig (c.toNat / 16), fig (c.toNat % 16)]
def encC (any : Bs) (c : UInt8) : Bs := if needs any c = true then pct c else [c]
def enc (any : Bs) (l : Bs) : Bs := l.flatMap (encC any)
def setB (n : Int) : Bs := if n = 1 then [32, 34, 35, 60, 62, 63, 96, 123, 125] else if n = 2 then [32, 34, 35, 60, 62, 39] else if n = 3 then [32, 34, 60, 62, 96] else if n = 5 then [32] else if n = 4 then [32, 34, 35, 60, 62, 63, 96, 123, 125, 47, 58, 59, 61, 64, 91, 92, 93, 94, 124] else []
def encMax (n : Int) (l : Bs) : Bs := if l.length ≤ 200 then enc (setB n) l else []
end Go.Proofs.YtmckdmopoeakfaaDoor.H
namespace Go.Proofs.YtmckdmopoeakfaaDoor.H
open Go.RowKit Go.Proofs.YtmckdmopoeakfaaDoorW.PrintWords Go.Proofs.YtmckdmopoeakfaaDoor.Base

def hexI (c : UInt8) : Int := if 48 ≤ c.toNat ∧ c.toNat ≤ 57 then (c.toNat : Int) - 48 else if 97 ≤ c.toNat ∧ c.toNat ≤ 102 then (c.toNat : Int) - 87 else if 65 ≤ c.toNat ∧ c.toNat ≤ 70 then (c.toNat : Int) - 55 else -1
theorem hexI_rng (c : UInt8) : -1 ≤ hexI c ∧ hexI c ≤ 15 := by
  unfold hexI
  split
  · omega
  · split
    · omega
    · split <;> omega
def escByte (a b : UInt8) : UInt8 := UInt8.ofNat (16 * hexI a + hexI b).toNat
theorem escByte_val (a b : UInt8) (ha : 0 ≤ hexI a) (hb : 0 ≤ hexI b) : (((escByte a b).toNat : Nat) : Int) = 16 * hexI a + hexI b := by
  have h1 := hexI_rng a; have h2 := hexI_rng b
  unfold escByte; simp; omega
def pctDec : Bs → Bs
  | c :: a :: b :: t => if c = 37 ∧ 0 ≤ hexI a ∧ 0 ≤ hexI b then escByte a b :: pctDec t else c :: pctDec (a :: b :: t)
  | c :: t => c :: pctDec t
  | [] => []
termination_by l => l.length
def escAt (l : Bs) (i : Nat) : Bool := decide (l[i]?.getD 0 = 37) && decide (i + 2 < l.length) && decide (0 ≤ hexI (l[i + 1]?.getD 0)) && decide (0 ≤ hexI (l[i + 2]?.getD 0))
theorem decode_nil : pctDec [] = [] := by rw [pctDec]
theorem decode_short (c : UInt8) (t : Bs) (h : t.length < 2) : pctDec (c :: t) = c :: pctDec t := by
  match t, h with
  | [], _ => rw [pctDec, pctDec] <;> simp
  | [a], _ => rw [pctDec] <;> simp
theorem decode_at (l : Bs) (i : Nat) (h : i < l.length) : pctDec (l.drop i) = if escAt l i = true then escByte (l[i + 1]?.getD 0) (l[i + 2]?.getD 0) :: pctDec (l.drop (i + 3)) else l[i] :: pctDec (l.drop (i + 1)) := by
  rw [List.drop_eq_getElem_cons h]
  by_cases h2 : i + 2 < l.length
  · have e1 : l.drop (i + 1) = l[i + 1] :: l[i + 2] :: l.drop (i + 3) := by
      rw [List.drop_eq_getElem_cons (by omega), List.drop_eq_getElem_cons (by omega)]
    have e2 : escAt l i = decide (l[i] = 37 ∧ 0 ≤ hexI l[i + 1] ∧ 0 ≤ hexI l[i + 2]) := by
      unfold escAt
      rw [get_eq h, get_eq (show i + 1 < l.length by omega), get_eq h2]
      simp [h2, Bool.and_assoc]
    rw [e1, pctDec, e2, get_eq (show i + 1 < l.length by omega), get_eq h2]
    by_cases c : l[i] = 37 ∧ 0 ≤ hexI l[i + 1] ∧ 0 ≤ hexI l[i + 2]
    · rw [if_pos c, if_pos (by simpa using c)]
    · rw [if_neg c, if_neg (by simpa using c)]
  · have e2 : escAt l i = false := by unfold escAt; simp [h2]
    rw [e2, decode_short _ _ (by simp; omega)]; simp
theorem decode_length (l : Bs) : (pctDec l).length ≤ l.length := by
  induction l using pctDec.induct with
  | case1 c a b t h ih => rw [pctDec, if_pos h]; simp; omega
  | case2 c a b t h ih => rw [pctDec, if_neg h]; simp at *; omega
  | case3 c t h ih => rw [pctDec]; · simp; omega
                      · exact h
  | case4 => simp [decode_nil]
end Go.Proofs.YtmckdmopoeakfaaDoor.H
namespace Go.Proofs.YtmckdmopoeakfaaDoor.H
open Go.RowKit Go.Proofs.YtmckdmopoeakfaaDoorW.PrintWords Go.Proofs.YtmckdmopoeakfaaDoor.Base
def isLet (c : UInt8) : Bool := (decide (97 ≤ c.toNat) && decide (c.toNat ≤ 122)) || (decide (65 ≤ c.toNat) && decide (c.toNat ≤ 90))
def isDig (c : UInt8) : Bool := decide (48 ≤ c.toNat) && decide (c.toNat ≤ 57)
def formS : Bs := [42, 45, 46, 95]
def formC (c : UInt8) : Bs := if (isLet c || isDig c || formS.contains c) = true then [c] else if c = 32 then [43] else pct c
def formB (l : Bs) : Bs := l.flatMap formC
end Go.Proofs.YtmckdmopoeakfaaDoor.H
