/- Of no program: escapes in a text, decoded; plain lists of bytes. No condition. -/
import Derived.Test.YtekeimhhffnjpaaDoorBase
namespace Go.Proofs.YtekeimhhffnjpaaDoor.H
open Go.RowKit Go.Proofs.YtekeimhhffnjpaaDoorW.PrintWords Go.Proofs.YtekeimhhffnjpaaDoor.Base

/-- A figure of sixteen, or -1. -/
def hexI (c : UInt8) : Int := if 48 ≤ c.toNat ∧ c.toNat ≤ 57 then (c.toNat : Int) - 48 else if 97 ≤ c.toNat ∧ c.toNat ≤ 102 then (c.toNat : Int) - 87 else if 65 ≤ c.toNat ∧ c.toNat ≤ 70 then (c.toNat : Int) - 55 else -1
theorem hexI_rng (c : UInt8) : -1 ≤ hexI c ∧ hexI c ≤ 15 := by
  unfold hexI
  split
  · omega
  · split
    · omega
    · split <;> omega
def escByte (a b : UInt8) : UInt8 := UInt8.ofNat (16 * hexI a + hexI b).toNat
theorem escByte_val (a b : UInt8) (ha : 0 ≤ hexI a) (hb : 0 ≤ hexI b) : (((escByte a b).toNat : Nat) : Int) = 16 * hexI a + hexI b := by
  have h1 := hexI_rng a; have h2 := hexI_rng b
  unfold escByte; simp; omega
def pctDec : Bs → Bs
  | c :: a :: b :: t => if c = 37 ∧ 0 ≤ hexI a ∧ 0 ≤ hexI b then escByte a b :: pctDec t else c :: pctDec (a :: b :: t)
  | c :: t => c :: pctDec t
  | [] => []
termination_by l => l.length
/-- An escape begins at i. -/
def escAt (l : Bs) (i : Nat) : Bool := decide (l[i]?.getD 0 = 37) && decide (i + 2 < l.length) && decide (0 ≤ hexI (l[i + 1]?.getD 0)) && decide (0 ≤ hexI (l[i + 2]?.getD 0))
theorem decode_nil : pctDec [] = [] := by rw [pctDec]
theorem decode_short (c : UInt8) (t : Bs) (h : t.length < 2) : pctDec (c :: t) = c :: pctDec t := by
  match t, h with
  | [], _ => rw [pctDec, pctDec] <;> simp
  | [a], _ => rw [pctDec] <;> simp
theorem decode_at (l : Bs) (i : Nat) (h : i < l.length) : pctDec (l.drop i) = if escAt l i = true then escByte (l[i + 1]?.getD 0) (l[i + 2]?.getD 0) :: pctDec (l.drop (i + 3)) else l[i] :: pctDec (l.drop (i + 1)) := by
  rw [List.drop_eq_getElem_cons h]
  by_cases h2 : i + 2 < l.length
  · have e1 : l.drop (i + 1) = l[i + 1] :: l[i + 2] :: l.drop (i + 3) := by
      rw [List.drop_eq_getElem_cons (by omega), List.drop_eq_getElem_cons (by omega)]
    have e2 : escAt l i = decide (l[i] = 37 ∧ 0 ≤ hexI l[i + 1] ∧ 0 ≤ hexI l[i + 2]) := by
      unfold escAt
      rw [get_eq h, get_eq (show i + 1 < l.length by omega), get_eq h2]
      simp [h2, Bool.and_assoc]
    rw [e1, pctDec, e2, get_eq (show i + 1 < l.length by omega), get_eq h2]
    by_cases c : l[i] = 37 ∧ 0 ≤ hexI l[i + 1] ∧ 0 ≤ hexI l[i + 2]
    · rw [if_pos c, if_pos (by simpa using c)]
    · rw [if_neg c, if_neg (by simpa using c)]
  · have e2 : escAt l i = false := by unfold escAt; simp [h2]
    rw [e2, decode_short _ _ (by simp; omega)]; simp
theorem decode_length (l : Bs) : (pctDec l).length ≤ l.length := by
  induction l using pctDec.induct with
  | case1 c a b t h ih => rw [pctDec, if_pos h]; simp; omega
  | case2 c a b t h ih => rw [pctDec, if_neg h]; simp at *; omega
  | case3 c t h ih => rw [pctDec]; · simp; omega
                      · exact h
  | case4 => simp [decode_nil]
end Go.Proofs.YtekeimhhffnjpaaDoor.H
