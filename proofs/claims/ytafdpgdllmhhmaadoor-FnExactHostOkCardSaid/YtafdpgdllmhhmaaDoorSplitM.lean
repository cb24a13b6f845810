/- Of no program: a text cut at each byte of a kind; plain lists of bytes. No condition. -/
import Derived.Test.YtafdpgdllmhhmaaDoorBase
import Derived.Lib.Split
namespace Go.Proofs.YtafdpgdllmhhmaaDoor.H
open Go.RowKit Go.Proofs.YtafdpgdllmhhmaaDoorW.PrintWords Go.Proofs.YtafdpgdllmhhmaaDoor.Base
/-- What lies between the bytes c. -/
def splitC (c : UInt8) : Bs → List Bs
  | [] => [[]]
  | x :: t => if x = c then [] :: splitC c t else match splitC c t with
    | [] => [[x]]
    | h :: r => (x :: h) :: r
theorem splitC_ne (c : UInt8) (l : Bs) : splitC c l ≠ [] := by
  cases l with
  | nil => simp [splitC]
  | cons x t =>
    unfold splitC
    split
    · simp
    · split <;> simp
theorem splitC_plain (c : UInt8) (a : Bs) (h : ∀ x ∈ a, x ≠ c) : splitC c a = [a] := by
  induction a with
  | nil => rfl
  | cons x t ih =>
    unfold splitC
    rw [if_neg (h x (by simp)), ih (fun y hy => h y (by simp [hy]))]
theorem splitC_cut (c : UInt8) (a b : Bs) (h : ∀ x ∈ a, x ≠ c) : splitC c (a ++ c :: b) = a :: splitC c b := by
  induction a with
  | nil => simp [splitC]
  | cons x t ih =>
    rw [List.cons_append, splitC, if_neg (h x (by simp)), ih (fun y hy => h y (by simp [hy]))]
theorem splitC_length (c : UInt8) (l : Bs) : (splitC c l).length = l.count c + 1 := by
  induction l with
  | nil => rfl
  | cons x t ih =>
    unfold splitC
    by_cases e : x = c
    · subst e; rw [if_pos rfl]; simp [ih]
    · rw [if_neg e, List.count_cons_of_ne (by simpa using e)]
      have := splitC_ne c t
      revert ih this
      cases splitC c t <;> simp
end Go.Proofs.YtafdpgdllmhhmaaDoor.H
