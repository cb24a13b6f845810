/- Of no program: a text cut at each byte of a kind; plain lists of bytes. No condition. · Of no program: a text with each instance of another, from the left, written as a third; at one byte: byte by byte. No condition. · Of no program: a text of which the first k bytes are written with each c as a d. No condition. · Of no program: bytes written as escapes; plain lists of bytes. No condition. · Of no program: escapes in a text, decoded; plain lists of bytes. No condition. · Of no program: a text written for form data; plain lists of bytes. No condition. -/
import Derived.Test.YtekeimhhffnjpaaDoorBase
import Derived.Lib.Split
import Derived.Lib.Replace
import Derived.Lib.ReplaceLaws
import Derived.Lib.IndexLaws
import Derived.Lib.IndexMore
import Derived.Lib.CountLaws
namespace Go.Proofs.YtekeimhhffnjpaaDoor.H
open Go.RowKit Go.Proofs.YtekeimhhffnjpaaDoorW.PrintWords Go.Proofs.YtekeimhhffnjpaaDoor.Base
/-- What lies between the bytes c. -/
def splitC (c : UInt8) : Bs → List Bs
  | [] => [[]]
  | x :: t => if x = c then [] :: splitC c t else match splitC c t with
    | [] => [[x]]
    | h :: r => (x :: h) :: r
theorem splitC_ne (c : UInt8) (l : Bs) : splitC c l ≠ [] := by
  cases l with
  | nil => simp [splitC]
  | cons x t =>
    unfold splitC
    split
    · simp
    · split <;> simp
theorem splitC_plain (c : UInt8) (a : Bs) (h : ∀ x ∈ a, x ≠ c) : splitC c a = [a] := by
  induction a with
  | nil => rfl
  | cons x t ih =>
    unfold splitC
    rw [if_neg (h x (by simp)), ih (fun y hy => h y (by simp [hy]))]
theorem splitC_cut (c : UInt8) (a b : Bs) (h : ∀ x ∈ a, x ≠ c) : splitC c (a ++ c :: b) = a :: splitC c b := by
  induction a with
  | nil => simp [splitC]
  | cons x t ih =>
    rw [List.cons_append, splitC, if_neg (h x (by simp)), ih (fun y hy => h y (by simp [hy]))]
theorem splitC_length (c : UInt8) (l : Bs) : (splitC c l).length = l.count c + 1 := by
  induction l with
  | nil => rfl
  | cons x t ih =>
    unfold splitC
    by_cases e : x = c
    · subst e; rw [if_pos rfl]; simp [ih]
    · rw [if_neg e, List.count_cons_of_ne (by simpa using e)]
      have := splitC_ne c t
      revert ih this
      cases splitC c t <;> simp
end Go.Proofs.YtekeimhhffnjpaaDoor.H
namespace Go.Proofs.YtekeimhhffnjpaaDoor.H
open Go.RowKit Go.Proofs.YtekeimhhffnjpaaDoorW.PrintWords Go.Proofs.YtekeimhhffnjpaaDoor.Base
def replA (old new : Bs) : Bs → Bs
  | [] => []
  | x :: t => if old.isPrefixOf (x :: t) = true then new ++ replA old new (t.drop (old.length - 1)) else x :: replA old new t
termination_by l => l.length
theorem replA_nil (old new : Bs) : replA old new [] = [] := by unfold replA; rfl
theorem replA_hit {old new : Bs} {x : UInt8} {t : Bs} (h : old.isPrefixOf (x :: t) = true) : replA old new (x :: t) = new ++ replA old new (t.drop (old.length - 1)) := by
  rw [replA, if_pos h]
theorem replA_miss {old new : Bs} {x : UInt8} {t : Bs} (h : old.isPrefixOf (x :: t) = false) : replA old new (x :: t) = x :: replA old new t := by
  rw [replA, if_neg (by rw [h]; simp)]
theorem replA_none (old new : Bs) (hne : old ≠ []) : ∀ (l : Bs), (∀ j, j ≤ l.length → Lib.occAt l old j = false) → replA old new l = l
  | [], _ => replA_nil _ _
  | x :: t, h => by
    have h0 := h 0 (Nat.zero_le _)
    rw [replA_miss (by simpa [Lib.occAt] using h0), replA_none old new hne t (fun j hj => by
      have := h (j + 1) (by simp; omega); simpa [Lib.occAt] using this)]
theorem replA_first (old new : Bs) (hne : old ≠ []) : ∀ (i : Nat) (l : Bs), Lib.occAt l old i = true → Lib.NoOcc l old i → replA old new l = l.take i ++ new ++ replA old new (l.drop (i + old.length))
  | 0, [], h, _ => by
    exfalso; apply hne; revert h; cases old <;> simp [Lib.occAt]
  | 0, x :: t, h, _ => by
    have hp : 0 < old.length := List.length_pos_iff.2 hne
    rw [replA_hit (by simpa [Lib.occAt] using h)]
    obtain ⟨n, hn⟩ : ∃ n, old.length = n + 1 := ⟨old.length - 1, by omega⟩
    simp [hn]
  | i + 1, [], h, _ => by
    exfalso; apply hne; revert h; cases old <;> simp [Lib.occAt]
  | i + 1, x :: t, h, hN => by
    have h0 : Lib.occAt (x :: t) old 0 = false := hN 0 (by omega)
    rw [replA_miss (by simpa [Lib.occAt] using h0)]
    have h' : Lib.occAt t old i = true := by simpa [Lib.occAt] using h
    have hN' : Lib.NoOcc t old i := fun j hj => by
      have := hN (j + 1) (by omega); simpa [Lib.occAt] using this
    rw [replA_first old new hne i t h' hN']
    have e : i + 1 + old.length = (i + old.length) + 1 := by omega
    simp [e]
theorem replaceK_replA (old new : Bs) (hne : old ≠ []) : ∀ (k : Nat) (l : Bs), Lib.count l old ≤ k → Lib.replaceK old new k l = replA old new l
  | 0, l, h => by
    rcases Lib.index_spec l old with ⟨_, h2⟩ | ⟨i, h1, _⟩
    · rw [replA_none old new hne l h2]; rfl
    · rw [Lib.count_hit hne h1] at h; omega
  | k + 1, l, h => by
    rcases Lib.index_spec l old with ⟨h1, h2⟩ | ⟨i, h1, h2, h3, h4⟩
    · unfold Lib.replaceK
      rw [if_pos (by rw [h1]; rfl), replA_none old new hne l h2]
    · rw [Lib.replaceK_hit old new k l i h1, replA_first old new hne i l h3 h4]
      rw [Lib.count_hit hne h1] at h
      rw [replaceK_replA old new hne k _ (by omega)]
theorem replA_self (old : Bs) (hne : old ≠ []) : ∀ (n : Nat) (l : Bs), l.length ≤ n → replA old old l = l
  | 0, l, h => by
    cases l with
    | nil => exact replA_nil _ _
    | cons x t => simp at h
  | n + 1, l, h => by
    cases l with
    | nil => exact replA_nil _ _
    | cons x t =>
      have hl : t.length ≤ n := by simpa using h
      cases hp : old.isPrefixOf (x :: t) with
      | false => rw [replA_miss hp, replA_self old hne n t hl]
      | true =>
        obtain ⟨r, hr⟩ := List.isPrefixOf_iff_prefix.1 hp
        have e : t.drop (old.length - 1) = r := by
          have hp : 0 < old.length := List.length_pos_iff.2 hne
          have : (x :: t).drop old.length = r := by rw [← hr]; simp
          rw [← this]
          obtain ⟨q, hq⟩ : ∃ q, old.length = q + 1 := ⟨old.length - 1, by omega⟩
          simp [hq]
        rw [replA_hit hp, replA_self old hne n _ (by simp; omega), e, hr]
theorem replaceAll_replA (old new l : Bs) (hne : old ≠ []) : Lib.replaceAll l old new = replA old new l := by
  unfold Lib.replaceAll Lib.replace
  by_cases e : old = new
  · subst e; rw [if_pos (by simp), replA_self old hne _ l (Nat.le_refl _)]
  · rw [if_neg (by simpa using e)]
    have : Lib.replaceNum l old (-1) = Lib.count l old := by unfold Lib.replaceNum; rw [if_pos (Or.inl (by decide))]
    rw [this, replaceK_replA old new hne _ l (Nat.le_refl _)]
/-- Each byte c as a d. -/
def swapC (c d : UInt8) (l : Bs) : Bs := l.map fun x => if x = c then d else x
end Go.Proofs.YtekeimhhffnjpaaDoor.H
namespace Go.Proofs.YtekeimhhffnjpaaDoor.H
open Go.RowKit Go.Proofs.YtekeimhhffnjpaaDoorW.PrintWords Go.Proofs.YtekeimhhffnjpaaDoor.Base
def swK (c d : UInt8) (l : Bs) (k : Nat) : Bs := swapC c d (l.take k) ++ l.drop k
end Go.Proofs.YtekeimhhffnjpaaDoor.H
namespace Go.Proofs.YtekeimhhffnjpaaDoor.H
open Go.RowKit Go.Proofs.YtekeimhhffnjpaaDoorW.PrintWords Go.Proofs.YtekeimhhffnjpaaDoor.Base

def figs : Bs := [48, 49, 50, 51, 52, 53, 54, 55, 56, 57, 65, 66, 67, 68, 69, 70]
/-- A figure of sixteen. -/
def fig (n : Nat) : UInt8 := figs[n]?.getD 0
/-- Is a byte written as an escape? -/
def needs (any : Bs) (c : UInt8) : Bool := decide (c.toNat < 32) || decide (126 < c.toNat) || any.contains c
def pct (c : UInt8) : Bs := [37, fig (c.toNat / 16), fig (c.toNat % 16)]
def encC (any : Bs) (c : UInt8) : Bs := if needs any c = true then pct c else [c]
def enc (any : Bs) (l : Bs) : Bs := l.flatMap (encC any)
/-- The bytes of a set. -/
def setB (n : Int) : Bs := if n = 1 then [32, 34, 35, 60, 62, 63, 96, 123, 125] else if n = 2 then [32, 34, 35, 60, 62, 39] else if n = 3 then [32, 34, 60, 62, 96] else if n = 5 then [32] else if n = 4 then [32, 34, 35, 60, 62, 63, 96, 123, 125, 47, 58, 59, 61, 64, 91, 92, 93, 94, 124] else []
theorem enc_append (any a b : Bs) : enc any (a ++ b) = enc any a ++ enc any b := by simp [enc]
theorem enc_take (any l : Bs) (i : Nat) (h : i < l.length) : enc any (l.take (i + 1)) = enc any (l.take i) ++ encC any l[i] := by
  rw [List.take_succ_eq_append_getElem h, enc_append]; simp [enc]
theorem encC_len (any : Bs) (c : UInt8) : 1 ≤ (encC any c).length ∧ (encC any c).length ≤ 3 := by unfold encC pct; split <;> simp
theorem enc_len (any l : Bs) : l.length ≤ (enc any l).length ∧ (enc any l).length ≤ 3 * l.length := by
  induction l with
  | nil => simp [enc]
  | cons c t ih =>
    have := encC_len any c
    simp only [enc, List.flatMap_cons, List.length_append, List.length_cons] at *
    omega
/-- What Encode answers. -/
def encMax (n : Int) (l : Bs) : Bs := if l.length ≤ 200 then enc (setB n) l else []
end Go.Proofs.YtekeimhhffnjpaaDoor.H
namespace Go.Proofs.YtekeimhhffnjpaaDoor.H
open Go.RowKit Go.Proofs.YtekeimhhffnjpaaDoorW.PrintWords Go.Proofs.YtekeimhhffnjpaaDoor.Base

/-- A figure of sixteen, or -1. -/
def hexI (c : UInt8) : Int := if 48 ≤ c.toNat ∧ c.toNat ≤ 57 then (c.toNat : Int) - 48 else if 97 ≤ c.toNat ∧ c.toNat ≤ 102 then (c.toNat : Int) - 87 else if 65 ≤ c.toNat ∧ c.toNat ≤ 70 then (c.toNat : Int) - 55 else -1
theorem hexI_rng (c : UInt8) : -1 ≤ hexI c ∧ hexI c ≤ 15 := by
  unfold hexI
  split
  · omega
  · split
    · omega
    · split <;> omega
def escByte (a b : UInt8) : UInt8 := UInt8.ofNat (16 * hexI a + hexI b).toNat
theorem escByte_val (a b : UInt8) (ha : 0 ≤ hexI a) (hb : 0 ≤ hexI b) : (((escByte a b).toNat : Nat) : Int) = 16 * hexI a + hexI b := by
  have h1 := hexI_rng a; have h2 := hexI_rng b
  unfold escByte; simp; omega
def pctDec : Bs → Bs
  | c :: a :: b :: t => if c = 37 ∧ 0 ≤ hexI a ∧ 0 ≤ hexI b then escByte a b :: pctDec t else c :: pctDec (a :: b :: t)
  | c :: t => c :: pctDec t
  | [] => []
termination_by l => l.length
/-- An escape begins at i. -/
def escAt (l : Bs) (i : Nat) : Bool := decide (l[i]?.getD 0 = 37) && decide (i + 2 < l.length) && decide (0 ≤ hexI (l[i + 1]?.getD 0)) && decide (0 ≤ hexI (l[i + 2]?.getD 0))
theorem decode_nil : pctDec [] = [] := by rw [pctDec]
theorem decode_short (c : UInt8) (t : Bs) (h : t.length < 2) : pctDec (c :: t) = c :: pctDec t := by
  match t, h with
  | [], _ => rw [pctDec, pctDec] <;> simp
  | [a], _ => rw [pctDec] <;> simp
theorem decode_at (l : Bs) (i : Nat) (h : i < l.length) : pctDec (l.drop i) = if escAt l i = true then escByte (l[i + 1]?.getD 0) (l[i + 2]?.getD 0) :: pctDec (l.drop (i + 3)) else l[i] :: pctDec (l.drop (i + 1)) := by
  rw [List.drop_eq_getElem_cons h]
  by_cases h2 : i + 2 < l.length
  · have e1 : l.drop (i + 1) = l[i + 1] :: l[i + 2] :: l.drop (i + 3) := by
      rw [List.drop_eq_getElem_cons (by omega), List.drop_eq_getElem_cons (by omega)]
    have e2 : escAt l i = decide (l[i] = 37 ∧ 0 ≤ hexI l[i + 1] ∧ 0 ≤ hexI l[i + 2]) := by
      unfold escAt
      rw [get_eq h, get_eq (show i + 1 < l.length by omega), get_eq h2]
      simp [h2, Bool.and_assoc]
    rw [e1, pctDec, e2, get_eq (show i + 1 < l.length by omega), get_eq h2]
    by_cases c : l[i] = 37 ∧ 0 ≤ hexI l[i + 1] ∧ 0 ≤ hexI l[i + 2]
    · rw [if_pos c, if_pos (by simpa using c)]
    · rw [if_neg c, if_neg (by simpa using c)]
  · have e2 : escAt l i = false := by unfold escAt; simp [h2]
    rw [e2, decode_short _ _ (by simp; omega)]; simp
theorem decode_length (l : Bs) : (pctDec l).length ≤ l.length := by
  induction l using pctDec.induct with
  | case1 c a b t h ih => rw [pctDec, if_pos h]; simp; omega
  | case2 c a b t h ih => rw [pctDec, if_neg h]; simp at *; omega
  | case3 c t h ih => rw [pctDec]; · simp; omega
                      · exact h
  | case4 => simp [decode_nil]
end Go.Proofs.YtekeimhhffnjpaaDoor.H
namespace Go.Proofs.YtekeimhhffnjpaaDoor.H
open Go.RowKit Go.Proofs.YtekeimhhffnjpaaDoorW.PrintWords Go.Proofs.YtekeimhhffnjpaaDoor.Base
def isLet (c : UInt8) : Bool := (decide (97 ≤ c.toNat) && decide (c.toNat ≤ 122)) || (decide (65 ≤ c.toNat) && decide (c.toNat ≤ 90))
def isDig (c : UInt8) : Bool := decide (48 ≤ c.toNat) && decide (c.toNat ≤ 57)
def formS : Bs := [42, 45, 46, 95]
def formC (c : UInt8) : Bs := if (isLet c || isDig c || formS.contains c) = true then [c] else if c = 32 then [43] else pct c
def formB (l : Bs) : Bs := l.flatMap formC
theorem formB_append (a b : Bs) : formB (a ++ b) = formB a ++ formB b := by simp [formB]
theorem formB_take (l : Bs) (i : Nat) (h : i < l.length) : formB (l.take (i + 1)) = formB (l.take i) ++ formC l[i] := by
  rw [List.take_succ_eq_append_getElem h, formB_append]; simp [formB]
theorem formC_len (c : UInt8) : 1 ≤ (formC c).length ∧ (formC c).length ≤ 3 := by unfold formC pct; split <;> (try split) <;> simp
theorem formB_len (l : Bs) : l.length ≤ (formB l).length ∧ (formB l).length ≤ 3 * l.length := by
  induction l with
  | nil => simp [formB]
  | cons c t ih =>
    have := formC_len c
    simp only [formB, List.flatMap_cons, List.length_append, List.length_cons] at *
    omega
theorem formB_mono (l : Bs) (k : Nat) : (formB (l.take k)).length ≤ (formB l).length := by
  conv => rhs; rw [← List.take_append_drop k l, formB_append]
  simp
end Go.Proofs.YtekeimhhffnjpaaDoor.H
