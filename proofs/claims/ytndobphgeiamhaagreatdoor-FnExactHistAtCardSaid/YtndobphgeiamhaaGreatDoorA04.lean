/- Texts of this claim, joined: Q, Sp, WTab, WFour, WFootNe, WAt, WEqStruct, WRepsOne, WInv, WInvWords, WGuard, Lfx0, Lfx1, HImp. Conditions: each theorem's own. -/
import Derived.Test.YtndobphgeiamhaaGreatDoorA03
import Derived.WalkKit
import Derived.Test.YtndobphgeiamhaaGreatDoorA02
import Derived.Test.YtndobphgeiamhaaGreatDoorA01
import Derived.Laws.StructEq
import Derived.Test.YtndobphgeiamhaaGreatDoorProg
import Derived.Below
import Derived.Deep.Draws
import Derived.Deep.AppendLies
import Derived.Maps.AppendAt
import Derived.OwnWalk
import Derived.Laws.BytesArg
import Derived.Laws.MakeOwn
import Derived.Laws.OwnMore
import Derived.Deep.OwnRows
import Derived.Tactics
import Derived.Lib.ConvBytes
import Derived.Laws.Slices
import Derived.KernelRfl
import Derived.RowKit3
import Derived.Deep.LoopGhost
import Derived.Deep.QuietTactic
import Derived.BigQuiet
import Derived.WideLaws
import Derived.Deep.DeepCutAuto
import Derived.Deep.CutBlock
import Derived.Deep.RegionHeld3
import Derived.Laws.Rows
import Derived.Lib.AppendStr
import Derived.ArgAppend
import Derived.Laws.IdiomCopy
import Derived.OrdersHeld
import Derived.Laws.BitsLemmas
import Derived.RowKit
import Derived.Outline
import Derived.Lib.Hide
import Derived.StillTailTactics
import Derived.Deep.RegionWith
import Derived.Lib.Bytealg
/- Lemmas that the shortened printed proofs ask for again and again. Conditions: each theorem's own. -/
namespace Go.Proofs.YtndobphgeiamhaaGreatDoor.H
open Go.RowKit Go.Proofs.YtndobphgeiamhaaGreatDoorW.PrintWords Go.Proofs.YtndobphgeiamhaaGreatDoorW.PrintLast
theorem bq {b : Nat} {w w1 : World} (h : Below b w w1 := by with_reducible repeat first | exact Aside0.out (by assumption) | apply below_alloc | apply pw_below_drewN | apply below_drew1) : Below b w w1 := h
theorem vq {t : Type} {a b : t} (h : a = b := by first | rfl | (simp; done) | (simp [*]; done) | (simp <;> rfl) | (simp [*] <;> rfl)) : a = b := h
theorem aq {t : Type} {a b : t} (h : a = b := by (try simp only [List.map_toArray, List.map_cons, List.map_nil]); first | done | rfl | (simp only [List.length_drop, List.length_take]; rfl)) : a = b := h
theorem dq {w w1 : World} (h : Drawn0 w w1 := by repeat (first | exact Drawn0.refl _ | apply Drawn0.step)) : Drawn0 w w1 := h
theorem lq {α : Type} {a b : Option α} (h : LeO a b := by repeat' first | with_reducible exact LeO.refl _ | with_reducible exact LeO.none _ | with_reducible refine LeO.ite ?_ ?_ | with_reducible refine LeO.bind ?_ fun _ => ?_ | with_reducible apply_assumption) : LeO a b := h
theorem oq {p : Prop} (h : p := by (repeat cases (by assumption : Aside0 (@LE.le Nat _ _ _))); omega) : p := h
theorem rq {p : Prop} (h : p := by (with_reducible repeat (first | apply Kd.R_alloc | apply Kd.R_drewN | apply Kd.R_drew)); exact Aside0.out (by assumption)) : p := h
theorem gq {p : Prop} (h : p := by repeat (first | (with_reducible first | exact Aside0.out (by assumption) | apply below_alloc | apply pw_below_drewN | apply below_drew1 | refine below_set ?_ (Aside0.out (by assumption))) | exact Aside0.out (by assumption))) : p := h
theorem kq {p : Prop} (h : p := by (with_reducible repeat (first | refine blk_drewN ?_ _ | refine blk_drew ?_ | refine blk_alloc ?_ _)); exact Aside0.out (by assumption)) : p := h
theorem xq {p : Prop} (h : p := by first | exact ⟨rfl, _, World.drewN_drewN _ _ _⟩ | exact ⟨rfl, _, Eq.trans (World.drewN_drewN _ _ _) (congrArg (World.drewN _) (Nat.add_assoc _ _ _))⟩) : p := h
theorem hrq {p : Prop} (h : p := by first | (go_simp; done) | (go_simp; rfl)) : p := h
theorem zq {α : Type} {P : Prop} {p : Option α} {r : α} (h : Aside0 (p = some r)) (e : p = none := by rfl) : P := by cases e.symm.trans h.out
section
variable {α β : Type} {A B r : α} {c : Prop} [Decidable c] {P : Prop}
theorem iDq (h1 : decide c = true → A = r → P) (h2 : decide c = false → B = r → P) : (if c then A else B) = r → P := by
 intro H; by_cases h : c
 · exact h1 (decide_eq_true h) (by rw [if_pos h] at H; exact H)
 · exact h2 (decide_eq_false h) (by rw [if_neg h] at H; exact H)
theorem iFq (q : Prop) [Decidable q] (h1 : decide c = true → decide q = true → A = r → P) (h2 : decide c = false → decide q = false → B = r → P) (e : c ↔ q := by omega) : (if c then A else B) = r → P :=
 iDq (fun h => h1 h (decide_eq_true (e.1 (of_decide_eq_true h)))) (fun h => h2 h (decide_eq_false fun k => of_decide_eq_false h (e.2 k)))
theorem iDnq {A : Option α} (h1 : decide c = true → A = some r → P) : (if c then A else none) = some r → P := iDq h1 (fun _ h => nomatch h)
theorem iFnq {A : Option α} (q : Prop) [Decidable q] (h1 : decide c = true → decide q = true → A = some r → P) (e : c ↔ q := by omega) : (if c then A else none) = some r → P := iFq q h1 (fun _ _ h => nomatch h) e
theorem iTnq {A : Option α} (h1 : c = True → decide c = true → A = some r → P) : (if c then A else none) = some r → P := iDnq fun h => h1 (eq_true (of_decide_eq_true h)) h
theorem iEq [BEq β] [LawfulBEq β] {a b : β} [Decidable (a = b)] (h1 : (a == b) = true → (a != b) = false → A = r → P) (h2 : ¬ a = b → (a == b) = false → (a != b) = true → B = r → P) : (if a = b then A else B) = r → P := by
 intro H; by_cases h : a = b
 · exact h1 (beq_iff_eq.mpr h) (bne_eq_false_iff_eq.mpr h) (by rw [if_pos h] at H; exact H)
 · exact h2 h (beq_eq_false_iff_ne.mpr h) (bne_iff_ne.mpr h) (by rw [if_neg h] at H; exact H)
theorem iEnq [BEq β] [LawfulBEq β] {a b : β} [Decidable (a = b)] {A : Option α} (h1 : (a == b) = true → (a != b) = false → A = some r → P) : (if a = b then A else none) = some r → P := iEq h1 (fun _ _ _ h => nomatch h)
theorem bTq (h : A = r → P) : (if true = true then A else B) = r → P := fun H => h (by rw [if_pos rfl] at H; exact H)
theorem bFq (h : B = r → P) : (if false = true then A else B) = r → P := fun H => h (by rw [if_neg (show ¬ (false = true) by decide)] at H; exact H)
theorem bnq {x : Option β} {f : β → Option α} (h : ∀ t, Aside0 (x = some t) → f t = some r → P) : x.bind f = some r → P := by
 intro H; obtain ⟨t, a, b⟩ := Option.bind_eq_some_iff.mp H; exact h t ⟨a⟩ b
theorem ahq {p : Prop} (h : Aside0 p → P) : p → P := fun k => h ⟨k⟩
theorem siq {a b : α} (h : a = b → P) : some a = some b → P := fun k => h (Option.some.inj k)
end
theorem s2q {α β : Type} {a a' : α} {b b' : β} {P : Prop} (h : a = a' → b = b' → P) : some (a, b) = some (a', b') → P := by intro H; cases H; exact h rfl rfl
theorem s3q {α β γ : Type} {a a' : α} {b b' : β} {c c' : γ} {P : Prop} (h : a = a' → b = b' → c = c' → P) : some (a, b, c) = some (a', b', c') → P := by intro H; cases H; exact h rfl rfl rfl
theorem s4q {α β γ δ : Type} {a a' : α} {b b' : β} {c c' : γ} {d d' : δ} {P : Prop} (h : a = a' → b = b' → c = c' → d = d' → P) : some (a, b, c, d) = some (a', b', c', d') → P := by intro H; cases H; exact h rfl rfl rfl rfl
theorem btq (s : ByteArray) (i : Int) (p : decide (0 ≤ i) = true := by assumption) (q : decide (i < (s.size : Int)) = true := by assumption) : (∀ h : i.toNat < s.size, ((s[i.toNat]'h).toNat : Int) = bt s i) ∧ (0 ≤ i) = True ∧ (i < (s.size : Int)) = True := ⟨bt_at s i, eq_true (of_decide_eq_true p), eq_true (of_decide_eq_true q)⟩
theorem bt0q (s : ByteArray) (q : decide (0 < (s.size : Int)) = true := by assumption) : (∀ h : 0 < s.size, ((s[0]'h).toNat : Int) = bt s 0) ∧ (0 < (s.size : Int)) = True ∧ (0 < s.size) = True := ⟨bt_at s 0, eq_true (of_decide_eq_true q), eq_true (by have := of_decide_eq_true q; omega)⟩
theorem bt1q (s : ByteArray) (q : decide (1 < (s.size : Int)) = true := by assumption) : (∀ h : 1 < s.size, ((s[1]'h).toNat : Int) = bt s 1) ∧ (1 < (s.size : Int)) = True ∧ (1 < s.size) = True := ⟨bt_at s 1, eq_true (of_decide_eq_true q), eq_true (by have := of_decide_eq_true q; omega)⟩
theorem bt2q (s : ByteArray) (q : decide (2 < (s.size : Int)) = true := by assumption) : (∀ h : 2 < s.size, ((s[2]'h).toNat : Int) = bt s 2) ∧ (2 < (s.size : Int)) = True ∧ (2 < s.size) = True := ⟨bt_at s 2, eq_true (of_decide_eq_true q), eq_true (by have := of_decide_eq_true q; omega)⟩
theorem atq {e : TypeId} {W : World} {base n c : Nat} {ok : Nat → Prop} {A : Option Addr} {xs : List ByteArray} (h : Aside0 (Kd.R Kd.string e W base ok (.slice A n c) xs)) (i : Int) (p : decide (0 ≤ i) = true := by assumption) (q : decide (i < (xs.length : Int)) = true := by assumption) : ∃ ad, A = some ad ∧ W.cell? (ad.add i.toNat) = some (.string (rdOf ByteArray.empty xs i)) ∧ (0 ≤ i) = True ∧ (i < (xs.length : Int)) = True := by
 obtain ⟨ad, e, hx⟩ := Kd.at_string (Kd.R_reads' h.out).2.2 i (of_decide_eq_true p) (of_decide_eq_true q)
 exact ⟨ad, e, hx, eq_true (of_decide_eq_true p), eq_true (of_decide_eq_true q)⟩
theorem rlq {w : World} {α : Type} {d : Kd α} {e : TypeId} {W w1 : World} {ok : Nat → Prop} {v : Value} {xs : List α} (h : Kd.R d e w1 W.heap.size ok v xs) (k : Below w.heap.size w W := by with_reducible repeat first | exact Aside0.out (by assumption) | apply below_alloc | apply pw_below_drewN | apply below_drew1) : Aside0 (Kd.R d e w1 w.heap.size ok v xs) := ⟨Kd.R_lower h (below_size k)⟩
theorem gwq {w : World} {g : Nat} {W : World} (hg : g = W.heap.size) (k : Below w.heap.size w W := by with_reducible repeat first | exact Aside0.out (by assumption) | apply below_alloc | apply pw_below_drewN | apply below_drew1) : Aside0 (w.heap.size ≤ g) := ⟨by rw [hg]; exact below_size k⟩
theorem blq {W0 W w1 : World} {g : Nat} {o : Obj} (_ : Aside0 (W0.heap[g]? = some o)) (hb : Below W.heap.size W w1) (k : W.heap[g]? = some o := by (with_reducible repeat (first | refine blk_drewN ?_ _ | refine blk_drew ?_ | refine blk_alloc ?_ _)); exact Aside0.out (by assumption)) : Aside0 (w1.heap[g]? = some o) := ⟨blk_below k hb⟩
theorem gcq {P : Program} {ops : Array Oper} {Q : Exit → Act → World → Prop} {rest : List Oper} {oi : Oper} {a : Act} {w : World} {R : Ending → World → Prop} (N : Option Tmp) {f : FuncId} {fn : Func} {as1 : Array Operand} {ts : Array TypeId} {args : Array Value} (hop : oi.op = .call { callee := .value (.func f), args := as1, argTypes := ts }) (hf : P.funcs[f]? = some fn) (hc : Calls P f args w R) (h : ∀ e w', R e w' → ∃ v, e = .returned v ∧ wpList P ops Q rest (a.put N v) w')
  (hd : oi.dst = N := by rfl) (hg : oi.guard = none := by rfl) (hname : (fn.name == "runtime.NumGoroutine") = false := by kernel_rfl) (hb : fn.body.isSome = true := by rfl) (hargs : as1.map a.eval = args := by (try simp only [List.map_toArray, List.map_cons, List.map_nil]); first | done | rfl | (simp only [List.length_drop, List.length_take]; rfl)) : wpList P ops Q (oi :: rest) a w :=
 goesL_ N hd hg hf hname hb args hop hargs (hc.mono h)
theorem cz2q {W : World} {g : Nat} {t : TypeId} {a b : Value} (h : Aside0 (W.heap[g]? = some (.cells #[a, b] t (0, 0)))) : W.cell? ⟨g, 0, none⟩ = some a ∧ W.cell? ⟨g, 1, none⟩ = some b ∧ W.frozen? ⟨g, 0, none⟩ = false ∧ W.frozen? ⟨g, 1, none⟩ = false := ⟨blk_cell h.out 0, blk_cell h.out 1, blk_frozen h.out 0, blk_frozen h.out 1⟩
theorem cz3q {W : World} {g : Nat} {t : TypeId} {a b c : Value} (h : Aside0 (W.heap[g]? = some (.cells #[a, b, c] t (0, 0)))) : W.cell? ⟨g, 0, none⟩ = some a ∧ W.cell? ⟨g, 1, none⟩ = some b ∧ W.cell? ⟨g, 2, none⟩ = some c ∧ W.frozen? ⟨g, 0, none⟩ = false ∧ W.frozen? ⟨g, 1, none⟩ = false ∧ W.frozen? ⟨g, 2, none⟩ = false := ⟨blk_cell h.out 0, blk_cell h.out 1, blk_cell h.out 2, blk_frozen h.out 0, blk_frozen h.out 1, blk_frozen h.out 2⟩
end Go.Proofs.YtndobphgeiamhaaGreatDoor.H
/- Small spellings that the walks ask for: a text held against the empty one. No condition. -/
namespace Go.Proofs.YtndobphgeiamhaaGreatDoor.H
theorem nen (l : List UInt8) : (l != []) = !l.isEmpty := by cases l <;> rfl
theorem een (l : List UInt8) : (l == []) = l.isEmpty := by cases l <;> rfl
end Go.Proofs.YtndobphgeiamhaaGreatDoor.H
/-! ### 50. A region's order in a table, made once a region: each step asks the table (numbers alone), not the operations -/
namespace Go.Proofs.YtndobphgeiamhaaGreatDoorW.PrintLast
open Go.Proofs.YtndobphgeiamhaaGreatDoorW.PrintWords (Aside0)
def needsOf (md : Region.Mode) (o : Oper) : List Nat := (o.after.toList.filter (fun e => Region.binds md e)).map (fun e => e.on)
def clashOf (md : Region.Mode) (ops : Array Oper) (i : Nat) (oi : Oper) : List Nat := (List.range ops.size).filter fun j => !(j == i) && match ops[j]? with
  | some oj => !(oj.after.any (fun e => Region.binds md e && e.on == i) || oi.apart ops oj)
  | none => false
def rtab (md : Region.Mode) (ops : Array Oper) : Bool × List (List Nat × List Nat) := (Region.noSelect ops, (List.range ops.size).map fun i => match ops[i]? with
  | some o => (needsOf md o, clashOf md ops i o)
  | none => ([], []))
def readyAt (T : List (List Nat × List Nat)) (l : List Bool) (i : Nat) : Bool := !l.getD i true && match T[i]? with
  | some r => r.1.all (fun j => l.getD j false)
  | none => false
def readyT (T : List (List Nat × List Nat)) (l : List Bool) : List Nat := (List.range T.length).filter (readyAt T l)
def freeT (T : List (List Nat × List Nat)) (l : List Bool) (i : Nat) : Bool := match T[i]? with
  | some r => r.2.all (fun j => l.getD j true)
  | none => false
def closedT (T : List (List Nat × List Nat)) (l : List Bool) : Bool := (List.range T.length).all fun j => !l.getD j false || match T[j]? with
  | some r => r.1.all (fun k => l.getD k false)
  | none => true
def reachT (T : List (List Nat × List Nat)) (i : Nat) : Nat → Nat → Bool
  | 0, _ => false
  | fuel + 1, d => match T[d]? with
    | some r => r.1.any fun j => j == i || reachT T i fuel j
    | none => false
def lastT (T : List (List Nat × List Nat)) (l : List Bool) (ds : List Nat) (i : Nat) : Bool := ds.all fun d => l.getD d true || reachT T i T.length d
section
variable {md : Region.Mode} {ops : Array Oper} {T : Bool × List (List Nat × List Nat)} {l l' li lj lk : Array Bool} {ds : List Nat} {i j k : Nat}
theorem gd (l : Array Bool) (j : Nat) (b : Bool) : l.getD j b = l.toList.getD j b := by simp [Array.getD_eq_getD_getElem?, List.getD_eq_getElem?_getD]
theorem needs_all (o : Oper) (p : Nat → Bool) : o.after.all (fun e => !Region.binds md e || p e.on) = (needsOf md o).all p := by
  unfold needsOf
  rw [← Array.all_toList]
  induction o.after.toList with
  | nil => rfl
  | cons e r ih =>
    rw [List.all_cons, ih, List.filter_cons]
    cases h : Region.binds md e <;> simp
theorem needs_any (o : Oper) (p : Nat → Bool) : o.after.any (fun e => Region.binds md e && p e.on) = (needsOf md o).any p := by
  unfold needsOf
  rw [← Array.any_toList]
  induction o.after.toList with
  | nil => rfl
  | cons e r ih =>
    rw [List.any_cons, ih, List.filter_cons]
    cases h : Region.binds md e <;> simp
theorem rtab_length : (rtab md ops).2.length = ops.size := by simp [rtab]
theorem rtab_some {o : Oper} (h : ops[i]? = some o) : (rtab md ops).2[i]? = some (needsOf md o, clashOf md ops i o) := by
  have hi := (Array.getElem?_eq_some_iff.1 h).1
  unfold rtab
  rw [List.getElem?_map, List.getElem?_range hi, Option.map_some, h]
theorem rtab_none (h : ops[i]? = none) : (rtab md ops).2[i]? = none := by
  have hi : ops.size ≤ i := Array.getElem?_eq_none_iff.1 h
  exact List.getElem?_eq_none (by rw [rtab_length]; exact hi)
theorem readyAt_eq : readyAt (rtab md ops).2 l.toList i = (!l.getD i true && ((ops[i]?).map (·.after.all fun e => !Region.binds md e || l.getD e.on false)).getD false) := by
  unfold readyAt
  rw [gd]
  cases h : ops[i]? with
  | none => rw [rtab_none h]; rfl
  | some o =>
    rw [rtab_some h]
    simp only [Option.map_some, Option.getD_some]
    rw [← needs_all]
    simp only [gd]
theorem ready_eq : Region.ready md ops l = readyT (rtab md ops).2 l.toList := by
  unfold Region.ready readyT
  rw [rtab_length]
  refine List.filter_congr (fun i _ => ?_)
  rw [readyAt_eq]
theorem free_eq : Region.free md ops l i = freeT (rtab md ops).2 l.toList i := by
  unfold Region.free freeT
  cases h : ops[i]? with
  | none => rw [rtab_none h]
  | some oi =>
    rw [rtab_some h]
    simp only [clashOf]
    rw [List.all_filter]
    congr 1
    funext j
    rw [gd]
    cases hj : ops[j]? with
    | none => cases (j == i) <;> cases (l.toList.getD j true) <;> simp
    | some oj =>
      cases (j == i) <;> cases (l.toList.getD j true) <;> cases (oj.after.any (fun e => Region.binds md e && e.on == i) || oi.apart ops oj) <;> simp_all
theorem closed_eq : Region.closedB md ops l = closedT (rtab md ops).2 l.toList := by
  unfold Region.closedB closedT
  rw [rtab_length]
  congr 1
  funext j
  rw [gd]
  cases h : ops[j]? with
  | none => rw [rtab_none h]
  | some o =>
    rw [rtab_some h]
    simp only
    rw [← needs_all]
    simp only [gd]
theorem reach_eq : ∀ (fuel d : Nat), Region.reachB md ops i fuel d = reachT (rtab md ops).2 i fuel d
  | 0, _ => rfl
  | fuel + 1, d => by
    unfold Region.reachB reachT
    cases h : ops[d]? with
    | none => rw [rtab_none h]
    | some o =>
      rw [rtab_some h]
      simp only
      rw [← needs_any]
      congr 1
      funext e
      rw [reach_eq fuel]
theorem last_eq : Region.lastB md ops l ds i = lastT (rtab md ops).2 l.toList ds i := by
  unfold Region.lastB lastT
  rw [rtab_length]
  congr 1
  funext d
  rw [gd, reach_eq]
theorem readyAt_mem (h : readyAt T.2 l.toList i = true) (hT : rtab md ops = T) : (Region.ready md ops l).contains i = true := by
  subst hT
  rw [ready_eq]
  unfold readyT
  rw [List.contains_iff_mem, List.mem_filter, List.mem_range]
  refine ⟨?_, h⟩
  unfold readyAt at h
  rw [Bool.and_eq_true] at h
  cases hq : (rtab md ops).2[i]? with
  | none => rw [hq] at h; simp at h
  | some r => exact (List.getElem?_eq_some_iff.1 hq).1
theorem set_of (h : (l.toList.set i true == l'.toList) = true) : (l.setIfInBounds i true == l') = true := by
  rw [beq_iff_eq] at h ⊢
  apply Array.ext'
  rw [Array.toList_setIfInBounds]
  exact h
def anyT (T : Bool × List (List Nat × List Nat)) (l l' : List Bool) (i : Nat) : Bool := T.1 && freeT T.2 l i && readyAt T.2 l i && (l.set i true == l')
theorem any_of (hT : rtab md ops = T) (h : anyT T l.toList l'.toList i = true) : anyB md ops l l' i = true := by
  simp only [anyT, Bool.and_eq_true] at h
  obtain ⟨⟨⟨h1, h2⟩, h3⟩, h4⟩ := h
  have h5 := readyAt_mem h3 hT
  have h6 := set_of h4
  subst hT
  simp only [anyB, Bool.and_eq_true]
  exact ⟨⟨⟨h1, by rw [free_eq]; exact h2⟩, h5⟩, h6⟩
def takeT (T : Bool × List (List Nat × List Nat)) (ds : List Nat) (l l' : List Bool) (i : Nat) : Bool := T.1 && freeT T.2 l i && readyAt T.2 l i && closedT T.2 l && lastT T.2 l ds i && (l.set i true == l')
theorem take_of (hT : rtab md ops = T) (h : takeT T ds l.toList l'.toList i = true) : takeB md ops ds l l' i = true := by
  simp only [takeT, Bool.and_eq_true] at h
  obtain ⟨⟨⟨⟨⟨h1, h2⟩, h3⟩, h4⟩, h5⟩, h6⟩ := h
  have h7 := readyAt_mem h3 hT
  have h8 := set_of h6
  subst hT
  simp only [takeB, Bool.and_eq_true]
  exact ⟨⟨⟨⟨⟨h1, by rw [free_eq]; exact h2⟩, h7⟩, by rw [closed_eq]; exact h4⟩, by rw [last_eq]; exact h5⟩, h8⟩
theorem one_of (hT : rtab md ops = T) (h : (readyT T.2 l.toList == [i] && l.toList.set i true == l'.toList) = true) : readyB md ops l l' i = true := by
  simp only [Bool.and_eq_true] at h
  obtain ⟨h1, h2⟩ := h
  subst hT
  simp only [readyB, Bool.and_eq_true]
  exact ⟨by rw [ready_eq]; exact h1, set_of h2⟩
theorem two_of (hT : rtab md ops = T) (h : (readyT T.2 l.toList == [i, j] && l.toList.set i true == li.toList && l.toList.set j true == lj.toList) = true) : (Region.ready md ops l == [i, j] && l.setIfInBounds i true == li && l.setIfInBounds j true == lj) = true := by
  simp only [Bool.and_eq_true] at h ⊢
  obtain ⟨⟨h1, h2⟩, h3⟩ := h
  subst hT
  exact ⟨⟨by rw [ready_eq]; exact h1, set_of h2⟩, set_of h3⟩
theorem done_of (hT : rtab md ops = T) (h : (readyT T.2 l.toList == []) = true) : (Region.ready md ops l == []) = true := by
  subst hT
  rw [ready_eq]
  exact h
def upM (B : List Nat) (d : Nat) : List Nat → Nat
  | [] => 0
  | n :: r => (2 ^ n ||| (if n < d then B.getD n 0 else 0)) ||| upM B d r
def waitsOk (T : List (List Nat × List Nat)) (B : List Nat) : Bool := (List.range T.length).all fun d => match T[d]? with
  | some r => (B.getD d 0 ||| upM B d r.1) == upM B d r.1
  | none => false
theorem upM_bit {B : List Nat} {d i : Nat} : ∀ {ns : List Nat}, (upM B d ns).testBit i = true → ∃ n ∈ ns, n = i ∨ (n < d ∧ (B.getD n 0).testBit i = true)
  | [], h => by simp [upM] at h
  | n :: r, h => by
    unfold upM at h
    rw [Nat.testBit_or, Nat.testBit_or, Bool.or_eq_true, Bool.or_eq_true] at h
    rcases h with (h | h) | h
    · rw [Nat.testBit_two_pow] at h
      exact ⟨n, List.mem_cons_self, .inl (by simpa using h)⟩
    · by_cases hn : n < d
      · rw [if_pos hn] at h
        exact ⟨n, List.mem_cons_self, .inr ⟨hn, h⟩⟩
      · rw [if_neg hn] at h
        simp at h
    · obtain ⟨m, hm, h2⟩ := upM_bit h
      exact ⟨m, List.mem_cons_of_mem _ hm, h2⟩
theorem reach_bit {T : List (List Nat × List Nat)} {B : List Nat} (hB : waitsOk T B = true) : ∀ (fuel d : Nat), d < fuel → d < T.length → (B.getD d 0).testBit i = true → reachT T i fuel d = true
  | 0, d, h, _, _ => by omega
  | fuel + 1, d, h, hd, hb => by
    have h1 := List.all_eq_true.1 hB d (List.mem_range.2 hd)
    cases hr : T[d]? with
    | none => rw [hr] at h1; simp at h1
    | some r =>
      rw [hr] at h1
      simp only [beq_iff_eq] at h1
      have h2 : (upM B d r.1).testBit i = true := by rw [← h1, Nat.testBit_or, hb, Bool.true_or]
      obtain ⟨n, hn, h3⟩ := upM_bit h2
      unfold reachT
      rw [hr]
      simp only
      rw [List.any_eq_true]
      refine ⟨n, hn, ?_⟩
      rcases h3 with rfl | ⟨h4, h5⟩
      · simp
      · rw [reach_bit hB fuel n (by omega) (by omega) h5, Bool.or_true]
def lastW (T : List (List Nat × List Nat)) (B : List Nat) (l : List Bool) (ds : List Nat) (i : Nat) : Bool := ds.all fun d => l.getD d true || (decide (d < T.length) && (B.getD d 0).testBit i)
def takeW (T : Bool × List (List Nat × List Nat)) (B : List Nat) (ds : List Nat) (l l' : List Bool) (i : Nat) : Bool := T.1 && freeT T.2 l i && readyAt T.2 l i && closedT T.2 l && lastW T.2 B l ds i && (l.set i true == l')
theorem take_ofW {B : List Nat} (hT : rtab md ops = T) (hB : waitsOk T.2 B = true) (h : takeW T B ds l.toList l'.toList i = true) : takeB md ops ds l l' i = true := by
  refine take_of hT ?_
  simp only [takeW, takeT, Bool.and_eq_true] at h ⊢
  obtain ⟨⟨⟨⟨⟨h1, h2⟩, h3⟩, h4⟩, h5⟩, h6⟩ := h
  refine ⟨⟨⟨⟨⟨h1, h2⟩, h3⟩, h4⟩, ?_⟩, h6⟩
  unfold lastW at h5
  unfold lastT
  rw [List.all_eq_true] at h5 ⊢
  intro d hd
  have h7 := h5 d hd
  rw [Bool.or_eq_true, Bool.and_eq_true, decide_eq_true_eq] at h7
  rcases h7 with h7 | ⟨h8, h9⟩
  · rw [h7, Bool.true_or]
  · rw [reach_bit hB _ d h8 h8 h9, Bool.or_true]
theorem with_tabW {P : Program} {Q : Exit → Act → World → Prop} {S : World → Prop} {n : Nat} {a : Act} {w : World} {B : List Nat} (hT : rtab md ops = T) (hB : waitsOk T.2 B = true) (h : Aside0 (rtab md ops = T) → Aside0 (waitsOk T.2 B = true) → wpAnyLast P md ops Q S ds n l a w) : wpAnyLast P md ops Q S ds n l a w := h ⟨hT⟩ ⟨hB⟩
end
def opsIn : Code → Nat → Option (Array Oper)
  | .region id ops _, k => if id == k then some ops else none
  | .seq a b, k => match opsIn a k with
    | some o => some o
    | none => opsIn b k
  | .cond _ a b, k => match opsIn a k with
    | some o => some o
    | none => opsIn b k
  | .block _ c, k => opsIn c k
  | .loop c, k => opsIn c k
  | .scope c, k => opsIn c k
  | .rangeFunc _ _ a b, k => match opsIn a k with
    | some o => some o
    | none => opsIn b k
  | _, _ => none
def opsOf (f : Func) (k : Nat) : Array Oper := ((f.body.bind fun c => opsIn c k)).getD #[]
end Go.Proofs.YtndobphgeiamhaaGreatDoorW.PrintLast
/-! ### 53. '==' of structs as_ one Bool -/
namespace Go.Proofs.YtndobphgeiamhaaGreatDoorW.PrintWords
open Go.RowKit
section
variable {P : Program} {d : Nat} {xs ys : Array Value} {f : Field} {fs : List Field} {a b : Value} {r s : Bool} {w : World}
theorem eqf_last (hn : (f.name == "_") = false) (ha : (part f.type xs f.offset).run P w = .ok a w) (hb : (part f.type ys f.offset).run P w = .ok b w) (he : (Op.equalIn d f.type a b).run P w = .ok r w) : (Op.eqFields d xs ys [f]).run P w = .ok r w := by
  have hn' : f.name ≠ "_" := by simpa using hn
  simp only [Op.eqFields, if_pos hn', Sem.run_bind, ha, hb, he, Result.andThen_ok]
  cases r <;> simp
theorem eqf_cons (hn : (f.name == "_") = false) (ha : (part f.type xs f.offset).run P w = .ok a w) (hb : (part f.type ys f.offset).run P w = .ok b w) (he : (Op.equalIn d f.type a b).run P w = .ok r w) (hr : (Op.eqFields d xs ys fs).run P w = .ok s w) : (Op.eqFields d xs ys (f :: fs)).run P w = .ok (r && s) w := by
  have hn' : f.name ≠ "_" := by simpa using hn
  rw [Op.eqFields]
  simp only [if_pos hn', Sem.run_bind, ha, hb, he, Result.andThen_ok]
  cases r
  · simp
  · simpa using hr
theorem eqA_of {t : TypeId} {fs : Array Field} (hu : P.underlying t = some (.struct fs)) (hp : P.stoodInHeld t = false) (h : (Op.eqFields d xs ys fs.toList).run P w = .ok r w) : (Op.equalIn (d + 1) t (.agg xs) (.agg ys)).run P w = .ok r w := by
  have hf : P.fieldsOf t = fs := by simp [Program.fieldsOf, hu]
  rw [run_equalIn_struct (P := P) w d t xs ys (by rw [hf]; exact hu) hp, hf]
  exact h
end
end Go.Proofs.YtndobphgeiamhaaGreatDoorW.PrintWords
/-! ### 55. Reps told from the front, no append: for rows of one-cell elements and of wider ones -/
namespace Go.Proofs.YtndobphgeiamhaaGreatDoorW.PrintWords
theorem Reps.one {α : Type} {R : α → List Value → Prop} {ps : List α} {cs : List Value} {p : α} {v : Value} (hp : R p [v]) (h : Reps R 1 ps cs) : Reps R 1 (p :: ps) (v :: cs) := by
  refine ⟨by simp [h.1], fun j q hq => ?_⟩
  cases j with
  | zero =>
    simp only [List.getElem?_cons_zero, Option.some.injEq] at hq
    subst hq
    simpa using hp
  | succ j =>
    simp only [List.getElem?_cons_succ] at hq
    have h1 := h.2 j q hq
    simpa [Nat.mul_one] using h1
theorem Reps.front {α : Type} {R : α → List Value → Prop} {size : Nat} {ps : List α} {cs c all : List Value} {p : α} (hp : R p c) (hc : c.length = size) (h : Reps R size ps cs) (ha : c ++ cs = all) : Reps R size (p :: ps) all := by
  subst ha
  refine ⟨by rw [List.length_append, hc, h.1, List.length_cons, Nat.succ_mul, Nat.add_comm], fun j q hq => ?_⟩
  cases j with
  | zero =>
    simp only [List.getElem?_cons_zero, Option.some.injEq] at hq
    subst hq
    rw [Nat.zero_mul, List.drop_zero, List.take_append_of_le_length (by omega), List.take_of_length_le (by omega)]
    exact hp
  | succ j =>
    simp only [List.getElem?_cons_succ] at hq
    have h1 := h.2 j q hq
    rw [Nat.succ_mul, List.drop_append, List.drop_of_length_le (by rw [hc]; exact Nat.le_add_left _ _), List.nil_append, hc, Nat.add_sub_cancel]
    exact h1
theorem Reps.c2 {α : Type} {R : α → List Value → Prop} {ps : List α} {cs : List Value} {p : α} {va vb : Value} (hp : R p [va, vb]) (h : Reps R 2 ps cs) : Reps R 2 (p :: ps) (va :: vb :: cs) := Reps.front hp rfl h rfl
theorem Reps.c3 {α : Type} {R : α → List Value → Prop} {ps : List α} {cs : List Value} {p : α} {va vb vc : Value} (hp : R p [va, vb, vc]) (h : Reps R 3 ps cs) : Reps R 3 (p :: ps) (va :: vb :: vc :: cs) := Reps.front hp rfl h rfl
theorem Reps.c4 {α : Type} {R : α → List Value → Prop} {ps : List α} {cs : List Value} {p : α} {va vb vc vd : Value} (hp : R p [va, vb, vc, vd]) (h : Reps R 4 ps cs) : Reps R 4 (p :: ps) (va :: vb :: vc :: vd :: cs) := Reps.front hp rfl h rfl
theorem Reps.c5 {α : Type} {R : α → List Value → Prop} {ps : List α} {cs : List Value} {p : α} {va vb vc vd ve : Value} (hp : R p [va, vb, vc, vd, ve]) (h : Reps R 5 ps cs) : Reps R 5 (p :: ps) (va :: vb :: vc :: vd :: ve :: cs) := Reps.front hp rfl h rfl
theorem Reps.c6 {α : Type} {R : α → List Value → Prop} {ps : List α} {cs : List Value} {p : α} {va vb vc vd ve vf : Value} (hp : R p [va, vb, vc, vd, ve, vf]) (h : Reps R 6 ps cs) : Reps R 6 (p :: ps) (va :: vb :: vc :: vd :: ve :: vf :: cs) := Reps.front hp rfl h rfl
theorem Reps.c7 {α : Type} {R : α → List Value → Prop} {ps : List α} {cs : List Value} {p : α} {va vb vc vd ve vf vg : Value} (hp : R p [va, vb, vc, vd, ve, vf, vg]) (h : Reps R 7 ps cs) : Reps R 7 (p :: ps) (va :: vb :: vc :: vd :: ve :: vf :: vg :: cs) := Reps.front hp rfl h rfl
theorem Reps.c8 {α : Type} {R : α → List Value → Prop} {ps : List α} {cs : List Value} {p : α} {va vb vc vd ve vf vg vh : Value} (hp : R p [va, vb, vc, vd, ve, vf, vg, vh]) (h : Reps R 8 ps cs) : Reps R 8 (p :: ps) (va :: vb :: vc :: vd :: ve :: vf :: vg :: vh :: cs) := Reps.front hp rfl h rfl
theorem Reps.c9 {α : Type} {R : α → List Value → Prop} {ps : List α} {cs : List Value} {p : α} {va vb vc vd ve vf vg vh vi : Value} (hp : R p [va, vb, vc, vd, ve, vf, vg, vh, vi]) (h : Reps R 9 ps cs) : Reps R 9 (p :: ps) (va :: vb :: vc :: vd :: ve :: vf :: vg :: vh :: vi :: cs) := Reps.front hp rfl h rfl
theorem Reps.c10 {α : Type} {R : α → List Value → Prop} {ps : List α} {cs : List Value} {p : α} {va vb vc vd ve vf vg vh vi vj : Value} (hp : R p [va, vb, vc, vd, ve, vf, vg, vh, vi, vj]) (h : Reps R 10 ps cs) : Reps R 10 (p :: ps) (va :: vb :: vc :: vd :: ve :: vf :: vg :: vh :: vi :: vj :: cs) := Reps.front hp rfl h rfl
end Go.Proofs.YtndobphgeiamhaaGreatDoorW.PrintWords
/-! ### 57. A region of open order by ONE relation over what is listed so far: each operation is shown once, whatever came up before it -/
namespace Go.Proofs.YtndobphgeiamhaaGreatDoorW.PrintLast
def up (b : Nat → Bool) (i : Nat) : Nat → Bool := fun j => if j = i then true else b j
def lof (n : Nat) (O : List Nat) (b : Nat → Bool) : List Bool := (List.range n).map fun j => if O.contains j then b j else true
def putSel (a : Act) (b : Nat → Bool) : List (Nat × Tmp × Value) → Act
  | [] => a
  | e :: r => putSel (if b e.1 = true then a.put (some e.2.1) e.2.2 else a) b r
section
variable {P : Program} {ops : Array Oper} {Q : Exit → Act → World → Prop} {md : Region.Mode} {T : Bool × List (List Nat × List Nat)} {B : List Nat} {O : List Nat} {b : Nat → Bool} {i j n : Nat}
def StepAt (P : Program) (ops : Array Oper) (Q : Exit → Act → World → Prop) (B : List Nat) (O : List Nat) (I : (Nat → Bool) → Act → World → Prop) (i : Nat) : Prop :=
  ∀ b a w, I b a w → b i = false → (∀ j, (O.contains j && (B.getD i 0).testBit j) = true → b j = true) → (∀ d, (O.contains d && (B.getD d 0).testBit i) = true → b d = false) →
    ∃ oi, ops[i]? = some oi ∧ ∀ K : Act → World → Prop, Shut (∀ a' w', I (up b i) a' w' → K a' w') → if Region.wanted oi (yielded ops a.tmps) = true then Oper.wp P oi a w K Q else K (a.put oi.dst undef) w
def baseOk (T : List (List Nat × List Nat)) (O : List Nat) : Bool :=
  (List.range T.length).all (fun d => match T[d]? with
    | some r => (O.contains d || r.1.all fun n => !O.contains n) && r.1.all fun n => decide (n < d)
    | none => false) && O.all (fun i => decide (i < T.length)) && decide O.Nodup
def Closed (T : List (List Nat × List Nat)) (O : List Nat) (b : Nat → Bool) : Prop := ∀ d r, T[d]? = some r → O.contains d = true → b d = true → ∀ n ∈ r.1, O.contains n = true → b n = true
/-! The frame: what is listed has its destination filled. -/
end
end Go.Proofs.YtndobphgeiamhaaGreatDoorW.PrintLast
/-! ### 58. A guarded operation whose guard is known to want it: the same goal without the guard -/
namespace Go.Proofs.YtndobphgeiamhaaGreatDoorW.PrintWords
open Go.RowKit
section
variable {P : Program} {ops : Array Oper} {rest : List Oper} {o : Oper} {a : Act} {Q : Exit → Act → World → Prop} {W : World}
theorem gate_guard (hw : Region.wanted o (yielded ops a.tmps) = true) (h : wpList P ops Q ({ o with guard := none } :: rest) a W) : wpList P ops Q (o :: rest) a W := by
  have h1 : Region.wanted { o with guard := none } (yielded ops a.tmps) = true := rfl
  unfold wpList at h ⊢
  rw [if_pos h1] at h
  rw [if_pos hw]
  exact h
end
end Go.Proofs.YtndobphgeiamhaaGreatDoorW.PrintWords
set_option maxHeartbeats 8000000
set_option maxRecDepth 100000
namespace Go.Proofs.YtndobphgeiamhaaGreatDoor.Lf
open Go.RowKit Go.Proofs.YtndobphgeiamhaaGreatDoor.H Go.Proofs.YtndobphgeiamhaaGreatDoorW.PrintWords Go.Proofs.YtndobphgeiamhaaGreatDoorW.PrintLast Go.Proofs.YtndobphgeiamhaaGreatDoorW.PrintMore
attribute [local go_sem] max2_int min2_int max_two min_two max_three min_three max_four min_four   -- for this text's walks alone
set_option linter.unusedVariables false
set_option linter.unusedSimpArgs false
def errW : Option Int → Value
 | none => .nilIface
 | some c => .iface 0 (.int .i64 c)
theorem errW_none : errW none = .nilIface := rfl
theorem errW_some (c : Int) : errW (some c) = .iface 0 (.int .i64 c) := rfl
theorem info5 : (Tryz.prog.info? 5).map (fun i => (i.zero, i.size, i.bytes)) = some (some (.int .u8 0), 1, 1) := by kernel_rfl
end Go.Proofs.YtndobphgeiamhaaGreatDoor.Lf
set_option maxHeartbeats 8000000
set_option maxRecDepth 100000
namespace Go.Proofs.YtndobphgeiamhaaGreatDoor.Lf
open Go.RowKit Go.Proofs.YtndobphgeiamhaaGreatDoor.H Go.Proofs.YtndobphgeiamhaaGreatDoorW.PrintWords Go.Proofs.YtndobphgeiamhaaGreatDoorW.PrintLast Go.Proofs.YtndobphgeiamhaaGreatDoorW.PrintMore
attribute [local go_sem] max2_int min2_int max_two min_two max_three min_three max_four min_four   -- for this text's walks alone
set_option linter.unusedVariables false
set_option linter.unusedSimpArgs false
def impl_percent.f (a0 : Int) : Option (ByteArray) := if 0 ≤ (a0 / 16) then (if (a0 / 16) < 16 then (if 0 ≤ (Go.bits .and .u8 a0 15) then (if (Go.bits .and .u8 a0 15) < 16 then (some (strOfNums (([37, bt (⟨#[48, 49, 50, 51, 52, 53, 54, 55, 56, 57, 65, 66, 67, 68, 69, 70]⟩ : ByteArray) (a0 / 16), bt (⟨#[48, 49, 50, 51, 52, 53, 54, 55, 56, 57, 65, 66, 67, 68, 69, 70]⟩ : ByteArray) (Go.bits .and .u8 a0 15)] : List Int)))) else (none)) else (none)) else (none)) else (none)
def impl_percent.T1 : Bool × List (List Nat × List Nat) := (true, [([], []), ([0], [0]), ([1], [1]), ([], []), ([3], [3]), ([4], [4]), ([2, 5], [2, 5]), ([6], [6]), ([7, 0, 1, 2, 3, 4, 5, 6, 7], [7])])
def impl_percent.B1 : List Nat := [0, 1, 3, 0, 8, 24, 63, 127, 255]
theorem impl_percent.tab1 : rtab .any (opsOf Tryz.f123 1) = impl_percent.T1 := by kernel_rfl
theorem impl_percent.bits1 : waitsOk impl_percent.T1.2 impl_percent.B1 = true := by kernel_rfl
theorem impl_percent.calls (a0 : Int) (r : ByteArray) (w : World) (h : impl_percent.f a0 = some r) :
  Calls Tryz.prog 123 #[.int .u8 a0] w fun e w' => e = .returned (.string r) ∧ Below w.heap.size w w' := by
 have HB := Aside0.mk (Below.refl w.heap.size w); unfold impl_percent.f at h; revert h; intro H; obtain ⟨ji2, hji2⟩ : ∃ j_ : Int, (a0 / 16) = j_ := ⟨_, rfl⟩; (first | rw [hji2] at H | simp only [hji2] at H); revert H; refine iDnq fun c3b0 => ?_; refine iDnq fun c4b0 => ?_; refine iDnq fun c6b0 => ?_; refine iDnq fun c7b0 => ?_; intro H; obtain ⟨y101, hy101⟩ : ∃ y_ : List Int, y_ = (([37, bt (⟨#[48, 49, 50, 51, 52, 53, 54, 55, 56, 57, 65, 66, 67, 68, 69, 70]⟩ : ByteArray) (ji2), bt (⟨#[48, 49, 50, 51, 52, 53, 54, 55, 56, 57, 65, 66, 67, 68, 69, 70]⟩ : ByteArray) (Go.bits .and .u8 a0 15)] : List Int)) := ⟨_, rfl⟩; replace H : (some (strOfNums y101)) = some r := by first | (rw [hy101]; with_reducible exact H) | (have H2_ := (Option.bind_some _ _).symm.trans H; rw [hy101]; with_reducible exact H2_) | (have H2_ := (Option.bind_some _ _).symm.trans H; with_reducible exact H2_) | with_reducible exact H | (rw [hy101]; exact H) | exact H
 have Ny101 := Aside0.mk hy101; clear hy101; obtain rfl := Option.some.inj H; go_enter Tryz.func123, Tryz.ntmps123; try go_wp2
 replace HB := Aside0.mk (below_drew1 HB.out); have p5 : 0 ≤ ((ji2) : Int) := of_decide_eq_true (by assumption); have q5 : (ji2) < (16 : Int) := of_decide_eq_true (by assumption); have hx5 := bt_at (⟨#[48, 49, 50, 51, 52, 53, 54, 55, 56, 57, 65, 66, 67, 68, 69, 70]⟩ : ByteArray) (ji2); replace p5 := eq_true p5; replace q5 := eq_true q5; have p8 : 0 ≤ ((Go.bits .and .u8 a0 15) : Int) := of_decide_eq_true (by assumption); have q8 : (Go.bits .and .u8 a0 15) < (16 : Int) := of_decide_eq_true (by assumption); have hx8 := bt_at (⟨#[48, 49, 50, 51, 52, 53, 54, 55, 56, 57, 65, 66, 67, 68, 69, 70]⟩ : ByteArray) (Go.bits .and .u8 a0 15); replace p8 := eq_true p8; replace q8 := eq_true q8; refine start_ (n := 9) (S := fun w' => True) (ds := []) #[false,false,false,false,false,false,false,false,false] (by kernel_rfl) rfl rfl trivial (fun hHeld => ?_); refine with_tabW impl_percent.tab1 impl_percent.bits1 (fun HT_ HW_ => ?_); generalize w.drew = w9 at HB hHeld ⊢; refine pure_ (i := 0) (N := some 3) (v := ?_) (a' := ?_) #[true,false,false,false,false,false,false,false,false] rfl rfl (any_of HT_.out (by kernel_rfl)) (fun _ _ _ h => h) (Or.inl ⟨by rfl, ?_⟩) ?_ ?_; rotate_left
 ·intro w'; go_simp; with_reducible rfl
 rotate_left
 ·simp only [Act.put, List.setIfInBounds_toArray, List.set_cons_zero, List.set_cons_succ, i64_w, i32_w]; rfl
 refine pure_ (i := 1) (N := some 4) (v := ?_) (a' := ?_) #[true,true,false,false,false,false,false,false,false] rfl rfl (any_of HT_.out (by kernel_rfl)) (fun _ _ _ h => h) (Or.inl ⟨by rfl, ?_⟩) ?_ ?_; rotate_left
 ·intro w'; go_simp; with_reducible rfl
 rotate_left
 ·simp only [Act.put, List.setIfInBounds_toArray, List.set_cons_zero, List.set_cons_succ, i64_w, i32_w]; rfl
 refine pure_ (i := 3) (N := some 6) (v := ?_) (a' := ?_) #[true,true,false,true,false,false,false,false,false] rfl rfl (any_of HT_.out (by kernel_rfl)) (fun _ _ _ h => h) (Or.inl ⟨by rfl, ?_⟩) ?_ ?_; rotate_left
 ·intro w'; go_simp; with_reducible rfl
 rotate_left
 ·simp only [Act.put, List.setIfInBounds_toArray, List.set_cons_zero, List.set_cons_succ, i64_w, i32_w]; rfl
 refine pure_ (i := 4) (N := some 7) (v := ?_) (a' := ?_) #[true,true,false,true,true,false,false,false,false] rfl rfl (any_of HT_.out (by kernel_rfl)) (fun _ _ _ h => h) (Or.inl ⟨by rfl, ?_⟩) ?_ ?_; rotate_left
 ·intro w'; go_simp; with_reducible rfl
 rotate_left
 ·simp only [Act.put, List.setIfInBounds_toArray, List.set_cons_zero, List.set_cons_succ, i64_w, i32_w]; rfl
 refine take_ (i := 2) (N := some 5) (v := ?_) (a' := ?_) #[true,true,true,true,true,false,false,false,false] rfl rfl (take_ofW HT_.out HW_.out (by kernel_rfl)) (fun _ _ _ h => h) (Or.inl ⟨by rfl, ?_⟩) hHeld ?_ ?_; rotate_left
 ·intro w' _; go_simp; with_reducible rfl
 rotate_left
 ·simp only [Act.put, List.setIfInBounds_toArray, List.set_cons_zero, List.set_cons_succ, i64_w, i32_w]; rfl
 refine take_ (i := 5) (N := some 8) (v := ?_) (a' := ?_) #[true,true,true,true,true,true,false,false,false] rfl rfl (take_ofW HT_.out HW_.out (by kernel_rfl)) (fun _ _ _ h => h) (Or.inl ⟨by rfl, ?_⟩) hHeld ?_ ?_; rotate_left
 ·intro w' _; go_simp; with_reducible rfl
 rotate_left
 ·simp only [Act.put, List.setIfInBounds_toArray, List.set_cons_zero, List.set_cons_succ, i64_w, i32_w]; rfl
 refine one_ (i := 6) (N := some 9) #[true,true,true,true,true,true,true,false,false] rfl rfl (one_of HT_.out (by kernel_rfl)) (by decide) (fun K hK => ?_); refine Kd.R_lit_step (Kd.int .u8) _ 5 ?hg (N := 9) ?hd (xs := ([37, bt (⟨#[48, 49, 50, 51, 52, 53, 54, 55, 56, 57, 65, 66, 67, 68, 69, 70]⟩ : ByteArray) (ji2), bt (⟨#[48, 49, 50, 51, 52, 53, 54, 55, 56, 57, 65, 66, 67, 68, 69, 70]⟩ : ByteArray) (Go.bits .and .u8 a0 15)] : List Int)) (inner := [.int .u8 37, .int .u8 (bt (⟨#[48, 49, 50, 51, 52, 53, 54, 55, 56, 57, 65, 66, 67, 68, 69, 70]⟩ : ByteArray) (ji2)), .int .u8 (bt (⟨#[48, 49, 50, 51, 52, 53, 54, 55, 56, 57, 65, 66, 67, 68, 69, 70]⟩ : ByteArray) (Go.bits .and .u8 a0 15))]) (ok := fun _ => True) (okp := fun _ => True) ?hr ?hp (fun _ hk => hk) trivial (Below.refl _ _) (Nat.le_refl _) (by simp) ?_; (case hd => rfl); (case hg => rfl); (case hr => first | (go_simp; done) | (go_simp; rfl)); (case hp => exact (Reps.one (show Kd.M (Kd.int .u8) _ _ _ 37 [.int .u8 37] from rfl) (Reps.one (show Kd.M (Kd.int .u8) _ _ _ (bt (⟨#[48, 49, 50, 51, 52, 53, 54, 55, 56, 57, 65, 66, 67, 68, 69, 70]⟩ : ByteArray) (ji2)) [.int .u8 (bt (⟨#[48, 49, 50, 51, 52, 53, 54, 55, 56, 57, 65, 66, 67, 68, 69, 70]⟩ : ByteArray) (ji2))] from rfl) (Reps.one (show Kd.M (Kd.int .u8) _ _ _ (bt (⟨#[48, 49, 50, 51, 52, 53, 54, 55, 56, 57, 65, 66, 67, 68, 69, 70]⟩ : ByteArray) (Go.bits .and .u8 a0 15)) [.int .u8 (bt (⟨#[48, 49, 50, 51, 52, 53, 54, 55, 56, 57, 65, 66, 67, 68, 69, 70]⟩ : ByteArray) (Go.bits .and .u8 a0 15))] from rfl) (Reps.none _ _))))); intro v102 w10 ho11 hb hg_ hnew_; clear hg_ hnew_; (first | rw [← Ny101.out] at ho11 | (simp only [Int.reduceToNat] at ho11; rw [← Ny101.out] at ho11)); have HO103 := rlq (w := w) ho11; replace HB := Aside0.mk (below_step bq hb); clear hb ho11; refine hK.out _ _ trivial (fun hHeld => ?_); clear hK K; refine norm_ (a' := ?_) ?_ ?_; rotate_left
 ·show Act.put _ (some 9) _ = _; simp only [Act.put, List.setIfInBounds_toArray, List.set_cons_zero, List.set_cons_succ, i64_w, i32_w]; rfl
 refine one_ (i := 7) (N := some 10) #[true,true,true,true,true,true,true,true,false] rfl rfl (one_of HT_.out (by kernel_rfl)) (by decide) (fun K hK => ?_); have hcv12 := own_string (P := Tryz.prog) Tryz.underlying87 Tryz.underlying5 Tryz.underlying9 (Kd.own_of_R HO103.out); refine value_ (w1 := ?_) (v := ?_) (by rfl) rfl ?_ ?_; rotate_left 2
 ·go_simp; constructor
  ·rfl
  ·rfl
 clear hcv12; refine hK.out _ _ trivial (fun hHeld => ?_); clear hK K; refine norm_ (a' := ?_) ?_ ?_; rotate_left
 ·show Act.put _ (some 10) _ = _; simp only [Act.put, List.setIfInBounds_toArray, List.set_cons_zero, List.set_cons_succ, i64_w, i32_w]; rfl
 refine pure_ (i := 8) (N := some 2) (v := ?_) (a' := ?_) #[true,true,true,true,true,true,true,true,true] rfl rfl (any_of HT_.out (by kernel_rfl)) (fun _ _ _ h => h) (Or.inl ⟨by rfl, ?_⟩) ?_ ?_; rotate_left
 ·intro w'; go_simp; with_reducible rfl
 rotate_left
 ·simp only [Act.put, List.setIfInBounds_toArray, List.set_cons_zero, List.set_cons_succ, i64_w, i32_w]; rfl
 refine done_ (done_of HT_.out (by kernel_rfl)) ?_; try go_wp2
 go_ret; exact ⟨by first | rfl | (simp [errW_none, errW_some] <;> rfl) | (simp only [← hji2]; first | rfl | (simp [errW_none, errW_some] <;> rfl)) | (simp [*, errW_none, errW_some] <;> rfl) | (simp [nen, een]; done), bq⟩
def impl_isLetter.f (a0 : Int) : Option (Bool) := if a0 ≥ 97 then (if a0 ≤ 122 then (some true) else (if a0 ≥ 65 then (some (decide (a0 ≤ 90))) else (some false))) else (if a0 ≥ 65 then (some (decide (a0 ≤ 90))) else (some false))
theorem impl_isLetter.calls (a0 : Int) (r : Bool) (w : World) (h : impl_isLetter.f a0 = some r) :
  Calls Tryz.prog 119 #[.int .u8 a0] w fun e w' => e = .returned (.bool r) ∧ Drawn0 w w' := by
 unfold impl_isLetter.f at h; revert h; refine iDq (fun c2b0 => ?_) fun c2b0 => ?_
 ·refine iDq (fun c3b0 => ?_) fun c3b0 => ?_
  ·refine siq ?_; rintro rfl; go_enter Tryz.func119, Tryz.ntmps119; go_wp2; go_ret; exact ⟨vq, dq⟩
  refine iDq (fun c4b0 => ?_) fun c4b0 => ?_
  ·refine siq ?_; rintro rfl; go_enter Tryz.func119, Tryz.ntmps119; go_wp2; go_ret; exact ⟨vq, dq⟩
  refine siq ?_; rintro rfl; go_enter Tryz.func119, Tryz.ntmps119; go_wp2; go_ret; exact ⟨vq, dq⟩
 refine iDq (fun c5b0 => ?_) fun c5b0 => ?_
 ·refine siq ?_; rintro rfl; go_enter Tryz.func119, Tryz.ntmps119; go_wp2; go_ret; exact ⟨vq, dq⟩
 refine siq ?_; rintro rfl; go_enter Tryz.func119, Tryz.ntmps119; go_wp2; go_ret; exact ⟨vq, dq⟩
def impl_isLetter.Pure : Prop := ∀ (a0 : Int), (Lit.int .u8 a0).wf = true → impl_isLetter.f a0 = some true
theorem impl_isLetter.walk (P : impl_isLetter.Pure) (a0 : Int) (w : World) (w0 : (Lit.int .u8 a0).wf = true) :
  Calls Tryz.prog 119 #[.int .u8 a0] w fun e w' => e = .returned (.bool true) ∧ Below w.heap.size w w' := by
 have h := P a0 w0
 refine (impl_isLetter.calls a0 true w h).mono ?_
 rintro e w' ⟨rfl, hd⟩
 exact ⟨rfl, hd.below⟩
def impl_isDigit.f (a0 : Int) : Option (Bool) := if a0 ≥ 48 then (some (decide (a0 ≤ 57))) else (some false)
theorem impl_isDigit.calls (a0 : Int) (r : Bool) (w : World) (h : impl_isDigit.f a0 = some r) :
  Calls Tryz.prog 107 #[.int .u8 a0] w fun e w' => e = .returned (.bool r) ∧ Drawn0 w w' := by
 unfold impl_isDigit.f at h; revert h; refine iDq (fun c2b0 => ?_) fun c2b0 => ?_
 ·refine siq ?_; rintro rfl; go_enter Tryz.func107, Tryz.ntmps107; go_wp2; go_ret; exact ⟨vq, dq⟩
 refine siq ?_; rintro rfl; go_enter Tryz.func107, Tryz.ntmps107; go_wp2; go_ret; exact ⟨vq, dq⟩
def impl_isDigit.Pure : Prop := ∀ (a0 : Int), (Lit.int .u8 a0).wf = true → impl_isDigit.f a0 = some true
theorem impl_isDigit.walk (P : impl_isDigit.Pure) (a0 : Int) (w : World) (w0 : (Lit.int .u8 a0).wf = true) :
  Calls Tryz.prog 107 #[.int .u8 a0] w fun e w' => e = .returned (.bool true) ∧ Below w.heap.size w w' := by
 have h := P a0 w0
 refine (impl_isDigit.calls a0 true w h).mono ?_
 rintro e w' ⟨rfl, hd⟩
 exact ⟨rfl, hd.below⟩
end Go.Proofs.YtndobphgeiamhaaGreatDoor.Lf
/- impl.Lower: the call comes to the text with its capital letters made small, for every text of at most 2^47 bytes. · impl.PathPut: the call comes to each segment with a slash ahead, if that takes at most 2^47 bytes. · impl.hex and impl.Decode: the calls come to the figure's number, and to the decoded text ("" past 600 bytes), for every argument. · impl.percent, impl.isLetter, impl.isDigit, strings.IndexByte: what their calls come to, for every byte. · impl.encode: the call comes to the text with the set's bytes, and all that is not plain, told by percent; if that takes at most 2^47 bytes; impl.sets reads as its table. -/
namespace Go.Proofs.YtndobphgeiamhaaGreatDoor.H
open Go.RowKit Go.Proofs.YtndobphgeiamhaaGreatDoorW.PrintWords Go.Proofs.YtndobphgeiamhaaGreatDoor.Base

def lowB (c : UInt8) : UInt8 := if 65 ≤ c.toNat ∧ c.toNat ≤ 90 then c + 32 else c
def lower (l : Bs) : Bs := l.map lowB
def lowK (l : Bs) (k : Nat) : Bs := (l.take k).map lowB ++ l.drop k
theorem lowK_length (l : Bs) (k : Nat) : (lowK l k).length = l.length := by simp [lowK]; omega
theorem lowK_zero (l : Bs) : lowK l 0 = l := by simp [lowK]
theorem lowK_all (l : Bs) (k : Nat) (h : l.length ≤ k) : lowK l k = lower l := by simp [lowK, lower, List.take_of_length_le h, List.drop_eq_nil_of_le h]
theorem lowK_get (l : Bs) (k : Nat) (h : k < l.length) (h' : k < (lowK l k).length) : (lowK l k)[k] = l[k] := by
 simp only [lowK]
 rw [List.getElem_append_right (by simp; omega)]
 simp [Nat.min_eq_left (Nat.le_of_lt h)]
theorem lowK_succ (l : Bs) (k : Nat) (h : k < l.length) : lowK l (k + 1) = (lowK l k).set k (lowB l[k]) := by
 have hm : ((l.take k).map lowB).length = k := by simp; omega
 simp only [lowK]
 rw [List.take_succ_eq_append_getElem h, List.map_append, List.set_append_right (h := by omega), hm, Nat.sub_self, List.drop_eq_getElem_cons h]
 simp only [List.map_cons, List.map_nil, List.append_assoc, List.singleton_append, List.set_cons_zero]
theorem lowK_same (l : Bs) (k : Nat) (h : k < l.length) (hc : ¬ (65 ≤ l[k].toNat ∧ l[k].toNat ≤ 90)) : lowK l (k + 1) = lowK l k := by
 rw [lowK_succ l k h]
 have e : lowB l[k] = (lowK l k)[k]'(by rw [lowK_length]; exact h) := by rw [lowK_get l k h]; simp [lowB, hc]
 rw [e, List.set_getElem_self]
set_option maxHeartbeats 1000000 in
set_option maxRecDepth 100000 in
theorem lower_walk (l : Bs) (w : World) (hl : l.length ≤ 140737488355328) :
  Calls Tryz.prog 120 #[.string (B l)] w fun e w' => e = .returned (.string (B (lower l))) ∧ Below w.heap.size w w' := by
 have hconv := fun W => Lib.run_convert_string_bytes (P := Tryz.prog) W 9 87 5 (B l) Tryz.underlying9 Tryz.underlying87 Tryz.underlying5
 have hback := fun (W : World) (k : Nat) (c : Nat) (h : BRow W w.heap.size (lowK l k)) => h.string (c := c) (P := Tryz.prog) (by rw [lowK_length]; omega) Tryz.underlying87 Tryz.underlying5 Tryz.underlying9
 go_enter Tryz.func120, Tryz.ntmps120
 go_wp2
 go_loopw [10] (fun i wr => ∃ k : Nat, k ≤ l.length ∧ i = .int .i64 k ∧ BRow wr w.heap.size (lowK l k) ∧ Below w.heap.size w wr) (fun i _ => l.length - (intOf i).toNat)
 case atStart => exact ⟨0, Nat.zero_le _, rfl, by rw [lowK_zero]; exact BRow.start w 5 l, bytes_below (Below.refl _ _) (Nat.le_refl _) _ _⟩
 case round =>
  obtain ⟨k, hk, rfl, hrow, hb⟩ := hrel
  by_cases hlt : k < l.length
  ·have hc := (hrow k (by rw [lowK_length]; exact hlt)).1
   have hf := (hrow k (by rw [lowK_length]; exact hlt)).2
   rw [lowK_get l k hlt] at hc
   have hs := lowK_succ l k hlt
   have hcap : ∀ h1 : 65 ≤ (l[k].toNat : Int), ∀ h2 : (l[k].toNat : Int) ≤ 90, ((l[k].toNat : Int) + 97 - 65) = ((lowB l[k]).toNat : Int) := by
    intro h1 h2
    unfold lowB
    rw [if_pos (by omega)]
    simp; omega
   have HS := Lib.hid hs; have HC := Lib.hid hcap
   clear hs hcap
   go_wp2
   ·go_roundw
    case rel =>
     refine ⟨k + 1, by omega, by go_num, ?_, hb.setCell (Nat.le_refl _) _⟩
     rw [HC.out (by assumption) (by assumption), HS.out]
     exact hrow.set k _ (by rw [lowK_length]; exact hlt)
    case measure => simp [intOf]; omega
   all_goals
    go_roundw
    case rel => exact ⟨k + 1, by omega, by go_num, by rw [lowK_same l k hlt (by omega)]; exact hrow, hb⟩
    case measure => simp [intOf]; omega
  ·obtain rfl : k = l.length := by omega
   have hcv := hback wr l.length (grownCap w l.length 0 5) hrow
   rw [lowK_length, lowK_all l _ (Nat.le_refl _)] at hcv
   have hb' := Lib.hid hb
   clear hb hback
   go_wp2
   go_ret
   exact ⟨rfl, hb'.out⟩
def impl_Lower.f (a0 : ByteArray) : Option (ByteArray) := if a0.size ≤ 140737488355328 then some (B (lower a0.data.toList)) else none
theorem impl_Lower.calls (a0 : ByteArray) (r : ByteArray) (w : World) (h : impl_Lower.f a0 = some r) :
  Calls Tryz.prog 120 #[.string a0] w fun e w' => e = .returned (.string r) ∧ Below w.heap.size w w' := by
 unfold impl_Lower.f at h
 by_cases c : a0.size ≤ 140737488355328
 ·rw [if_pos c] at h
  obtain ⟨l, rfl⟩ := exB a0
  obtain rfl := Option.some.inj h
  rw [B_data]
  exact lower_walk l w (by simpa using c)
 ·rw [if_neg c] at h; cases h
end Go.Proofs.YtndobphgeiamhaaGreatDoor.H
set_option linter.unusedVariables false
namespace Go.Proofs.YtndobphgeiamhaaGreatDoor.H
open Go.RowKit Go.Proofs.YtndobphgeiamhaaGreatDoorW.PrintWords Go.Proofs.YtndobphgeiamhaaGreatDoor.Base

def pathPut (ls : List Bs) : Bs := (ls.map fun s => 47 :: s).flatten
theorem pathPut_snoc (ls : List Bs) (s : Bs) : pathPut (ls ++ [s]) = pathPut ls ++ 47 :: s := by simp [pathPut]
theorem pathPut_take (ls : List Bs) (k : Nat) (h : k < ls.length) : pathPut (ls.take (k + 1)) = pathPut (ls.take k) ++ 47 :: ls[k] := by
 rw [List.take_succ_eq_append_getElem h, pathPut_snoc]
theorem pathPut_mono (ls : List Bs) (k : Nat) : (pathPut (ls.take k)).length ≤ (pathPut ls).length := by
 conv => rhs; rw [← List.take_append_drop k ls]
 unfold pathPut
 rw [List.map_append, List.flatten_append, List.length_append]; omega
theorem pp_app (a b : Bs) : Lib.byteCells (a ++ b) = Lib.byteCells a ++ Lib.byteCells b := by simp [Lib.byteCells]
theorem pp_len (a : Bs) : (Lib.byteCells a).length = a.length := by simp [Lib.byteCells]
def segs (l : List ByteArray) : List Bs := l.map fun s => s.data.toList
set_option maxHeartbeats 1000000 in
set_option maxRecDepth 100000 in
theorem pathPut_walk (A0 : Option Addr) (c0 : Nat) (l0 : List ByteArray) (w : World) (hr0 : Kd.C Kd.string w A0 l0.length l0) (hc0 : l0.length ≤ c0) (hm : l0.length ≤ 140737488355328) (hl : (pathPut (segs l0)).length ≤ 140737488355328) :
  Calls Tryz.prog 77 #[.slice A0 l0.length c0] w fun e w' => e = .returned (.string (B (pathPut (segs l0)))) ∧ Below w.heap.size w w' := by
 have hb0 : Lib.IsBuilder 89 5 w.heap.size w.heap.size [] (w.alloc (.cells #[.pointer none, .slice none 0 0] 89)) := Lib.fresh_isBuilder 89 5 w
 have hw0 : Below w.heap.size w (w.alloc (.cells #[.pointer none, .slice none 0 0] 89)) := (Below.refl _ w).alloc (Nat.le_refl _) _
 have HR := Lib.hid hr0
 clear hr0
 have hsl : (segs l0).length = l0.length := by simp [segs]
 go_enter Tryz.func77, Tryz.ntmps77
 go_wp2
 go_loopw [8] (fun i wr => ∃ k : Nat, k ≤ l0.length ∧ i = .int .i64 k ∧ Lib.IsBuilder 89 5 w.heap.size w.heap.size (Lib.byteCells (pathPut ((segs l0).take k))) wr ∧ Below w.heap.size w wr) (fun i _ => l0.length - (intOf i).toNat)
 case atStart => exact ⟨0, by omega, rfl, hb0, hw0⟩
 case round =>
  obtain ⟨k, hk, rfl, hbld, hb⟩ := hrel
  by_cases hlt : k < l0.length
  ·have hst := pathPut_take (segs l0) k (by omega)
   have hmo := pathPut_mono (segs l0) (k + 1)
   have hln : (segs l0)[k]'(by omega) = l0[k].data.toList := by simp [segs]
   rw [hln] at hst
   have hmx : (pathPut ((segs l0).take k)).length + (47 :: l0[k].data.toList).length ≤ 140737488355328 := by
    rw [hst, List.length_append] at hmo; omega
   obtain ⟨ad, e0, hcell⟩ := Kd.at_string (Kd.C_below HR.out hb) (k : Int) (by omega) (by omega)
   have hrd : rdOf ByteArray.empty l0 (k : Int) = l0[k] := by unfold rdOf; rw [Int.toNat_natCast, List.getD_eq_getElem?_getD, List.getElem?_eq_getElem hlt]; rfl
   rw [hrd, Int.toNat_natCast] at hcell
   obtain ⟨q, hq⟩ := exB l0[k]
   rw [hq] at hcell
   have hmx : (pathPut ((segs l0).take k)).length + (47 :: q).length ≤ 140737488355328 := by
    rw [hq, B_data] at hmx; exact hmx
   rw [hq, B_data] at hst
   have hdot : (⟨#[47]⟩ : ByteArray) ++ B q = B (47 :: q) := by rw [lit_B [47], B_append]; rfl
   have hwr : w.heap.size ≤ wr.heap.size := hb.size
   have hsz : (B q).size ≤ 140737488355328 := by rw [B_size]; simp at hmx; omega
   have hno : ¬ 9223372036854775807 < 1 + (B q).size := by omega
   have HS := Lib.hid hst
   have HD := Lib.hid hdot
   have HB := Lib.hid hbld
   clear hst hrd hln hmo hq hdot hbld
   subst e0
   go_wp2_with (go_at_call 87; go_loud (refine (Builder_WriteString w.heap.size w.heap.size _ _ _ HB.out (by rw [HD.out]; simpa [pp_len] using hmx) hwr).mono ?_; rintro e w5 ⟨rfl, h1, hb6⟩))
   go_roundw
   case rel => exact ⟨k + 1, by omega, by go_num, Or.inr (by rw [HD.out] at h1; rw [HS.out, pp_app]; exact h1), hb.trans hb6⟩
   case measure => simp [intOf]; omega
  ·obtain rfl : k = l0.length := by omega
   have hwr : w.heap.size ≤ wr.heap.size := hb.size
   rw [List.take_of_length_le (by omega)] at hbld
   go_wp2_with (go_at_call 88; go_loud (refine (Tryz.Builder_String_any w.heap.size w.heap.size (pathPut (segs l0)) wr hbld hwr).mono ?_; rintro e w1 ⟨rfl, hb1⟩))
   go_ret
   exact ⟨rfl, hb.trans hb1⟩
def impl_PathPut.f (l0 : List ByteArray) : Option (ByteArray) := if l0.length ≤ 140737488355328 ∧ (pathPut (segs l0)).length ≤ 140737488355328 then some (B (pathPut (segs l0))) else none
theorem impl_PathPut.calls (A0 : Option Addr) (c0 : Nat) (l0 : List ByteArray) (r : ByteArray) (w : World) (hr0 : Kd.C Kd.string w A0 l0.length l0) (hc0 : l0.length ≤ c0) (h : impl_PathPut.f l0 = some r) :
  Calls Tryz.prog 77 #[.slice A0 l0.length c0] w fun e w' => e = .returned (.string r) ∧ Below w.heap.size w w' := by
 unfold impl_PathPut.f at h
 split at h
 ·rename_i c
  obtain rfl := Option.some.inj h
  exact pathPut_walk A0 c0 l0 w hr0 hc0 c.1 c.2
 ·cases h
end Go.Proofs.YtndobphgeiamhaaGreatDoor.H
namespace Go.Proofs.YtndobphgeiamhaaGreatDoor.H
open Go.RowKit Go.Proofs.YtndobphgeiamhaaGreatDoorW.PrintWords Go.Proofs.YtndobphgeiamhaaGreatDoor.Base

theorem ret_int {k : IntKind} {a b : Int} (h : a = b) : Ending.returned (.int k a) = .returned (.int k b) := by rw [h]
theorem hex_walk (c : UInt8) (w : World) : Calls Tryz.prog 134 #[.int .u8 ((c.toNat : Nat) : Int)] w fun e w' => e = .returned (.int .i64 (hexI c)) ∧ w' = w := by
 obtain ⟨n, hn, hN⟩ : ∃ n : Int, n = hexI c ∧ Hid (n = hexI c) := ⟨_, rfl, Lib.hid rfl⟩
 have h255 : ((c.toNat : Nat) : Int) ≤ 255 := by have := lt256 c; omega
 rw [← hn]
 have h1 : 48 ≤ c.toNat ∧ c.toNat ≤ 57 → n = (c.toNat : Int) - 48 := fun h => by rw [hn]; unfold hexI; rw [if_pos h]
 have h2 : ¬ (48 ≤ c.toNat ∧ c.toNat ≤ 57) → 97 ≤ c.toNat ∧ c.toNat ≤ 102 → n = (c.toNat : Int) - 87 := fun h h' => by rw [hn]; unfold hexI; rw [if_neg h, if_pos h']
 have h3 : ¬ (48 ≤ c.toNat ∧ c.toNat ≤ 57) → ¬ (97 ≤ c.toNat ∧ c.toNat ≤ 102) → 65 ≤ c.toNat ∧ c.toNat ≤ 70 → n = (c.toNat : Int) - 55 := fun h h' h'' => by rw [hn]; unfold hexI; rw [if_neg h, if_neg h', if_pos h'']
 have h4 : ¬ (48 ≤ c.toNat ∧ c.toNat ≤ 57) → ¬ (97 ≤ c.toNat ∧ c.toNat ≤ 102) → ¬ (65 ≤ c.toNat ∧ c.toNat ≤ 70) → n = -1 := fun h h' h'' => by rw [hn]; unfold hexI; rw [if_neg h, if_neg h', if_neg h'']
 have H1 := Lib.hid h1; have H2 := Lib.hid h2; have H3 := Lib.hid h3; have H4 := Lib.hid h4
 clear h1 h2 h3 h4 hn
 go_enter Tryz.func134, Tryz.ntmps134
 go_wp2
 all_goals
  go_ret
  refine ⟨ret_int ?_, rfl⟩
  have a1 := H1.out
  have a2 := H2.out
  have a3 := H3.out
  have a4 := H4.out
  omega
theorem cells_snoc (D : Bs) (c : UInt8) : Lib.byteCells (D ++ [c]) = Lib.byteCells D ++ [.int .u8 ((c.toNat : Nat) : Int)] := by simp [Lib.byteCells]
set_option maxHeartbeats 1000000 in
set_option maxRecDepth 100000 in
theorem decode_walk (l : Bs) (w : World) (hl : l.length ≤ 600) :
  Calls Tryz.prog 127 #[.string (B l)] w fun e w' => e = .returned (.string (B (pctDec l))) ∧ Below w.heap.size w w' := by
 have hb0 : Lib.IsBuilder 89 5 w.heap.size w.heap.size (Lib.byteCells []) (w.alloc (.cells #[.pointer none, .slice none 0 0] 89)) := Lib.fresh_isBuilder 89 5 w
 have hw0 : Below w.heap.size w (w.alloc (.cells #[.pointer none, .slice none 0 0] 89)) := (Below.refl _ w).alloc (Nat.le_refl _) _
 go_enter Tryz.func127, Tryz.ntmps127
 go_wp2
 go_loopw [4] (fun i wr => ∃ (k : Nat) (D : Bs), k ≤ l.length ∧ i = .int .i64 k ∧ D.length ≤ k ∧ Hid (D ++ pctDec (l.drop k) = pctDec l) ∧ Lib.IsBuilder 89 5 w.heap.size w.heap.size (Lib.byteCells D) wr ∧ Below w.heap.size w wr) (fun i _ => l.length - (intOf i).toNat)
 case atStart => exact ⟨0, [], by omega, rfl, by simp, Lib.hid (by simp), hb0, hw0⟩
 case round =>
  obtain ⟨k, D, hk, rfl, hD, HE, hbld, hb⟩ := hrel
  by_cases hlt : k < l.length
  ·have hz : (l.length : Int) ≤ 600 := by omega
   have hwr : w.heap.size ≤ wr.heap.size := hb.size
   have hst := decode_at l k hlt
   by_cases c0 : l[k] = 37
   ·have c0a : ((l[k].toNat : Nat) : Int) = 37 := by rw [c0]; rfl
    have c0b : (((l[k].toNat : Nat) : Int) == 37) = true := by rw [c0a]; rfl
    clear c0a
    by_cases c1 : k + 2 < l.length
    ·have x1 := hex_walk l[k + 1]
     have x2 := hex_walk l[k + 2]
     have k1 : (k : Int) + 2 < (l.length : Int) := by omega
     have k0 : (k : Int) + 1 < (l.length : Int) := by omega
     by_cases c2 : 0 ≤ hexI l[k + 1]
     ·have c2a : decide (0 ≤ hexI l[k + 1]) = true := decide_eq_true c2
      by_cases c3 : 0 ≤ hexI l[k + 2]
      ·have c3a : decide (0 ≤ hexI l[k + 2]) = true := decide_eq_true c3
       have r1 := hexI_rng l[k + 1]
       have r2 := hexI_rng l[k + 2]
       have he : escAt l k = true := by unfold escAt; rw [get_eq hlt, get_eq (show k + 1 < l.length by omega), get_eq c1]; simp [c0, c1, c2, c3]
       rw [he, if_pos rfl, get_eq (show k + 1 < l.length by omega), get_eq c1] at hst
       have HS := Lib.hid hst
       have HV : Hid ((16 * hexI l[k + 1] + hexI l[k + 2]) % 256 = ((escByte l[k + 1] l[k + 2]).toNat : Int)) := Lib.hid (by
        rw [escByte_val l[k + 1] l[k + 2] c2 c3]; omega)
       clear hst he c0 c2 c3
       go_wp2_with fail
       refine (x1 _).mono ?_
       rintro e w' ⟨rfl, rfl⟩
       go_wp2_with fail
       refine (x2 _).mono ?_
       rintro e w' ⟨rfl, rfl⟩
       go_wp2_with fail
       have hw1 : IntKind.i64.wrap ((k : Int) + 1) = (k : Int) + 1 := by rw [i64wrap]; exact w64 (by omega) (by omega)
       have hw2 : IntKind.i64.wrap ((k : Int) + 2) = (k : Int) + 2 := by rw [i64wrap]; exact w64 (by omega) (by omega)
       have hw3 : IntKind.i64.wrap (16 * hexI l[k + 1]) = 16 * hexI l[k + 1] := by rw [i64wrap]; exact w64 (by omega) (by omega)
       have hw4 : IntKind.i64.wrap (16 * hexI l[k + 1] + hexI l[k + 2]) = 16 * hexI l[k + 1] + hexI l[k + 2] := by rw [i64wrap]; exact w64 (by omega) (by omega)
       have ht1 : ((k : Int) + 1).toNat = k + 1 := by omega
       have ht2 : ((k : Int) + 2).toNat = k + 2 := by omega
       have hp1 : 0 ≤ (k : Int) + 1 := by omega
       have hp2 : 0 ≤ (k : Int) + 2 := by omega
       go_still_tail 13, (by kernel_rfl)
       still_call (x1 _)
       repeat still_step
       still_call (x2 _)
       repeat still_step
       refine wpStill_nil ?_
       have hbld1 : Lib.IsBuilder 89 5 w.heap.size w.heap.size (Lib.byteCells D) w'.drew := hbld
       have hb1 : Below w.heap.size w w'.drew := hb.drew
       have hwr1 : w.heap.size ≤ w'.drew.heap.size := hwr
       change wpList _ _ _ _ _ w'.drew
       generalize w'.drew = w2 at hbld1 hb1 hwr1 ⊢
       clear hbld hb hwr
       go_wp2_with fail
       refine (Builder_WriteByte w.heap.size w.heap.size (Lib.byteCells D) _ _ hbld1 (by simp [Lib.byteCells]; omega) hwr1).mono ?_
       rintro e w1 ⟨rfl, h1, hb2⟩
       rw [HV.out] at h1
       go_wp2
       go_roundw
       case rel => exact ⟨k + 3, D ++ [escByte l[k + 1] l[k + 2]], by omega, by go_num, by simp; omega, Lib.hid (by rw [← HE.out, HS.out]; simp), Or.inr (by rw [cells_snoc]; exact h1), hb1.trans hb2⟩
       case measure => simp [intOf]; omega
      ·have c3a : decide (0 ≤ hexI l[k + 2]) = false := decide_eq_false c3
       have he : escAt l k = false := by unfold escAt; rw [get_eq hlt, get_eq (show k + 1 < l.length by omega), get_eq c1]; simp [c0, c1, c2, c3]
       rw [he, if_neg (by simp)] at hst
       have HS := Lib.hid hst
       clear hst he c0 c2 c3
       go_wp2_with fail
       refine (x1 _).mono ?_
       rintro e w' ⟨rfl, rfl⟩
       go_wp2_with fail
       refine (x2 _).mono ?_
       rintro e w' ⟨rfl, rfl⟩
       go_wp2_with (go_at_call 124; refine (Builder_WriteByte w.heap.size w.heap.size (Lib.byteCells D) _ _ hbld (by simp [Lib.byteCells]; omega) hwr).mono ?_; rintro e w1 ⟨rfl, h1, hb1⟩)
       go_roundw
       case rel => exact ⟨k + 1, D ++ [l[k]], by omega, by go_num, by simp; omega, Lib.hid (by rw [← HE.out, HS.out]; simp), Or.inr (by rw [cells_snoc]; exact h1), hb.trans hb1⟩
       case measure => simp [intOf]; omega
     ·have c2a : decide (0 ≤ hexI l[k + 1]) = false := decide_eq_false c2
      have he : escAt l k = false := by unfold escAt; rw [get_eq hlt, get_eq (show k + 1 < l.length by omega), get_eq c1]; simp [c0, c1, c2]
      rw [he, if_neg (by simp)] at hst
      have HS := Lib.hid hst
      clear hst he c0 c2
      go_wp2_with fail
      refine (x1 _).mono ?_
      rintro e w' ⟨rfl, rfl⟩
      go_wp2_with (go_at_call 124; refine (Builder_WriteByte w.heap.size w.heap.size (Lib.byteCells D) _ _ hbld (by simp [Lib.byteCells]; omega) hwr).mono ?_; rintro e w1 ⟨rfl, h1, hb1⟩)
      go_roundw
      case rel => exact ⟨k + 1, D ++ [l[k]], by omega, by go_num, by simp; omega, Lib.hid (by rw [← HE.out, HS.out]; simp), Or.inr (by rw [cells_snoc]; exact h1), hb.trans hb1⟩
      case measure => simp [intOf]; omega
    ·have k1 : ¬ ((k : Int) + 2 < (l.length : Int)) := by omega
     have he : escAt l k = false := by unfold escAt; simp [c1]
     rw [he, if_neg (by simp)] at hst
     have HS := Lib.hid hst
     clear hst he c0
     go_wp2_with (go_at_call 124; refine (Builder_WriteByte w.heap.size w.heap.size (Lib.byteCells D) _ _ hbld (by simp [Lib.byteCells]; omega) hwr).mono ?_; rintro e w1 ⟨rfl, h1, hb1⟩)
     go_roundw
     case rel => exact ⟨k + 1, D ++ [l[k]], by omega, by go_num, by simp; omega, Lib.hid (by rw [← HE.out, HS.out]; simp), Or.inr (by rw [cells_snoc]; exact h1), hb.trans hb1⟩
     case measure => simp [intOf]; omega
   ·have c0b : (((l[k].toNat : Nat) : Int) == 37) = false := by
     rw [beq_eq_false_iff_ne]; intro e; exact c0 ((byte_eq _ 37 (by decide)).1 e)
    have he : escAt l k = false := by unfold escAt; rw [get_eq hlt]; simp [c0]
    rw [he, if_neg (by simp)] at hst
    have HS := Lib.hid hst
    clear hst he c0
    go_wp2_with (go_at_call 124; refine (Builder_WriteByte w.heap.size w.heap.size (Lib.byteCells D) _ _ hbld (by simp [Lib.byteCells]; omega) hwr).mono ?_; rintro e w1 ⟨rfl, h1, hb1⟩)
    go_roundw
    case rel => exact ⟨k + 1, D ++ [l[k]], by omega, by go_num, by simp; omega, Lib.hid (by rw [← HE.out, HS.out]; simp), Or.inr (by rw [cells_snoc]; exact h1), hb.trans hb1⟩
    case measure => simp [intOf]; omega
  ·obtain rfl : k = l.length := by omega
   have hD' : D = pctDec l := by have := HE.out; rw [List.drop_length, decode_nil, List.append_nil] at this; exact this
   have hwr : w.heap.size ≤ wr.heap.size := hb.size
   rw [hD'] at hbld
   clear hD' HE
   go_wp2_with (go_at_call 88; refine (Tryz.Builder_String_any w.heap.size w.heap.size (pctDec l) wr hbld hwr).mono ?_; rintro e w1 ⟨rfl, hb1⟩)
   go_ret
   exact ⟨rfl, hb.trans hb1⟩
theorem decode_far (l : Bs) (w : World) (hl : ¬ l.length ≤ 600) :
  Calls Tryz.prog 127 #[.string (B l)] w fun e w' => e = .returned (.string (B [])) ∧ Below w.heap.size w w' := by
 have h1 : decide (600 < (l.length : Int)) = true := decide_eq_true (by omega)
 go_enter Tryz.func127, Tryz.ntmps127
 go_wp2
 go_ret
 exact ⟨rfl, Below.refl _ _⟩
def decodeMax (l : Bs) : Bs := if l.length ≤ 600 then pctDec l else []
def impl_Decode.f (a0 : ByteArray) : Option (ByteArray) := some (B (decodeMax a0.data.toList))
theorem impl_Decode.calls (a0 : ByteArray) (r : ByteArray) (w : World) (h : impl_Decode.f a0 = some r) :
  Calls Tryz.prog 127 #[.string a0] w fun e w' => e = .returned (.string r) ∧ Below w.heap.size w w' := by
 obtain ⟨l, rfl⟩ := exB a0
 unfold impl_Decode.f decodeMax at h
 rw [B_data] at h
 obtain rfl := Option.some.inj h
 by_cases c : l.length ≤ 600
 ·rw [if_pos c]; exact decode_walk l w c
 ·rw [if_neg c]; exact decode_far l w c
end Go.Proofs.YtndobphgeiamhaaGreatDoor.H
namespace Go.Proofs.YtndobphgeiamhaaGreatDoor.H
open Go.RowKit Go.Proofs.YtndobphgeiamhaaGreatDoorW.PrintWords Go.Proofs.YtndobphgeiamhaaGreatDoor.Base
theorem fig_bt (n : Nat) : bt (⟨#[48, 49, 50, 51, 52, 53, 54, 55, 56, 57, 65, 66, 67, 68, 69, 70]⟩ : ByteArray) ((n : Nat) : Int) = (((fig n).toNat : Nat) : Int) := by
 have : (⟨#[48, 49, 50, 51, 52, 53, 54, 55, 56, 57, 65, 66, 67, 68, 69, 70]⟩ : ByteArray) = B figs := rfl
 rw [this, bt_B, Int.toNat_natCast]; rfl
theorem percent_some (c : UInt8) : Lf.impl_percent.f ((c.toNat : Nat) : Int) = some (B (pct c)) := by
 have h := lt256 c
 unfold Lf.impl_percent.f
 have e1 : (((c.toNat : Nat) : Int) / 16) = ((c.toNat / 16 : Nat) : Int) := rfl
 have e2 : Go.bits .and .u8 ((c.toNat : Nat) : Int) 15 = ((c.toNat % 16 : Nat) : Int) := by
  rw [u8_and15 _ (by omega) (by omega)]; rfl
 rw [e1, e2, if_pos (by omega), if_pos (by omega), if_pos (by omega), if_pos (by omega), fig_bt, fig_bt]
 exact congrArg some (str_ns (pct c))
theorem percent_walk (c : UInt8) (w : World) : Calls Tryz.prog 123 #[.int .u8 ((c.toNat : Nat) : Int)] w fun e w' => e = .returned (.string (B (pct c))) ∧ Below w.heap.size w w' :=
 Lf.impl_percent.calls _ _ w (percent_some c)
theorem isLetter_walk (c : UInt8) (w : World) : Calls Tryz.prog 119 #[.int .u8 ((c.toNat : Nat) : Int)] w fun e w' => e = .returned (.bool (isLet c)) ∧ Drawn0 w w' := by
 refine Lf.impl_isLetter.calls _ _ w ?_
 unfold Lf.impl_isLetter.f isLet
 by_cases h1 : ((c.toNat : Nat) : Int) ≥ 97
 ·rw [if_pos h1]
  by_cases h2 : ((c.toNat : Nat) : Int) ≤ 122
  ·rw [if_pos h2]; congr 1; simp; omega
  ·rw [if_neg h2]
   by_cases h3 : ((c.toNat : Nat) : Int) ≥ 65
   ·rw [if_pos h3]; congr 1; exact bool_eq (by simp; omega)
   ·rw [if_neg h3]; congr 1; symm; simp; omega
 ·rw [if_neg h1]
  by_cases h3 : ((c.toNat : Nat) : Int) ≥ 65
  ·rw [if_pos h3]; congr 1; exact bool_eq (by simp; omega)
  ·rw [if_neg h3]; congr 1; symm; simp; omega
theorem isDigit_walk (c : UInt8) (w : World) : Calls Tryz.prog 107 #[.int .u8 ((c.toNat : Nat) : Int)] w fun e w' => e = .returned (.bool (isDig c)) ∧ Drawn0 w w' := by
 refine Lf.impl_isDigit.calls _ _ w ?_
 unfold Lf.impl_isDigit.f isDig
 by_cases h1 : ((c.toNat : Nat) : Int) ≥ 48
 ·rw [if_pos h1]; congr 1; exact bool_eq (by simp; omega)
 ·rw [if_neg h1]; congr 1; symm; simp; omega
theorem idx_iff (l : Bs) (c : UInt8) : 0 ≤ Lib.indexByte l c ↔ l.contains c = true := by
 induction l with
 | nil => simp [Lib.indexByte]
 | cons b t ih =>
  unfold Lib.indexByte
  have hge := Lib.indexByte_ge t c
  rw [List.contains_cons]
  by_cases e : b = c
  ·subst e; simp
  ·have e1 : (b == c) = false := by rw [beq_eq_false_iff_ne]; exact e
   have e2 : (c == b) = false := by rw [beq_eq_false_iff_ne]; exact fun h => e h.symm
   rw [e1, e2, Bool.false_or, ← ih]
   simp only [Bool.false_eq_true, if_false]
   by_cases h : Lib.indexByte t c = -1
   ·simp [h]
   ·rw [if_neg (by simpa using h)]; omega
theorem indexByte_walk (l : Bs) (c : UInt8) (w : World) : Calls Tryz.prog 122 #[.string (B l), .int .u8 ((c.toNat : Nat) : Int)] w fun e w' => e = .returned (.int .i64 (Lib.indexByte l c)) ∧ w' = w := by
 have := Tryz.strings_IndexByte (B l) ((c.toNat : Nat) : Int) w
 have e : ((c.toNat : Nat) : Int).toNat.toUInt8 = c := by simp
 rw [e, B_data] at this
 exact this
theorem contains_yes {l : Bs} {c : UInt8} (h : l.contains c = true) : decide (0 ≤ Lib.indexByte l c) = true := decide_eq_true ((idx_iff l c).2 h)
theorem contains_no {l : Bs} {c : UInt8} (h : l.contains c = false) : decide (0 ≤ Lib.indexByte l c) = false := decide_eq_false (fun h' => by rw [(idx_iff l c).1 h'] at h; cases h)
theorem below_builder {T e : TypeId} {B b : Nat} {bs : List Value} {w w' : World} (h : Lib.IsBuilder T e B b bs w) (hb : Below w.heap.size w w') : Lib.IsBuilder T e B b bs w' := by
 have go : ∀ p, Lib.BuilderAt T e B b p bs w → Lib.BuilderAt T e B b p bs w' := by
  rintro p ⟨hB, v, hv, hown, hne⟩
  have hlt : b < w.heap.size := (Array.getElem?_eq_some_iff.1 hv).1
  exact ⟨hB, v, by rw [hb.block b hlt]; exact hv, pw_own_below hown hb, hne⟩
 rcases h with h | h
 ·exact .inl (go _ h)
 ·exact .inr (go _ h)
theorem cells_app (a b : Bs) : Lib.byteCells (a ++ b) = Lib.byteCells a ++ Lib.byteCells b := by simp [Lib.byteCells]
theorem cells_one (c : UInt8) : Lib.byteCells [c] = [.int .u8 ((c.toNat : Nat) : Int)] := rfl
theorem cells_len (a : Bs) : (Lib.byteCells a).length = a.length := by simp [Lib.byteCells]
end Go.Proofs.YtndobphgeiamhaaGreatDoor.H
namespace Go.Proofs.YtndobphgeiamhaaGreatDoor.H
open Go.RowKit Go.Proofs.YtndobphgeiamhaaGreatDoorW.PrintWords Go.Proofs.YtndobphgeiamhaaGreatDoor.Base
def setI (n : Int) : Bs := if 1 ≤ n ∧ n ≤ 5 then sets[n.toNat]?.getD [] else []
theorem in_walk (n : Int) (w : World) : Calls Tryz.prog 46 #[.int .i64 n, .int .i64 1, .int .i64 5] w fun e w' => e = .returned (.bool (decide (1 ≤ n ∧ n ≤ 5))) ∧ w' = w := by
 go_enter Tryz.func46, Tryz.ntmps46
 by_cases h1 : 1 ≤ n
 ·have d1 : decide (1 ≤ n) = true := decide_eq_true h1
  by_cases h2 : n ≤ 5
  ·have d2 : decide (n ≤ 5) = true := decide_eq_true h2
   have hd : decide (1 ≤ n ∧ n ≤ 5) = true := decide_eq_true ⟨h1, h2⟩
   rw [hd]; clear hd h1 h2
   go_wp2
   go_ret
   exact ⟨rfl, rfl⟩
  ·have d2 : decide (n ≤ 5) = false := decide_eq_false h2
   have hd : decide (1 ≤ n ∧ n ≤ 5) = false := decide_eq_false (fun h => h2 h.2)
   rw [hd]; clear hd h1 h2
   go_wp2
   go_ret
   exact ⟨rfl, rfl⟩
 ·have d1 : decide (1 ≤ n) = false := decide_eq_false h1
  have hd : decide (1 ≤ n ∧ n ≤ 5) = false := decide_eq_false (fun h => h1 h.1)
  rw [hd]; clear hd h1
  go_wp2
  go_ret
  exact ⟨rfl, rfl⟩
set_option maxHeartbeats 4000000 in
set_option maxRecDepth 100000 in
theorem encode_walk (n : Int) (l : Bs) (w : World) (hT : TabS w) (hl : (enc (setI n) l).length ≤ 140737488355328) :
  Calls Tryz.prog 97 #[.int .i64 n, .string (B l)] w fun e w' => e = .returned (.string (B (enc (setI n) l))) ∧ Below w.heap.size w w' := by
 obtain ⟨a, c, hs, ht⟩ := hT
 have hb0 : Lib.IsBuilder 89 5 w.heap.size w.heap.size (Lib.byteCells []) (w.alloc (.cells #[.pointer none, .slice none 0 0] 89)) := Lib.fresh_isBuilder 89 5 w
 have hw0 : Below w.heap.size w (w.alloc (.cells #[.pointer none, .slice none 0 0] 89)) := (Below.refl _ w).alloc (Nat.le_refl _) _
 have hln := (enc_len (setI n) l).1
 by_cases h : 1 ≤ n ∧ n ≤ 5
 ·have hset : setI n = sets[n.toNat]?.getD [] := by unfold setI; rw [if_pos h]
  have hcell := ht n.toNat (by omega)
  rw [← hset] at hcell
  clear hset ht
  generalize setI n = any at hcell hl hln ⊢
  go_enter Tryz.func97, Tryz.ntmps97
  have hin := fun W => in_walk n W
  simp only [decide_eq_true h] at hin
  have HIN := Lib.hid hin
  clear hin
  go_wp2_with (go_at_call 46; refine (HIN.out _).mono ?_; rintro e w1 ⟨rfl, hw1⟩; subst w1)
  go_loopw [17] (fun i wr => ∃ k : Nat, k ≤ l.length ∧ i = .int .i64 k ∧ Lib.IsBuilder 89 5 w.heap.size w.heap.size (Lib.byteCells (enc any (l.take k))) wr ∧ Below w.heap.size w wr) (fun i _ => l.length - (intOf i).toNat)
  case atStart => exact ⟨0, by omega, rfl, hb0, hw0⟩
  case round =>
   obtain ⟨k, hk, rfl, hbld, hb⟩ := hrel
   by_cases hlt : k < l.length
   ·have hst := enc_take any l k hlt
    have hmo : (enc any (l.take (k + 1))).length ≤ (enc any l).length := by
     conv => rhs; rw [← List.take_append_drop (k + 1) l, enc_append]
     simp
    have hmx : (enc any (l.take k)).length + (encC any l[k]).length ≤ 140737488355328 := by
     rw [hst, List.length_append] at hmo; omega
    have HS := Lib.hid hst
    have hwr := hb.size
    clear hst hmo
    have yes : needs any l[k] = true → encC any l[k] = pct l[k] := fun q => by unfold encC; rw [if_pos q]
    have no : needs any l[k] = false → encC any l[k] = [l[k]] := fun q => by unfold encC; rw [if_neg (by rw [q]; simp)]
    by_cases c1 : l[k].toNat < 32
    ·have hC := yes (by unfold needs; simp [c1])
     have c1b : decide (((l[k].toNat : Nat) : Int) < 32) = true := decide_eq_true (by omega)
     rw [hC] at hmx
     have HC := Lib.hid hC
     clear hC yes no c1
     go_wp2_with fail
     refine (percent_walk l[k] _).mono ?_
     rintro e w4 ⟨rfl, hb4⟩
     have hbld4 := below_builder hbld hb4
     have hb5 : Below w.heap.size w w4 := below_then hb hwr hb4
     have hwr4 : w.heap.size ≤ w4.heap.size := hb5.size
     clear hbld hb4 hb hwr
     go_wp2_with (go_at_call 87; refine (Builder_WriteString w.heap.size w.heap.size _ (B (pct l[k])) _ hbld4 (by simpa [cells_len] using hmx) hwr4).mono ?_; rintro e w5 ⟨rfl, h1, hb6⟩)
     go_roundw
     case rel => exact ⟨k + 1, by omega, by go_num, Or.inr (by rw [HS.out, HC.out, cells_app]; exact h1), hb5.trans hb6⟩
     case measure => simp [intOf]; omega
    have c1b : decide (((l[k].toNat : Nat) : Int) < 32) = false := decide_eq_false (by omega)
    by_cases c2 : 126 < l[k].toNat
    ·have hC := yes (by unfold needs; simp [c2])
     have c2b : decide (126 < ((l[k].toNat : Nat) : Int)) = true := decide_eq_true (by omega)
     rw [hC] at hmx
     have HC := Lib.hid hC
     clear hC yes no c2 c1
     go_wp2_with fail
     refine (percent_walk l[k] _).mono ?_
     rintro e w4 ⟨rfl, hb4⟩
     have hbld4 := below_builder hbld hb4
     have hb5 : Below w.heap.size w w4 := below_then hb hwr hb4
     have hwr4 : w.heap.size ≤ w4.heap.size := hb5.size
     clear hbld hb4 hb hwr
     go_wp2_with (go_at_call 87; refine (Builder_WriteString w.heap.size w.heap.size _ (B (pct l[k])) _ hbld4 (by simpa [cells_len] using hmx) hwr4).mono ?_; rintro e w5 ⟨rfl, h1, hb6⟩)
     go_roundw
     case rel => exact ⟨k + 1, by omega, by go_num, Or.inr (by rw [HS.out, HC.out, cells_app]; exact h1), hb5.trans hb6⟩
     case measure => simp [intOf]; omega
    have c2b : decide (126 < ((l[k].toNat : Nat) : Int)) = false := decide_eq_false (by omega)
    have hnd : needs any l[k] = any.contains l[k] := by unfold needs; simp [c1, c2]
    clear c1 c2
    go_wp2_with fail
    refine (indexByte_walk any l[k] _).mono ?_
    rintro e w3 ⟨rfl, rfl⟩
    by_cases c3 : any.contains l[k] = true
    ·have hx := contains_yes c3
     have hC := yes (by rw [hnd, c3])
     rw [hC] at hmx
     have HC := Lib.hid hC
     clear hC yes no hnd c3
     go_wp2_with fail
     refine (percent_walk l[k] _).mono ?_
     rintro e w4 ⟨rfl, hb4⟩
     have hbld4 := below_builder hbld hb4
     have hb5 : Below w.heap.size w w4 := below_then hb hwr hb4
     have hwr4 : w.heap.size ≤ w4.heap.size := hb5.size
     clear hbld hb4 hb hwr
     go_wp2_with (go_at_call 87; refine (Builder_WriteString w.heap.size w.heap.size _ (B (pct l[k])) _ hbld4 (by simpa [cells_len] using hmx) hwr4).mono ?_; rintro e w5 ⟨rfl, h1, hb6⟩)
     go_roundw
     case rel => exact ⟨k + 1, by omega, by go_num, Or.inr (by rw [HS.out, HC.out, cells_app]; exact h1), hb5.trans hb6⟩
     case measure => simp [intOf]; omega
    ·have c3' : any.contains l[k] = false := by simpa using c3
     have hx := contains_no c3'
     have hC := no (by rw [hnd, c3'])
     rw [hC] at hmx
     have HC := Lib.hid hC
     clear hC yes no hnd c3 c3'
     go_wp2_with (go_at_call 124; refine (Builder_WriteByte w.heap.size w.heap.size _ _ _ hbld (by simpa [cells_len] using hmx) hwr).mono ?_; rintro e w4 ⟨rfl, h1, hb2⟩)
     go_roundw
     case rel => exact ⟨k + 1, by omega, by go_num, Or.inr (by rw [HS.out, HC.out, cells_app, cells_one]; exact h1), hb.trans hb2⟩
     case measure => simp [intOf]; omega
   ·obtain rfl : k = l.length := by omega
    have hwr : w.heap.size ≤ wr.heap.size := hb.size
    rw [List.take_of_length_le (Nat.le_refl _)] at hbld
    go_wp2_with (go_at_call 88; refine (Tryz.Builder_String_any w.heap.size w.heap.size (enc any l) wr hbld hwr).mono ?_; rintro e w1 ⟨rfl, hb1⟩)
    go_ret
    exact ⟨rfl, hb.trans hb1⟩
 ·have hset : setI n = [] := by unfold setI; rw [if_neg h]
  obtain ⟨any, hany⟩ : ∃ any : Bs, any = [] := ⟨_, rfl⟩
  have hbe : (⟨#[]⟩ : ByteArray) = B any := by rw [hany]; rfl
  rw [hset, ← hany] at hl hln ⊢
  have HE := Lib.hid hbe
  clear hset ht hs hany hbe
  go_enter Tryz.func97, Tryz.ntmps97
  have hin := fun W => in_walk n W
  simp only [decide_eq_false h] at hin
  have HIN := Lib.hid hin
  clear hin
  go_wp2_with (go_at_call 46; refine (HIN.out _).mono ?_; rintro e w1 ⟨rfl, hw1⟩; subst w1)
  rw [HE.out]
  go_loopw [17] (fun i wr => ∃ k : Nat, k ≤ l.length ∧ i = .int .i64 k ∧ Lib.IsBuilder 89 5 w.heap.size w.heap.size (Lib.byteCells (enc any (l.take k))) wr ∧ Below w.heap.size w wr) (fun i _ => l.length - (intOf i).toNat)
  case atStart => exact ⟨0, by omega, rfl, hb0, hw0⟩
  case round =>
   obtain ⟨k, hk, rfl, hbld, hb⟩ := hrel
   by_cases hlt : k < l.length
   ·have hst := enc_take any l k hlt
    have hmo : (enc any (l.take (k + 1))).length ≤ (enc any l).length := by
     conv => rhs; rw [← List.take_append_drop (k + 1) l, enc_append]
     simp
    have hmx : (enc any (l.take k)).length + (encC any l[k]).length ≤ 140737488355328 := by
     rw [hst, List.length_append] at hmo; omega
    have HS := Lib.hid hst
    have hwr := hb.size
    clear hst hmo
    have yes : needs any l[k] = true → encC any l[k] = pct l[k] := fun q => by unfold encC; rw [if_pos q]
    have no : needs any l[k] = false → encC any l[k] = [l[k]] := fun q => by unfold encC; rw [if_neg (by rw [q]; simp)]
    by_cases c1 : l[k].toNat < 32
    ·have hC := yes (by unfold needs; simp [c1])
     have c1b : decide (((l[k].toNat : Nat) : Int) < 32) = true := decide_eq_true (by omega)
     rw [hC] at hmx
     have HC := Lib.hid hC
     clear hC yes no c1
     go_wp2_with fail
     refine (percent_walk l[k] _).mono ?_
     rintro e w4 ⟨rfl, hb4⟩
     have hbld4 := below_builder hbld hb4
     have hb5 : Below w.heap.size w w4 := below_then hb hwr hb4
     have hwr4 : w.heap.size ≤ w4.heap.size := hb5.size
     clear hbld hb4 hb hwr
     go_wp2_with (go_at_call 87; refine (Builder_WriteString w.heap.size w.heap.size _ (B (pct l[k])) _ hbld4 (by simpa [cells_len] using hmx) hwr4).mono ?_; rintro e w5 ⟨rfl, h1, hb6⟩)
     go_roundw
     case rel => exact ⟨k + 1, by omega, by go_num, Or.inr (by rw [HS.out, HC.out, cells_app]; exact h1), hb5.trans hb6⟩
     case measure => simp [intOf]; omega
    have c1b : decide (((l[k].toNat : Nat) : Int) < 32) = false := decide_eq_false (by omega)
    by_cases c2 : 126 < l[k].toNat
    ·have hC := yes (by unfold needs; simp [c2])
     have c2b : decide (126 < ((l[k].toNat : Nat) : Int)) = true := decide_eq_true (by omega)
     rw [hC] at hmx
     have HC := Lib.hid hC
     clear hC yes no c2 c1
     go_wp2_with fail
     refine (percent_walk l[k] _).mono ?_
     rintro e w4 ⟨rfl, hb4⟩
     have hbld4 := below_builder hbld hb4
     have hb5 : Below w.heap.size w w4 := below_then hb hwr hb4
     have hwr4 : w.heap.size ≤ w4.heap.size := hb5.size
     clear hbld hb4 hb hwr
     go_wp2_with (go_at_call 87; refine (Builder_WriteString w.heap.size w.heap.size _ (B (pct l[k])) _ hbld4 (by simpa [cells_len] using hmx) hwr4).mono ?_; rintro e w5 ⟨rfl, h1, hb6⟩)
     go_roundw
     case rel => exact ⟨k + 1, by omega, by go_num, Or.inr (by rw [HS.out, HC.out, cells_app]; exact h1), hb5.trans hb6⟩
     case measure => simp [intOf]; omega
    have c2b : decide (126 < ((l[k].toNat : Nat) : Int)) = false := decide_eq_false (by omega)
    have hnd : needs any l[k] = any.contains l[k] := by unfold needs; simp [c1, c2]
    clear c1 c2
    go_wp2_with fail
    refine (indexByte_walk any l[k] _).mono ?_
    rintro e w3 ⟨rfl, rfl⟩
    by_cases c3 : any.contains l[k] = true
    ·have hx := contains_yes c3
     have hC := yes (by rw [hnd, c3])
     rw [hC] at hmx
     have HC := Lib.hid hC
     clear hC yes no hnd c3
     go_wp2_with fail
     refine (percent_walk l[k] _).mono ?_
     rintro e w4 ⟨rfl, hb4⟩
     have hbld4 := below_builder hbld hb4
     have hb5 : Below w.heap.size w w4 := below_then hb hwr hb4
     have hwr4 : w.heap.size ≤ w4.heap.size := hb5.size
     clear hbld hb4 hb hwr
     go_wp2_with (go_at_call 87; refine (Builder_WriteString w.heap.size w.heap.size _ (B (pct l[k])) _ hbld4 (by simpa [cells_len] using hmx) hwr4).mono ?_; rintro e w5 ⟨rfl, h1, hb6⟩)
     go_roundw
     case rel => exact ⟨k + 1, by omega, by go_num, Or.inr (by rw [HS.out, HC.out, cells_app]; exact h1), hb5.trans hb6⟩
     case measure => simp [intOf]; omega
    ·have c3' : any.contains l[k] = false := by simpa using c3
     have hx := contains_no c3'
     have hC := no (by rw [hnd, c3'])
     rw [hC] at hmx
     have HC := Lib.hid hC
     clear hC yes no hnd c3 c3'
     go_wp2_with (go_at_call 124; refine (Builder_WriteByte w.heap.size w.heap.size _ _ _ hbld (by simpa [cells_len] using hmx) hwr).mono ?_; rintro e w4 ⟨rfl, h1, hb2⟩)
     go_roundw
     case rel => exact ⟨k + 1, by omega, by go_num, Or.inr (by rw [HS.out, HC.out, cells_app, cells_one]; exact h1), hb.trans hb2⟩
     case measure => simp [intOf]; omega
   ·obtain rfl : k = l.length := by omega
    have hwr : w.heap.size ≤ wr.heap.size := hb.size
    rw [List.take_of_length_le (Nat.le_refl _)] at hbld
    go_wp2_with (go_at_call 88; refine (Tryz.Builder_String_any w.heap.size w.heap.size (enc any l) wr hbld hwr).mono ?_; rintro e w1 ⟨rfl, hb1⟩)
    go_ret
    exact ⟨rfl, hb.trans hb1⟩
def impl_encode.f (a0 : Int) (a1 : ByteArray) : Option (ByteArray) := if (enc (setI a0) a1.data.toList).length ≤ 140737488355328 then some (B (enc (setI a0) a1.data.toList)) else none
theorem impl_encode.calls (a0 : Int) (a1 : ByteArray) (r : ByteArray) (w : World) (hT : TabS w) (h : impl_encode.f a0 a1 = some r) :
  Calls Tryz.prog 97 #[.int .i64 a0, .string a1] w fun e w' => e = .returned (.string r) ∧ Below w.heap.size w w' := by
 obtain ⟨l, rfl⟩ := exB a1
 unfold impl_encode.f at h
 rw [B_data] at h
 by_cases c : (enc (setI a0) l).length ≤ 140737488355328
 ·rw [if_pos c] at h
  obtain rfl := Option.some.inj h
  exact encode_walk a0 l w hT c
 ·rw [if_neg c] at h; cases h
end Go.Proofs.YtndobphgeiamhaaGreatDoor.H
