/- Texts of this claim, joined: HHost. Conditions: each theorem's own. -/
import Derived.Test.YtopcpbokfngpeaaGreatDoorB10
import Derived.Test.YtopcpbokfngpeaaGreatDoorB02
import Derived.Test.YtopcpbokfngpeaaGreatDoorB03
import Derived.Test.YtopcpbokfngpeaaGreatDoorB05
import Derived.Test.YtopcpbokfngpeaaGreatDoorB04
/- The pure side of the functions of hosts, paths and texts: what the printed functions tell, as plain lists of bytes. Conditions: each theorem's own. -/
set_option linter.unusedVariables false
set_option linter.unusedSimpArgs false
namespace Go.Proofs.YtopcpbokfngpeaaGreatDoor.Pure
open Go.RowKit Go.Proofs.YtopcpbokfngpeaaGreatDoor.H Go.Proofs.YtopcpbokfngpeaaGreatDoor.Lh Go.Proofs.YtopcpbokfngpeaaGreatDoorW.PrintWords Go.Proofs.YtopcpbokfngpeaaGreatDoorW.PrintLast Go.Proofs.YtopcpbokfngpeaaGreatDoor.Base Go.Proofs.YtopcpbokfngpeaaGreatDoor.Lp

theorem spec_Has (any : Bs) (c : UInt8) (h : any.length ≤ 1000000) : Ev (fun k => spec_l1Has.f k (B any) ((c.toNat : Nat) : Int)) (any.contains c) := by
 unfold spec_l1Has.f
 have go : ∀ (d i : Nat), i + d = any.length → Ev (fun k => spec_l1Has.l0 k (B any) ((c.toNat : Nat) : Int) i) ((any.drop i).contains c) := by
  intro d
  induction d with
  | zero =>
   intro i hi
   refine ev_1 fun k => ?_
   simp only [spec_l1Has.l0]
   rw [if_neg (by rw [B_size]; omega), List.drop_eq_nil_of_le (by omega)]; rfl
  | succ d ih =>
   intro i hi
   have hlt : i < any.length := by omega
   refine Ev.step (fun k => by rw [spec_l1Has.l0]) ?_
   have hi0 : (0 : Int) ≤ (i : Int) := by omega
   have hi1 : (i : Int) < (any.length : Int) := by omega
   have hw : wrap64 ((i : Int) + 1) = ((i + 1 : Nat) : Int) := by rw [w64 (by omega) (by omega)]; rfl
   simp only [B_size, bt_B, Int.toNat_natCast, get_eq hlt, if_pos hi0, if_pos hi1, hw]
   rw [List.drop_eq_getElem_cons hlt, List.contains_cons]
   by_cases e : any[i] = c
   ·subst e
    simp only [if_true, beq_self_eq_true, Bool.true_or]; exact Ev.now _
   ·have e1 : ¬ ((any[i].toNat : Nat) : Int) = ((c.toNat : Nat) : Int) := fun h => e (UInt8.toNat_inj.1 (by omega))
    have e2 : (c == any[i]) = false := by rw [beq_eq_false_iff_ne]; exact fun h => e h.symm
    simp only [if_neg e1, e2, Bool.false_or]; exact ih (i + 1) (by omega)
 have := go any.length 0 (by omega)
 simpa using this
theorem fig_at (n : Nat) (h : n < 16) : bt (⟨#[48, 49, 50, 51, 52, 53, 54, 55, 56, 57, 65, 66, 67, 68, 69, 70]⟩ : ByteArray) ((n : Nat) : Int) = ((fig n).toNat : Int) := by
 have : (⟨#[48, 49, 50, 51, 52, 53, 54, 55, 56, 57, 65, 66, 67, 68, 69, 70]⟩ : ByteArray) = B figs := rfl
 rw [this, bt_B, Int.toNat_natCast]; rfl
theorem spec_Figure (n : Nat) (h : n < 16) : spec_l1Figure.f ((n : Nat) : Int) = some (((fig n).toNat : Nat) : Int) := by
 unfold spec_l1Figure.f
 rw [if_pos (by omega), if_pos (by omega), fig_at n h]
theorem spec_Set (n : Int) : spec_l1Set.f n = some (B (setB n)) := by
 unfold spec_l1Set.f setB
 by_cases h1 : n = 1
 ·rw [if_pos h1, if_pos h1]; rfl
 by_cases h2 : n = 2
 ·rw [if_neg h1, if_neg h1, if_pos h2, if_pos h2]; rfl
 by_cases h3 : n = 3
 ·rw [if_neg h1, if_neg h1, if_neg h2, if_neg h2, if_pos h3, if_pos h3]; rfl
 by_cases h5 : n = 5
 ·rw [if_neg h1, if_neg h1, if_neg h2, if_neg h2, if_neg h3, if_neg h3, if_pos h5, if_pos h5]; rfl
 by_cases h4 : n = 4
 ·rw [if_neg h1, if_neg h1, if_neg h2, if_neg h2, if_neg h3, if_neg h3, if_neg h5, if_neg h5, if_pos h4, if_pos h4]; rfl
 rw [if_neg h1, if_neg h1, if_neg h2, if_neg h2, if_neg h3, if_neg h3, if_neg h5, if_neg h5, if_neg h4, if_neg h4]; rfl
theorem setB_len (n : Int) : (setB n).length ≤ 1000000 := by
 unfold setB; repeat (first | (split) | (simp))
theorem tq1 (c : UInt8) : Int.tdiv (wrap64 ((c.toNat : Nat) : Int)) 16 = ((c.toNat / 16 : Nat) : Int) := by
 have := lt256 c
 rw [w64 (by omega) (by omega), Int.tdiv_eq_ediv_of_nonneg (by omega)]; rfl
theorem tq2 (c : UInt8) : Int.tmod (wrap64 ((c.toNat : Nat) : Int)) 16 = ((c.toNat % 16 : Nat) : Int) := by
 have := lt256 c
 rw [w64 (by omega) (by omega), Int.tmod_eq_emod_of_nonneg (by omega)]; rfl
theorem tq3 (c : UInt8) : wrap64 ((c.toNat / 16 : Nat) : Int) = ((c.toNat / 16 : Nat) : Int) := by
 have := lt256 c
 exact w64 (by omega) (by omega)
theorem tq4 (c : UInt8) : c.toNat / 16 < 16 := by have := lt256 c; omega
set_option maxHeartbeats 1000000 in
theorem spec_Encode_l0 (any l : Bs) (ha : any.length ≤ 1000000) (hl : l.length ≤ 200) (d : Nat) : ∀ i : Nat, i + d = l.length → Ev (fun k => spec_Encode.l0 k (B l) (ns (enc any (l.take i))) (B any) i) (B (enc any l)) := by
 induction d with
 | zero =>
  intro i hi
  refine Ev.step (fun k => by rw [spec_Encode.l0]) ?_
  simp only [B_size, if_neg (show ¬ (i : Int) < (l.length : Int) by omega)]
  refine ev_1 fun k => ?_
  simp only [spec_Encode.j1, Bool.false_eq_true, if_false, str_ns]
  rw [List.take_of_length_le (by omega)]
 | succ d ih =>
  intro i hi
  have hlt : i < l.length := by omega
  have e := ih (i + 1) (by omega)
  rw [enc_take any l i hlt, ns_append] at e
  have hi0 : (0 : Int) ≤ (i : Int) := by omega
  have hi1 : (i : Int) < (l.length : Int) := by omega
  have hw : wrap64 ((i : Int) + 1) = ((i + 1 : Nat) : Int) := by rw [w64 (by omega) (by omega)]; rfl
  have hel : (enc any (l.take i)).length ≤ 600 := by
   have h1 := (enc_len any (l.take i)).2
   have h2 : (l.take i).length = i := by simp; omega
   omega
  have h255 := lt256 l[i]
  refine Ev.step (fun k => by rw [spec_Encode.l0]) ?_
  simp only [B_size, if_pos hi1, show decide ((l.length : Int) ≤ 200) = true from decide_eq_true (by omega)]
  refine Ev.step (fun k => by rw [spec_Encode.j1]) ?_
  simp only [if_true, B_size, bt_B, Int.toNat_natCast, get_eq hlt, if_pos hi0, if_pos hi1]
  have fin : ∀ b : Bool, needs any l[i] = b → Ev (fun k => spec_Encode.j2 k (B l) (ns (enc any (l.take i))) (B any) i ((l[i].toNat : Nat) : Int) b) (B (enc any l)) := by
   intro b hb
   refine Ev.step (fun k => by rw [spec_Encode.j2]) ?_
   cases b with
   | true =>
    have q1 := tq1 l[i]
    have q2 := tq2 l[i]
    have q3 := tq3 l[i]
    have q4 : l[i].toNat / 16 < 16 := tq4 l[i]
    have q5 : l[i].toNat % 16 < 16 := Nat.mod_lt _ (by decide)
    have hn : encC any l[i] = pct l[i] := by unfold encC; rw [if_pos hb]
    rw [hn] at e
    simp only [if_true, q1, q2, q3, spec_Figure _ q4, spec_Figure _ q5, Option.bind_some, hw]
    simp only [if_pos (show (ns (enc any (l.take i))).length + ([37, ((fig (l[i].toNat / 16)).toNat : Int), ((fig (l[i].toNat % 16)).toNat : Int)] : List Int).length < 140737488355328 by simp; omega)]
    exact e
   | false =>
    have hn : encC any l[i] = [l[i]] := by unfold encC; rw [if_neg (by simp [hb])]
    rw [hn, ns_one] at e
    simp only [Bool.false_eq_true, if_false, if_pos (show (ns (enc any (l.take i))).length < 140737488355328 by simp; omega), hw]
    exact e
  by_cases c1 : ((l[i].toNat : Nat) : Int) < 32
  ·simp only [if_pos c1]; exact fin true (by unfold needs; simp; omega)
  ·simp only [if_neg c1]
   by_cases c2 : ((l[i].toNat : Nat) : Int) > 126
   ·simp only [if_pos c2]; exact fin true (by unfold needs; simp; omega)
   ·simp only [if_neg c2]
    refine ev_bind (spec_Has any l[i] ha) ?_
    exact fin _ (by unfold needs; rw [decide_eq_false (show ¬ l[i].toNat < 32 by omega), decide_eq_false (show ¬ 126 < l[i].toNat by omega)]; simp)
theorem spec_Encode_ev (n : Int) (l : Bs) (hl : l.length ≤ 140737488355327) : Ev (fun k => spec_Encode.f k n (B l)) (B (encMax n l)) := by
 unfold spec_Encode.f encMax
 simp only [spec_Set, Option.bind_some]
 by_cases h : l.length ≤ 200
 ·rw [if_pos h]
  exact spec_Encode_l0 (setB n) l (setB_len n) h l.length 0 (by omega)
 ·rw [if_neg h]
  refine Ev.step (fun k => by rw [spec_Encode.l0]) ?_
  simp only [B_size, if_pos (show (0 : Int) < (l.length : Int) by omega), show decide ((l.length : Int) ≤ 200) = false from decide_eq_false (by omega)]
  refine ev_1 fun k => ?_
  simp only [spec_Encode.j1, Bool.false_eq_true, if_false]
  exact congrArg some (str_ns [])

theorem set_same (n : Int) (c : UInt8) : (setI n).contains c = (setB n).contains c := by
 unfold setI setB
 by_cases h1 : n = 1
 ·subst h1
  show List.contains [32, 34, 35, 60, 62, 63, 123, 125, 96] c = List.contains [32, 34, 35, 60, 62, 63, 96, 123, 125] c
  simp only [List.contains_cons, List.contains_nil]
  ac_rfl
 by_cases h2 : n = 2
 ·subst h2; rfl
 by_cases h3 : n = 3
 ·subst h3; rfl
 by_cases h4 : n = 4
 ·subst h4
  show List.contains [32, 34, 35, 60, 62, 63, 123, 125, 96, 47, 58, 59, 61, 64, 91, 92, 93, 94, 124] c = List.contains [32, 34, 35, 60, 62, 63, 96, 123, 125, 47, 58, 59, 61, 64, 91, 92, 93, 94, 124] c
  simp only [List.contains_cons, List.contains_nil]
  ac_rfl
 by_cases h5 : n = 5
 ·subst h5; rfl
 rw [if_neg (by omega), if_neg h1, if_neg h2, if_neg h3, if_neg h5, if_neg h4]
theorem enc_same (n : Int) (l : Bs) : enc (setI n) l = enc (setB n) l := by
 have : encC (setI n) = encC (setB n) := by funext c; unfold encC needs; rw [set_same]
 unfold enc; rw [this]

def plainS : Bs := [37, 48, 49, 50, 51, 52, 53, 54, 55, 56, 57, 65, 66, 67, 68, 69, 70, 97, 98, 99, 100, 101, 102]
theorem set_plain (n : Int) (c : UInt8) (h : c ∈ plainS) : needs (setB n) c = false := by
 have hs : ∀ any ∈ ([[32, 34, 35, 60, 62, 63, 96, 123, 125], [32, 34, 35, 60, 62, 39], [32, 34, 60, 62, 96], [32], [32, 34, 35, 60, 62, 63, 96, 123, 125, 47, 58, 59, 61, 64, 91, 92, 93, 94, 124], []] : List Bs), ∀ c ∈ plainS, needs any c = false := by decide
 refine hs (setB n) ?_ c h
 unfold setB
 repeat (first | (split; · simp) | simp)
theorem fig_plain (m : Nat) (h : m < 16) : fig m ∈ plainS := by
 have : ∀ m, m < 16 → fig m ∈ plainS := by decide
 exact this m h
theorem enc_plain (any l : Bs) (h : ∀ c ∈ l, needs any c = false) : enc any l = l := by
 induction l with
 | nil => rfl
 | cons c t ih =>
  have : encC any c = [c] := by unfold encC; rw [if_neg (by rw [h c (by simp)]; simp)]
  show encC any c ++ enc any t = c :: t
  rw [this, ih (fun x hx => h x (by simp [hx]))]; rfl
theorem enc_twice (n : Int) (l : Bs) : enc (setB n) (enc (setB n) l) = enc (setB n) l := by
 refine enc_plain _ _ ?_
 intro c hc
 obtain ⟨x, _, hx⟩ := List.mem_flatMap.1 hc
 unfold encC at hx
 split at hx
 ·have h1 := tq4 x
  have h2 : x.toNat % 16 < 16 := Nat.mod_lt _ (by decide)
  unfold pct at hx
  simp only [List.mem_cons, List.not_mem_nil, or_false] at hx
  rcases hx with rfl | rfl | rfl
  ·exact set_plain n _ (by decide)
  ·exact set_plain n _ (fig_plain _ h1)
  ·exact set_plain n _ (fig_plain _ h2)
 ·rename_i h
  rw [List.mem_singleton.1 hx]; simpa using h

theorem spec_hex (c : UInt8) : Ev (fun k => spec_l1Hex.f k ((c.toNat : Nat) : Int)) (hexI c) := by
 have h255 := lt256 c
 unfold spec_l1Hex.f
 have j1 : ∀ b : Bool, (b = decide (65 ≤ c.toNat ∧ c.toNat ≤ 70)) → ¬ (48 ≤ c.toNat ∧ c.toNat ≤ 57) → Ev (fun k => spec_l1Hex.j1 k ((c.toNat : Nat) : Int) b) (hexI c) := by
  intro b hb h0
  refine ev_1 fun k => ?_
  simp only [spec_l1Hex.j1]
  unfold hexI
  rw [if_neg h0]
  by_cases h1 : 65 ≤ c.toNat ∧ c.toNat ≤ 70
  ·rw [hb, if_pos (by simpa using h1), if_neg (by omega), if_pos h1]; congr 1; omega
  ·rw [hb, if_neg (by simpa using h1)]
   by_cases h2 : ((c.toNat : Nat) : Int) ≥ 97
   ·rw [if_pos h2]
    by_cases h3 : ((c.toNat : Nat) : Int) ≤ 102
    ·rw [if_pos h3, if_pos (by omega)]; congr 1; omega
    ·rw [if_neg h3, if_neg (by omega), if_neg h1]
   ·rw [if_neg h2, if_neg (by omega), if_neg h1]
 have j0 : ∀ b : Bool, (b = decide (48 ≤ c.toNat ∧ c.toNat ≤ 57)) → Ev (fun k => spec_l1Hex.j0 k ((c.toNat : Nat) : Int) b) (hexI c) := by
  intro b hb
  refine Ev.step (fun k => by rw [spec_l1Hex.j0]) ?_
  by_cases h0 : 48 ≤ c.toNat ∧ c.toNat ≤ 57
  ·simp only [if_pos (show b = true by rw [hb]; simpa using h0)]
   have : (((c.toNat : Nat) : Int) - 48) % 256 = hexI c := by unfold hexI; rw [if_pos h0]; omega
   rw [this]; exact Ev.now _
  ·simp only [if_neg (show ¬ b = true by rw [hb]; simpa using h0)]
   by_cases h1 : ((c.toNat : Nat) : Int) ≥ 65
   ·simp only [if_pos h1]; exact j1 _ (by congr 1; simp; omega) h0
   ·simp only [if_neg h1]; exact j1 _ (by symm; simp; omega) h0
 by_cases h1 : ((c.toNat : Nat) : Int) ≥ 48
 ·simp only [if_pos h1]; exact j0 _ (by congr 1; simp; omega)
 ·simp only [if_neg h1]; exact j0 _ (by symm; simp; omega)

theorem rd_parts (L : List Bs) (i : Nat) (h : i < L.length) : rdOf ByteArray.empty (L.map B) ((i : Nat) : Int) = B L[i] := by
 unfold rdOf
 rw [Int.toNat_natCast, List.getD_eq_getElem?_getD]
 simp [List.getElem?_map, List.getElem?_eq_getElem h]
theorem In_f (n a b : Int) : spec_l1In.f n a b = some (decide (a ≤ n ∧ n ≤ b)) := by
 unfold spec_l1In.f
 by_cases h : n ≥ a
 ·rw [if_pos h]; congr 1; simp; omega
 ·rw [if_neg h]; congr 1; symm; simp; omega

theorem spec_Cut_l0 (c : UInt8) (l : Bs) (hl : l.length ≤ 8796093022207) (d : Nat) : ∀ (f i : Nat) (X : List ByteArray), i + d = l.length → f ≤ i → X.length ≤ f → (∀ x ∈ (l.drop f).take (i - f), x ≠ c) → Ev (fun k => spec_l1Cut.l0 k (B l) ((c.toNat : Nat) : Int) X f i) (X ++ (splitC c (l.drop f)).map B) := by
 induction d with
 | zero =>
  intro f i X hi hf hX h
  refine ev_1 fun k => ?_
  simp only [spec_l1Cut.l0]
  rw [if_neg (by rw [B_size]; omega), if_pos (by omega), if_pos (by rw [B_size]; omega), if_pos (by omega)]
  rw [List.take_of_length_le (by simp; omega)] at h
  rw [splitC_plain c _ h, Int.toNat_natCast, B_extract, B_size, List.take_of_length_le (by simp)]
  rfl
 | succ d ih =>
  intro f i X hi hf hX h
  have hlt : i < l.length := by omega
  refine Ev.step (fun k => by rw [spec_l1Cut.l0]) ?_
  have hi0 : (0 : Int) ≤ (i : Int) := by omega
  have hi1 : (i : Int) < (l.length : Int) := by omega
  have hi2 : (i : Int) ≤ (l.length : Int) := by omega
  have hw : wrap64 ((i : Int) + 1) = ((i + 1 : Nat) : Int) := by rw [w64 (by omega) (by omega)]; rfl
  simp only [B_size, bt_B, Int.toNat_natCast, get_eq hlt, if_pos hi0, if_pos hi1, if_pos hi2, hw]
  have hcat : l.drop f = (l.drop f).take (i - f) ++ l[i] :: l.drop (i + 1) := by
   conv => lhs; rw [← List.take_append_drop (i - f) (l.drop f)]
   rw [List.drop_drop, show f + (i - f) = i by omega, List.drop_eq_getElem_cons hlt]
  by_cases e : l[i] = c
  ·have e1 : ((l[i].toNat : Nat) : Int) = ((c.toNat : Nat) : Int) := by rw [e]
   simp only [if_pos e1, if_pos (show (0 : Int) ≤ (f : Int) by omega), if_pos (show (f : Int) ≤ (i : Int) by omega), if_pos (show X.length < 8796093022208 by omega)]
   have := ih (i + 1) (i + 1) (X ++ [B ((l.drop f).take (i - f))]) (by omega) (by omega) (by simp; omega) (by simp)
   have hs : splitC c (l.drop f) = (l.drop f).take (i - f) :: splitC c (l.drop (i + 1)) := by
    conv => lhs; rw [hcat, e, splitC_cut c _ _ h]
   rw [B_extract, hs]
   simpa using this
  ·have e1 : ¬ ((l[i].toNat : Nat) : Int) = ((c.toNat : Nat) : Int) := fun h => e (UInt8.toNat_inj.1 (by omega))
   simp only [if_neg e1]
   refine ih f (i + 1) X (by omega) (by omega) hX ?_
   have ht : (l.drop f).take (i + 1 - f) = (l.drop f).take (i - f) ++ [l[i]] := by
    rw [show i + 1 - f = (i - f) + 1 by omega, List.take_succ_eq_append_getElem (by simp; omega)]
    simp [show f + (i - f) = i by omega]
   rw [ht]
   intro x hx
   rcases List.mem_append.1 hx with hx | hx
   ·exact h x hx
   ·rw [List.mem_singleton.1 hx]; exact e
theorem spec_Cut (c : UInt8) (n : Nat) (hn : c = UInt8.ofNat n) (hn' : n < 256) (l : Bs) (hl : l.length ≤ 8796093022207) : Ev (fun k => spec_l1Cut.f k (B l) ((n : Nat) : Int)) ((splitC c l).map B) := by
 have e : ((n : Nat) : Int) = ((c.toNat : Nat) : Int) := by subst hn; simp; omega
 rw [e]
 unfold spec_l1Cut.f
 exact spec_Cut_l0 c l hl l.length 0 0 [] (by omega) (by omega) (by simp) (by simp)

def parts (l : Bs) : List Bs := if 1 < (splitC 46 l).length ∧ (splitC 46 l).getLast? = some [] then (splitC 46 l).dropLast else splitC 46 l
theorem tail_some (t : List Bs) (h : t.length ≤ 8796093022208) :
  (if (((t.map B).length : Nat) : Int) > 1 then (if 0 ≤ (wrap64 (((t.map B).length : Int) - 1)) then (if (wrap64 (((t.map B).length : Int) - 1)) < ((t.map B).length : Int) then (if (rdOf ByteArray.empty (t.map B) (wrap64 (((t.map B).length : Int) - 1))).toList = ([] : List UInt8) then (if (wrap64 (((t.map B).length : Int) - 1)) ≤ ((t.map B).length : Int) then (some ((t.map B).take ((wrap64 (((t.map B).length : Int) - 1)) : Int).toNat)) else (none)) else (some (t.map B))) else (none)) else (none)) else (some (t.map B))) =
   some ((if 1 < t.length ∧ t.getLast? = some [] then t.dropLast else t).map B) := by
 rw [List.length_map]
 by_cases h1 : 1 < t.length
 ·have hw : wrap64 ((t.length : Int) - 1) = ((t.length - 1 : Nat) : Int) := by rw [w64 (by omega) (by omega)]; omega
  rw [if_pos (by omega), hw, if_pos (by omega), if_pos (by omega)]
  have hr : rdOf ByteArray.empty (t.map B) ((t.length - 1 : Nat) : Int) = B (t[t.length - 1]'(by omega)) := by
   unfold rdOf
   rw [Int.toNat_natCast, List.getD_eq_getElem?_getD]
   simp [List.getElem?_map, List.getElem?_eq_getElem (show t.length - 1 < t.length by omega)]
  have hl : t.getLast? = some (t[t.length - 1]'(by omega)) := by rw [List.getLast?_eq_getElem?, List.getElem?_eq_getElem (by omega)]
  rw [hr, B_toList, hl]
  by_cases h2 : t[t.length - 1]'(by omega) = []
  ·rw [if_pos h2, if_pos (by omega), if_pos ⟨h1, by rw [h2]⟩, Int.toNat_natCast, List.dropLast_eq_take, List.map_take]
  ·rw [if_neg h2, if_neg (by simp [h2])]
 ·rw [if_neg (by omega), if_neg (by omega)]
theorem splitC_len_le (c : UInt8) (l : Bs) : (splitC c l).length ≤ l.length + 1 := by
 rw [splitC_length]; have := List.count_le_length (a := c) (l := l); omega
theorem spec_Parts (l : Bs) (hl : l.length ≤ 8796093022207) : Ev (fun k => spec_l2Parts.f k (B l)) ((parts l).map B) := by
 unfold spec_l2Parts.f
 refine ev_bind (spec_Cut 46 46 rfl (by decide) l hl) ?_
 have := tail_some (splitC 46 l) (by have := splitC_len_le 46 l; omega)
 refine ev_of fun k => ?_
 exact this
theorem impl_Labels (l : Bs) (hl : l.length < 4294967281) : impl_labels.f (B l) = some ((parts l).map B) := by
 unfold impl_labels.f
 have e : strings_Split.f (B l) (⟨#[46]⟩ : ByteArray) = some ((splitC 46 l).map B) := by
  unfold strings_Split.f
  rw [if_pos (by rw [B_size]; exact hl)]
  simp
 rw [e, Option.bind_some]
 exact tail_some (splitC 46 l) (by have := splitC_len_le 46 l; omega)
theorem splitC_mem_len (c : UInt8) : ∀ (l : Bs), ∀ x ∈ splitC c l, x.length ≤ l.length
 | [], x, h => by simp [splitC] at h; subst h; simp
 | y :: t, x, h => by
  have ih := splitC_mem_len c t
  unfold splitC at h
  split at h
  ·rcases List.mem_cons.1 h with rfl | h
   ·simp
   ·have := ih x h; simp; omega
  ·split at h
   ·rename_i h0; exact absurd h0 (splitC_ne c t)
   ·rename_i a r h0
    rcases List.mem_cons.1 h with rfl | h
    ·have := ih a (by rw [h0]; simp); simp; omega
    ·have := ih x (by rw [h0]; simp [h]); simp; omega
theorem parts_mem_len (l : Bs) (x : Bs) (h : x ∈ parts l) : x.length ≤ l.length := by
 unfold parts at h
 split at h
 ·exact splitC_mem_len 46 l x ((List.dropLast_sublist _).subset h)
 ·exact splitC_mem_len 46 l x h
theorem parts_ne (l : Bs) : parts l ≠ [] := by
 unfold parts
 split
 ·rename_i h; intro e; have := congrArg List.length e; simp at this; omega
 ·exact splitC_ne 46 l
theorem parts_len (l : Bs) : (parts l).length ≤ l.length + 1 := by
 have := splitC_len_le 46 l
 unfold parts
 split
 ·simp; omega
 ·exact this

def dig (base : Int) : Int → Bs → Option Int
 | n, [] => some n
 | n, c :: t => if hexI c < 0 ∨ hexI c ≥ base ∨ n > 4294967295 then none else dig base (n * base + hexI c) t
def partNum : Bs → Option Int
 | [] => none
 | [c] => dig 10 0 [c]
 | a :: b :: t => if a = 48 ∧ (b = 120 ∨ b = 88) then dig 16 0 t else if a = 48 then dig 8 0 (b :: t) else dig 10 0 (a :: b :: t)
theorem partNum_two (a b : UInt8) (t : Bs) : partNum (a :: b :: t) = if a = 48 ∧ (b = 120 ∨ b = 88) then dig 16 0 t else if a = 48 then dig 8 0 (b :: t) else dig 10 0 (a :: b :: t) := rfl
theorem partNum_one (c : UInt8) : partNum [c] = dig 10 0 [c] := rfl
theorem dig_rng (base : Int) (hb : 0 ≤ base) (hb' : base ≤ 16) : ∀ (l : Bs) (n r : Int), 0 ≤ n → n ≤ 68719476736 → dig base n l = some r → 0 ≤ r ∧ r ≤ 68719476736
 | [], n, r, h0, h1, h => by simp [dig] at h; omega
 | c :: t, n, r, h0, h1, h => by
  unfold dig at h
  split at h
  ·cases h
  ·rename_i hc
   have hr := hexI_rng c
   have p1 : 0 ≤ n * base := Int.mul_nonneg h0 hb
   have p2 : n * base ≤ 4294967295 * 16 := Int.mul_le_mul (by omega) hb' hb (by omega)
   exact dig_rng base hb hb' t _ r (by omega) (by omega) h
theorem partNum_rng (l : Bs) (r : Int) (h : partNum l = some r) : 0 ≤ r ∧ r ≤ 68719476736 := by
 match l, h with
 | [], h => simp [partNum] at h
 | [c], h => rw [partNum_one] at h; exact dig_rng 10 (by omega) (by omega) _ 0 r (by omega) (by omega) h
 | a :: b :: t, h =>
  rw [partNum_two] at h
  split at h
  ·exact dig_rng 16 (by omega) (by omega) _ 0 r (by omega) (by omega) h
  ·split at h
   ·exact dig_rng 8 (by omega) (by omega) _ 0 r (by omega) (by omega) h
   ·exact dig_rng 10 (by omega) (by omega) _ 0 r (by omega) (by omega) h
theorem mul_rng {n base : Int} (h0 : 0 ≤ n) (h1 : n ≤ 4294967295) (hb : 0 ≤ base) (hb' : base ≤ 16) : 0 ≤ n * base ∧ n * base ≤ 68719476720 := by
 have p1 : 0 ≤ n * base := Int.mul_nonneg h0 hb
 have p2 : n * base ≤ 4294967295 * 16 := Int.mul_le_mul h1 hb' hb (by omega)
 omega

theorem spec_Digits_l0 (base : Int) (hb : 0 ≤ base) (hb' : base ≤ 16) (l : Bs) (hl : l.length ≤ 140737488355328) (d : Nat) : ∀ (i : Nat) (n : Int), i + d = l.length → 0 ≤ n → Ev (fun k => spec_l2Digits.l0 k (B l) base n i) ((dig base n (l.drop i)).getD (-1)) := by
 induction d with
 | zero =>
  intro i n hi hn
  refine ev_1 fun k => ?_
  simp only [spec_l2Digits.l0]
  rw [if_neg (by rw [B_size]; omega), List.drop_eq_nil_of_le (by omega)]; rfl
 | succ d ih =>
  intro i n hi hn
  have hlt : i < l.length := by omega
  refine Ev.step (fun k => by rw [spec_l2Digits.l0]) ?_
  have hi0 : (0 : Int) ≤ (i : Int) := by omega
  have hi1 : (i : Int) < (l.length : Int) := by omega
  have hw : wrap64 ((i : Int) + 1) = ((i + 1 : Nat) : Int) := by rw [w64 (by omega) (by omega)]; rfl
  simp only [B_size, bt_B, Int.toNat_natCast, get_eq hlt, if_pos hi0, if_pos hi1, hw]
  refine ev_bind (spec_hex _) ?_
  have hr := hexI_rng l[i]
  rw [List.drop_eq_getElem_cons hlt]
  unfold dig
  by_cases c1 : hexI l[i] < 0
  ·simp only [if_pos c1, if_pos (show hexI l[i] < 0 ∨ hexI l[i] ≥ base ∨ n > 4294967295 from Or.inl c1)]; exact Ev.now _
  by_cases c2 : hexI l[i] ≥ base
  ·simp only [if_neg c1, if_pos c2, if_pos (show hexI l[i] < 0 ∨ hexI l[i] ≥ base ∨ n > 4294967295 from Or.inr (Or.inl c2))]; exact Ev.now _
  by_cases c3 : n > 4294967295
  ·simp only [if_neg c1, if_neg c2, if_pos c3, if_pos (show hexI l[i] < 0 ∨ hexI l[i] ≥ base ∨ n > 4294967295 from Or.inr (Or.inr c3))]; exact Ev.now _
  have hm := mul_rng hn (show n ≤ 4294967295 by omega) hb hb'
  have hv : wrap64 (wrap64 (n * base) + hexI l[i]) = n * base + hexI l[i] := by
   rw [w64 (n := n * base) (by omega) (by omega), w64 (by omega) (by omega)]
  simp only [if_neg c1, if_neg c2, if_neg c3, if_neg (show ¬ (hexI l[i] < 0 ∨ hexI l[i] ≥ base ∨ n > 4294967295) by omega), hv]
  exact ih (i + 1) _ (by omega) (by omega)
theorem spec_Digits (base : Int) (hb : 0 ≤ base) (hb' : base ≤ 16) (l : Bs) (hl : l.length ≤ 140737488355328) : Ev (fun k => spec_l2Digits.f k (B l) base) ((dig base 0 l).getD (-1)) := by
 unfold spec_l2Digits.f
 exact spec_Digits_l0 base hb hb' l hl l.length 0 0 (by omega) (by omega)
theorem B_drop1 (a : UInt8) (t : Bs) : (B (a :: t)).extract 1 (a :: t).length = B t := by
 rw [B_extract]; simp
theorem B_drop2 (a b : UInt8) (t : Bs) : (B (a :: b :: t)).extract 2 (a :: b :: t).length = B t := by
 rw [B_extract]; simp
theorem bt_0 (a : UInt8) (t : Bs) : bt (B (a :: t)) 0 = ((a.toNat : Nat) : Int) := by rw [bt_B]; rfl
theorem bt_1 (a b : UInt8) (t : Bs) : bt (B (a :: b :: t)) 1 = ((b.toNat : Nat) : Int) := by rw [bt_B]; rfl
theorem spec_Part (l : Bs) (hl : l.length ≤ 140737488355328) : Ev (fun k => spec_l2Part.f k (B l)) ((partNum l).getD (-1)) := by
 unfold spec_l2Part.f
 match l, hl with
 | [], hl => simp only [B_toList, if_true]; exact Ev.now _
 | [c], hl =>
  have n2 : ¬ (([c].length : Nat) : Int) ≥ 2 := by simp
  simp only [B_toList, List.cons_ne_nil, if_false, B_size, if_neg n2]
  refine Ev.step (fun k => by rw [spec_l2Part.j0]) ?_
  simp only [Bool.false_eq_true, if_false, B_size, if_neg n2]
  refine Ev.step (fun k => by rw [spec_l2Part.j1]) ?_
  simp only [Bool.false_eq_true, if_false]
  refine ev_bind (spec_Digits 10 (by omega) (by omega) [c] hl) ?_
  exact Ev.now _
 | a :: b :: t, hl =>
  have n2 : (((a :: b :: t).length : Nat) : Int) ≥ 2 := by simp; omega
  have n0 : 0 < (((a :: b :: t).length : Nat) : Int) := by omega
  have n1 : 1 < (((a :: b :: t).length : Nat) : Int) := by omega
  have n3 : 1 ≤ (((a :: b :: t).length : Nat) : Int) := by omega
  have n4 : 2 ≤ (((a :: b :: t).length : Nat) : Int) := by omega
  have hlt : t.length ≤ 140737488355328 := by simp at hl; omega
  have hlt' : (b :: t).length ≤ 140737488355328 := by simp at hl ⊢; omega
  have j0 : ∀ x : Bool, (x = true ↔ (a = 48 ∧ (b = 120 ∨ b = 88))) → Ev (fun k => spec_l2Part.j0 k (B (a :: b :: t)) x) ((partNum (a :: b :: t)).getD (-1)) := by
   intro x hx
   refine Ev.step (fun k => by rw [spec_l2Part.j0]) ?_
   rw [partNum_two]
   by_cases h : x = true
   ·simp only [if_pos h, B_drop2, if_pos (hx.1 h), B_size, if_pos n4]
    refine ev_bind (spec_Digits 16 (by omega) (by omega) t hlt) ?_
    exact Ev.now _
   ·simp only [if_neg h, if_neg (fun q => h (hx.2 q)), B_size, if_pos n2, if_pos n0, bt_0]
    refine Ev.step (fun k => by rw [spec_l2Part.j1]) ?_
    by_cases e : a = 48
    ·have e' : (((a.toNat : Nat) : Int) == 48) = true := by rw [beq_iff_eq]; exact (byte_eq a 48 (by decide)).2 e
     simp only [e', if_true, if_pos e, B_drop1, B_size, if_pos n3]
     refine ev_bind (spec_Digits 8 (by omega) (by omega) (b :: t) hlt') ?_
     exact Ev.now _
    ·have e' : (((a.toNat : Nat) : Int) == 48) = false := by rw [beq_eq_false_iff_ne]; exact fun q => e ((byte_eq a 48 (by decide)).1 q)
     simp only [e', Bool.false_eq_true, if_false, if_neg e]
     refine ev_bind (spec_Digits 10 (by omega) (by omega) _ hl) ?_
     exact Ev.now _
  simp only [B_toList, List.cons_ne_nil, if_false, B_size, if_pos n2, if_pos n0, if_pos n1, bt_0, bt_1]
  by_cases e : a = 48
  ·simp only [if_pos (show ((a.toNat : Nat) : Int) = 48 from (byte_eq a 48 (by decide)).2 e)]
   by_cases e2 : b = 120
   ·simp only [if_pos (show ((b.toNat : Nat) : Int) = 120 from (byte_eq b 120 (by decide)).2 e2)]
    exact j0 true (by simp [e, e2])
   ·simp only [if_neg (show ¬ ((b.toNat : Nat) : Int) = 120 from fun q => e2 ((byte_eq b 120 (by decide)).1 q))]
    refine j0 _ ?_
    rw [beq_iff_eq]
    have := byte_eq b 88 (by decide)
    constructor
    ·intro q; exact ⟨e, Or.inr (this.1 q)⟩
    ·rintro ⟨-, q | q⟩
     ·exact absurd q e2
     ·exact this.2 q
  ·simp only [if_neg (show ¬ ((a.toNat : Nat) : Int) = 48 from fun q => e ((byte_eq a 48 (by decide)).1 q))]
   exact j0 false (by simp [e])

theorem impl_Hex (c : UInt8) : Ev (fun k => impl_hex.f k ((c.toNat : Nat) : Int)) (hexI c) := by
 have h255 := lt256 c
 unfold impl_hex.f
 have j1 : ∀ b : Bool, (b = decide (97 ≤ c.toNat ∧ c.toNat ≤ 102)) → ¬ (48 ≤ c.toNat ∧ c.toNat ≤ 57) → Ev (fun k => impl_hex.j1 k ((c.toNat : Nat) : Int) b) (hexI c) := by
  intro b hb h0
  refine ev_1 fun k => ?_
  simp only [impl_hex.j1]
  unfold hexI
  rw [if_neg h0]
  by_cases h1 : 97 ≤ c.toNat ∧ c.toNat ≤ 102
  ·rw [hb, if_pos (by simpa using h1)]
   by_cases h2 : 65 ≤ c.toNat ∧ c.toNat ≤ 70
   ·omega
   ·first | (rw [if_pos h1]; congr 1; omega) | (rw [if_neg h2, if_pos h1]; congr 1; omega)
  ·rw [hb, if_neg (by simpa using h1)]
   by_cases h2 : ((c.toNat : Nat) : Int) ≥ 65
   ·rw [if_pos h2]
    by_cases h3 : ((c.toNat : Nat) : Int) ≤ 70
    ·rw [if_pos h3]
     have h4 : 65 ≤ c.toNat ∧ c.toNat ≤ 70 := by omega
     first | (rw [if_pos h4]; congr 1; omega) | (rw [if_neg h1, if_pos h4]; congr 1; omega)
    ·rw [if_neg h3]
     have h4 : ¬ (65 ≤ c.toNat ∧ c.toNat ≤ 70) := by omega
     first | rw [if_neg h4, if_neg h1] | rw [if_neg h1, if_neg h4]
   ·rw [if_neg h2]
    have h4 : ¬ (65 ≤ c.toNat ∧ c.toNat ≤ 70) := by omega
    first | rw [if_neg h4, if_neg h1] | rw [if_neg h1, if_neg h4]
 have j0 : ∀ b : Bool, (b = decide (48 ≤ c.toNat ∧ c.toNat ≤ 57)) → Ev (fun k => impl_hex.j0 k ((c.toNat : Nat) : Int) b) (hexI c) := by
  intro b hb
  refine Ev.step (fun k => by rw [impl_hex.j0]) ?_
  by_cases h0 : 48 ≤ c.toNat ∧ c.toNat ≤ 57
  ·simp only [if_pos (show b = true by rw [hb]; simpa using h0)]
   have : (((c.toNat : Nat) : Int) - 48) % 256 = hexI c := by unfold hexI; rw [if_pos h0]; omega
   rw [this]; exact Ev.now _
  ·simp only [if_neg (show ¬ b = true by rw [hb]; simpa using h0)]
   by_cases h1 : ((c.toNat : Nat) : Int) ≥ 97
   ·simp only [if_pos h1]; exact j1 _ (by congr 1; simp; omega) h0
   ·simp only [if_neg h1]; exact j1 _ (by symm; simp; omega) h0
 by_cases h1 : ((c.toNat : Nat) : Int) ≥ 48
 ·simp only [if_pos h1]; exact j0 _ (by congr 1; simp; omega)
 ·simp only [if_neg h1]; exact j0 _ (by symm; simp; omega)
def ok (x : Option Int) : Int × Bool := match x with | some n => (n, true) | none => (0, false)
theorem impl_Digits_l0 (base : Int) (hb : 0 ≤ base) (hb' : base ≤ 16) (l : Bs) (hl : l.length ≤ 140737488355328) (d : Nat) : ∀ (i : Nat) (n : Int), i + d = l.length → 0 ≤ n → Ev (fun k => impl_labelNumber.l0 k (B l) base n (l.length : Int) i) (ok (dig base n (l.drop i))) := by
 induction d with
 | zero =>
  intro i n hi hn
  refine ev_1 fun k => ?_
  simp only [impl_labelNumber.l0]
  rw [if_neg (by omega), List.drop_eq_nil_of_le (by omega)]; rfl
 | succ d ih =>
  intro i n hi hn
  have hlt : i < l.length := by omega
  refine Ev.step (fun k => by rw [impl_labelNumber.l0]) ?_
  have hi0 : (0 : Int) ≤ (i : Int) := by omega
  have hi1 : (i : Int) < (l.length : Int) := by omega
  have hw : wrap64 ((i : Int) + 1) = ((i + 1 : Nat) : Int) := by rw [w64 (by omega) (by omega)]; rfl
  simp only [B_size, bt_B, Int.toNat_natCast, get_eq hlt, if_pos hi0, if_pos hi1, hw]
  refine ev_bind (impl_Hex _) ?_
  have hr := hexI_rng l[i]
  rw [List.drop_eq_getElem_cons hlt]
  unfold dig
  by_cases c1 : hexI l[i] < 0
  ·simp only [if_pos c1, if_pos (show hexI l[i] < 0 ∨ hexI l[i] ≥ base ∨ n > 4294967295 from Or.inl c1)]; exact Ev.now _
  by_cases c2 : hexI l[i] ≥ base
  ·simp only [if_neg c1, if_pos c2, if_pos (show hexI l[i] < 0 ∨ hexI l[i] ≥ base ∨ n > 4294967295 from Or.inr (Or.inl c2))]; exact Ev.now _
  by_cases c3 : n > 4294967295
  ·simp only [if_neg c1, if_neg c2, if_pos c3, if_pos (show hexI l[i] < 0 ∨ hexI l[i] ≥ base ∨ n > 4294967295 from Or.inr (Or.inr c3))]; exact Ev.now _
  have hm := mul_rng hn (show n ≤ 4294967295 by omega) hb hb'
  have hv : wrap64 (wrap64 (base * n) + hexI l[i]) = n * base + hexI l[i] := by
   rw [Int.mul_comm base n, w64 (n := n * base) (by omega) (by omega), w64 (by omega) (by omega)]
  simp only [if_neg c1, if_neg c2, if_neg c3, if_neg (show ¬ (hexI l[i] < 0 ∨ hexI l[i] ≥ base ∨ n > 4294967295) by omega), hv]
  exact ih (i + 1) _ (by omega) (by omega)
theorem impl_Digits (base : Int) (hb : 0 ≤ base) (hb' : base ≤ 16) (l : Bs) (hl : l.length ≤ 140737488355328) : Ev (fun k => impl_labelNumber.j1 k (B l) base) (ok (dig base 0 l)) := by
 refine Ev.step (fun k => by rw [impl_labelNumber.j1]) ?_
 rw [B_size]
 exact impl_Digits_l0 base hb hb' l hl l.length 0 0 (by omega) (by omega)
theorem hasPrefix2 (x y : UInt8) (l : Bs) : strings_HasPrefix.f (B l) (B [x, y]) = some (l.take 2 == [x, y]) := by
 unfold strings_HasPrefix.f stringslite_HasPrefix.f
 simp only [B_size, B_toList, B_extract, List.length_cons, List.length_nil, List.drop_zero]
 by_cases h : 2 ≤ l.length
 ·rw [if_pos (by omega), if_pos (by omega), if_pos (by omega)]
  simp
 ·rw [if_neg (by omega)]
  simp only [Option.bind_some]
  congr 1
  symm
  rw [beq_eq_false_iff_ne]
  intro e
  have := congrArg List.length e
  simp at this
  omega
theorem impl_Number (l : Bs) (hl : l.length ≤ 140737488355328) : Ev (fun k => impl_labelNumber.f k (B l)) (ok (partNum l)) := by
 unfold impl_labelNumber.f
 match l, hl with
 | [], hl => simp only [B_toList, if_true]; exact Ev.now _
 | [c], hl =>
  have n0 : 0 < (([c].length : Nat) : Int) := by simp
  have n1 : ¬ (([c].length : Nat) : Int) > 1 := by simp
  have p1 : strings_HasPrefix.f (B [c]) (⟨#[48, 120]⟩ : ByteArray) = some false := by rw [lit_B [48, 120], hasPrefix2]; simp
  have p2 : strings_HasPrefix.f (B [c]) (⟨#[48, 88]⟩ : ByteArray) = some false := by rw [lit_B [48, 88], hasPrefix2]; simp
  simp only [B_toList, List.cons_ne_nil, if_false, p1, p2, Option.bind_some, Bool.false_eq_true]
  refine Ev.step (fun k => by rw [impl_labelNumber.j0]) ?_
  simp only [Bool.false_eq_true, if_false, B_size, if_pos n0, if_neg n1]
  have : Ev (fun k => impl_labelNumber.j1 k (B [c]) 10) (ok (partNum [c])) := impl_Digits 10 (by omega) (by omega) [c] hl
  by_cases e : bt (B [c]) 0 = 48
  ·simp only [if_pos e]; exact this
  ·simp only [if_neg e]; exact this
 | a :: b :: t, hl =>
  have n0 : 0 < (((a :: b :: t).length : Nat) : Int) := by simp; omega
  have n1 : (((a :: b :: t).length : Nat) : Int) > 1 := by simp; omega
  have n3 : 1 ≤ (((a :: b :: t).length : Nat) : Int) := by omega
  have n4 : 2 ≤ (((a :: b :: t).length : Nat) : Int) := by simp; omega
  have hlt : t.length ≤ 140737488355328 := by simp at hl; omega
  have hlt' : (b :: t).length ≤ 140737488355328 := by simp at hl ⊢; omega
  have p1 : strings_HasPrefix.f (B (a :: b :: t)) (⟨#[48, 120]⟩ : ByteArray) = some (decide (a = 48 ∧ b = 120)) := by rw [lit_B [48, 120], hasPrefix2]; congr 1; simp [Bool.beq_eq_decide_eq]
  have p2 : strings_HasPrefix.f (B (a :: b :: t)) (⟨#[48, 88]⟩ : ByteArray) = some (decide (a = 48 ∧ b = 88)) := by rw [lit_B [48, 88], hasPrefix2]; congr 1; simp [Bool.beq_eq_decide_eq]
  have j0 : ∀ x : Bool, (x = true ↔ (a = 48 ∧ (b = 120 ∨ b = 88))) → Ev (fun k => impl_labelNumber.j0 k (B (a :: b :: t)) 10 x) (ok (partNum (a :: b :: t))) := by
   intro x hx
   refine Ev.step (fun k => by rw [impl_labelNumber.j0]) ?_
   rw [partNum_two]
   by_cases h : x = true
   ·simp only [if_pos h, B_drop2, if_pos (hx.1 h), B_size, if_pos n4]
    exact impl_Digits 16 (by omega) (by omega) t hlt
   ·simp only [if_neg h, if_neg (fun q => h (hx.2 q)), B_size, if_pos n0, bt_0]
    by_cases e : a = 48
    ·simp only [if_pos (show ((a.toNat : Nat) : Int) = 48 from (byte_eq a 48 (by decide)).2 e), if_pos e, B_drop1, B_size, if_pos n1, if_pos n3]
     exact impl_Digits 8 (by omega) (by omega) (b :: t) hlt'
    ·simp only [if_neg (show ¬ ((a.toNat : Nat) : Int) = 48 from fun q => e ((byte_eq a 48 (by decide)).1 q)), if_neg e]
     exact impl_Digits 10 (by omega) (by omega) _ hl
  simp only [B_toList, List.cons_ne_nil, if_false, p1, p2, Option.bind_some]
  by_cases e1 : a = 48 ∧ b = 120
  ·simp only [decide_eq_true e1, if_true]
   exact j0 true (by simp [e1.1, e1.2])
  ·simp only [decide_eq_false e1, Bool.false_eq_true, if_false]
   refine j0 _ ?_
   rw [decide_eq_true_eq]
   constructor
   ·rintro ⟨h1, h2⟩; exact ⟨h1, Or.inr h2⟩
   ·rintro ⟨h1, h2 | h2⟩
    ·exact absurd ⟨h1, h2⟩ e1
    ·exact ⟨h1, h2⟩

def most (i : Nat) : Int := 256 ^ (4 - i) - 1
theorem spec_l1_run (L : List ByteArray) (o : Int) (i : Nat) (hi : i < 4) (n : Int) (r : Int × Bool) (h : Ev (fun k => (spec_l1In.f n 0 (most i)).bind fun t126 => (if t126 = true then (spec_FourGet.l0 k L (wrap64 ((wrap64 (o * (wrap64 (most i + 1)))) + n)) (wrap64 ((i : Int) + 1))) else (some (0, false)))) r) : Ev (fun k => spec_FourGet.l1 k L o i n 255 i) r := by
 have s1 : ∀ (m : Int) (j : Int), ¬ j < 3 → m = most i → Ev (fun k => spec_FourGet.l1 k L o i n m j) r := by
  intro m j hj hm
  refine Ev.step (fun k => by rw [spec_FourGet.l1]) ?_
  simp only [if_neg hj]
  rw [hm]; exact h
 have st : ∀ (m m' : Int) (j j' : Int), j < 3 → m' = wrap64 ((wrap64 (m * 256)) + 255) → j' = wrap64 (j + 1) → Ev (fun k => spec_FourGet.l1 k L o i n m' j') r → Ev (fun k => spec_FourGet.l1 k L o i n m j) r := by
  intro m m' j j' hj hm hj' hh
  refine Ev.step (fun k => by rw [spec_FourGet.l1]) ?_
  simp only [if_pos hj]
  rw [← hm, ← hj']; exact hh
 match i, hi with
 | 0, _ => exact st 255 65535 _ 1 (by decide +kernel) (by decide +kernel) (by decide +kernel) (st 65535 16777215 _ 2 (by decide +kernel) (by decide +kernel) (by decide +kernel) (st 16777215 4294967295 _ 3 (by decide +kernel) (by decide +kernel) (by decide +kernel) (s1 _ _ (by decide +kernel) (by decide +kernel))))
 | 1, _ => exact st 255 65535 _ 2 (by decide +kernel) (by decide +kernel) (by decide +kernel) (st 65535 16777215 _ 3 (by decide +kernel) (by decide +kernel) (by decide +kernel) (s1 _ _ (by decide +kernel) (by decide +kernel)))
 | 2, _ => exact st 255 65535 _ 3 (by decide +kernel) (by decide +kernel) (by decide +kernel) (s1 _ _ (by decide +kernel) (by decide +kernel))
 | 3, _ => exact s1 _ _ (by decide +kernel) (by decide +kernel)
theorem four_last (i : Nat) (hi : i < 4) (o n a : Int) (ho : 0 ≤ o) (ho' : o < 256 ^ i) (ha : a = o * 256 ^ (4 - i)) (hn : 0 ≤ n) (hn' : n ≤ most i) :
  wrap64 ((wrap64 (o * (wrap64 (most i + 1)))) + n) = a + n ∧ wrap64 (a + n) = a + n := by
 unfold most at *
 match i, hi with
 | 0, _ => simp at *; subst ha; constructor <;> (unfold wrap64; omega)
 | 1, _ => simp at *; subst ha; constructor <;> (unfold wrap64; omega)
 | 2, _ => simp at *; subst ha; constructor <;> (unfold wrap64; omega)
 | 3, _ => simp at *; subst ha; constructor <;> (unfold wrap64; omega)
theorem four_next (i : Nat) (hi : i < 3) (o n a : Int) (ho : 0 ≤ o) (ho' : o < 256 ^ i) (ha : a = o * 256 ^ (4 - i)) (hn : 0 ≤ n) (hn' : n ≤ 255) :
  wrap64 ((wrap64 (o * 256)) + n) = o * 256 + n ∧ 0 ≤ wrap64 (8 * (wrap64 (3 - (i : Int)))) ∧ wrap64 (a + shl .i64 n (wrap64 (8 * (wrap64 (3 - (i : Int)))))) = (o * 256 + n) * 256 ^ (4 - (i + 1)) ∧ o * 256 + n < 256 ^ (i + 1) := by
 match i, hi with
 | 0, _ =>
  have hs : shl .i64 n (wrap64 (8 * (wrap64 (3 - ((0 : Nat) : Int))))) = n * 16777216 := by
   rw [show wrap64 (8 * (wrap64 (3 - ((0 : Nat) : Int)))) = 24 by decide +kernel]; unfold shl; rw [i64wrap, show (2 : Int) ^ min (24 : Int).toNat IntKind.i64.bits = 16777216 by decide +kernel]; unfold wrap64; omega
  rw [hs]; simp at *; subst ha; refine ⟨?_, ?_, ?_, ?_⟩ <;> first | (unfold wrap64; omega) | decide +kernel | omega
 | 1, _ =>
  have hs : shl .i64 n (wrap64 (8 * (wrap64 (3 - ((1 : Nat) : Int))))) = n * 65536 := by
   rw [show wrap64 (8 * (wrap64 (3 - ((1 : Nat) : Int)))) = 16 by decide +kernel]; unfold shl; rw [i64wrap, show (2 : Int) ^ min (16 : Int).toNat IntKind.i64.bits = 65536 by decide +kernel]; unfold wrap64; omega
  rw [hs]; simp at *; subst ha; refine ⟨?_, ?_, ?_, ?_⟩ <;> first | (unfold wrap64; omega) | decide +kernel | omega
 | 2, _ =>
  have hs : shl .i64 n (wrap64 (8 * (wrap64 (3 - ((2 : Nat) : Int))))) = n * 256 := by
   rw [show wrap64 (8 * (wrap64 (3 - ((2 : Nat) : Int)))) = 8 by decide +kernel]; unfold shl; rw [i64wrap, show (2 : Int) ^ min (8 : Int).toNat IntKind.i64.bits = 256 by decide +kernel]; unfold wrap64; omega
  rw [hs]; simp at *; subst ha; refine ⟨?_, ?_, ?_, ?_⟩ <;> first | (unfold wrap64; omega) | decide +kernel | omega
theorem most_impl (i : Nat) (hi : i < 4) : 0 ≤ (wrap64 (8 * (wrap64 (5 - ((i + 1 : Nat) : Int))))) ∧ (wrap64 ((shl .i64 1 (wrap64 (8 * (wrap64 (5 - ((i + 1 : Nat) : Int)))))) - 1)) = most i := by
 match i, hi with
 | 0, _ => decide +kernel
 | 1, _ => decide +kernel
 | 2, _ => decide +kernel
 | 3, _ => decide +kernel
def fourR : Nat → Int → List Bs → Int × Bool
 | i, o, [] => (o * 256 ^ (4 - i), true)
 | i, o, [q] => match partNum q with
  | some n => if n ≤ most i then (o * 256 ^ (4 - i) + n, true) else (0, false)
  | none => (0, false)
 | i, o, q :: r :: t => match partNum q with
  | some n => if n ≤ 255 then fourR (i + 1) (o * 256 + n) (r :: t) else (0, false)
  | none => (0, false)
theorem fourR_none (i : Nat) (o : Int) (q : Bs) (t : List Bs) (h : partNum q = none) : fourR i o (q :: t) = (0, false) := by
 cases t with
 | nil => show (match partNum q with | some n => _ | none => _) = _; rw [h]
 | cons r t => show (match partNum q with | some n => _ | none => _) = _; rw [h]
theorem fourR_last (i : Nat) (o n : Int) (q : Bs) (h : partNum q = some n) : fourR i o [q] = if n ≤ most i then (o * 256 ^ (4 - i) + n, true) else (0, false) := by
 show (match partNum q with | some n => _ | none => _) = _; rw [h]
theorem fourR_more (i : Nat) (o n : Int) (q : Bs) (t : List Bs) (ht : t ≠ []) (h : partNum q = some n) : fourR i o (q :: t) = if n ≤ 255 then fourR (i + 1) (o * 256 + n) t else (0, false) := by
 cases t with
 | nil => exact absurd rfl ht
 | cons r t => show (match partNum q with | some n => _ | none => _) = _; rw [h]
theorem four_run (L : List Bs) (hL : L.length ≤ 4) (hx : ∀ x ∈ L, x.length ≤ 140737488355328) (d : Nat) : ∀ (i : Nat) (o a : Int), i + d = L.length → 0 < d → 0 ≤ o → o < 256 ^ i → a = o * 256 ^ (4 - i) →
  Ev (fun k => spec_FourGet.l0 k (L.map B) o i) (fourR i o (L.drop i)) ∧ Ev (fun k => impl_FourGet.l0 k (L.map B) a (L.map B) (L.length : Int) i) (fourR i o (L.drop i)) := by
 induction d with
 | zero => intro i o a hi hd; omega
 | succ d ih =>
  intro i o a hi _ ho ho' ha
  have hlt : i < L.length := by omega
  have hi4 : i < 4 := by omega
  have hi0 : (0 : Int) ≤ (i : Int) := by omega
  have hi1 : (i : Int) < (L.length : Int) := by omega
  have hw : wrap64 ((i : Int) + 1) = ((i + 1 : Nat) : Int) := by rw [w64 (by omega) (by omega)]; rfl
  have hwl : wrap64 ((L.length : Int) - 1) = ((L.length - 1 : Nat) : Int) := by rw [w64 (by omega) (by omega)]; omega
  have hp := hx L[i] (List.getElem_mem hlt)
  have hdr : L.drop i = L[i] :: L.drop (i + 1) := List.drop_eq_getElem_cons hlt
  have sp := spec_Part L[i] hp
  have ip := impl_Number L[i] hp
  have s0 : ∀ r, Ev (fun k => (if (i : Int) = ((L.length - 1 : Nat) : Int) then (spec_FourGet.l1 k (L.map B) o i ((partNum L[i]).getD (-1)) 255 i) else (if decide (0 ≤ (partNum L[i]).getD (-1) ∧ (partNum L[i]).getD (-1) ≤ 255) = true then (spec_FourGet.l0 k (L.map B) (wrap64 ((wrap64 (o * 256)) + ((partNum L[i]).getD (-1)))) ((i + 1 : Nat) : Int)) else (some (0, false))))) r → Ev (fun k => spec_FourGet.l0 k (L.map B) o i) r := by
   intro r h
   refine Ev.step (fun k => by rw [spec_FourGet.l0]) ?_
   simp only [List.length_map, if_pos hi1, if_pos hi0, rd_parts L i hlt, hwl, hw]
   refine ev_bind sp ?_
   simp only [In_f, Option.bind_some]
   exact h
  have i0 : ∀ r, Ev (fun k => (if (i : Int) = ((L.length - 1 : Nat) : Int) then (impl_FourGet.j2 k (L.map B) a i (ok (partNum L[i])).1 (ok (partNum L[i])).2 (most i) (L.map B) (L.length : Int) i) else (impl_FourGet.j2 k (L.map B) a i (ok (partNum L[i])).1 (ok (partNum L[i])).2 255 (L.map B) (L.length : Int) i))) r → Ev (fun k => impl_FourGet.l0 k (L.map B) a (L.map B) (L.length : Int) i) r := by
   intro r h
   refine Ev.step (fun k => by rw [impl_FourGet.l0]) ?_
   simp only [List.length_map, if_pos hi1, if_pos hi0, rd_parts L i hlt, hwl, hw]
   refine ev_bind ip ?_
   by_cases e : (i : Int) = ((L.length - 1 : Nat) : Int)
   ·have el : (L.length : Int) = ((i + 1 : Nat) : Int) := by omega
    have hm := most_impl i hi4
    rw [← el] at hm
    simp only [if_pos e, if_pos hm.1, hm.2] at h ⊢
    exact h
   ·simp only [if_neg e] at h ⊢
    exact h
  have i3 : ∀ (n m : Int) (b : Bool) (r : Int × Bool), Ev (fun k => impl_FourGet.j3 k (L.map B) a i n (L.map B) (L.length : Int) i (if b = true then decide (n > m) else true)) r → Ev (fun k => impl_FourGet.j2 k (L.map B) a i n b m (L.map B) (L.length : Int) i) r := by
   intro n m b r h
   refine Ev.step (fun k => by rw [impl_FourGet.j2]) ?_
   cases b with
   | true => simpa using h
   | false => simpa using h
  have bad : ∀ (n : Int), Ev (fun k => impl_FourGet.j3 k (L.map B) a i n (L.map B) (L.length : Int) i true) (0, false) := by
   intro n
   refine ev_1 fun k => ?_
   simp only [impl_FourGet.j3, if_true]
  cases hn : partNum L[i] with
  | none =>
   rw [hn] at s0 i0
   rw [hdr, fourR_none _ _ _ _ hn]
   refine ⟨s0 _ ?_, i0 _ ?_⟩
   ·simp only [Option.getD_none, show decide ((0 : Int) ≤ -1 ∧ (-1 : Int) ≤ 255) = false by decide +kernel, Bool.false_eq_true, if_false]
    by_cases e : (i : Int) = ((L.length - 1 : Nat) : Int)
    ·simp only [if_pos e]
     refine spec_l1_run _ _ _ hi4 _ _ ?_
     simp only [In_f, Option.bind_some, show decide ((0 : Int) ≤ -1 ∧ (-1 : Int) ≤ most i) = false from decide_eq_false (by omega), Bool.false_eq_true, if_false]
     exact Ev.now _
    ·simp only [if_neg e]; exact Ev.now _
   ·simp only [ok]
    by_cases e : (i : Int) = ((L.length - 1 : Nat) : Int)
    ·simp only [if_pos e]; exact i3 _ _ _ _ (bad 0)
    ·simp only [if_neg e]; exact i3 _ _ _ _ (bad 0)
  | some n =>
   rw [hn] at s0 i0
   have hr := partNum_rng _ n hn
   by_cases e : (i : Int) = ((L.length - 1 : Nat) : Int)
   ·have hde : L.drop (i + 1) = [] := List.drop_eq_nil_of_le (by omega)
    rw [hdr, hde, fourR_last _ _ _ _ hn, ← ha]
    by_cases hm : n ≤ most i
    ·have hf := four_last i hi4 o n a ho ho' ha hr.1 hm
     rw [if_pos hm]
     refine ⟨s0 _ ?_, i0 _ ?_⟩
     ·simp only [Option.getD_some, if_pos e]
      refine spec_l1_run _ _ _ hi4 _ _ ?_
      simp only [In_f, Option.bind_some, show decide ((0 : Int) ≤ n ∧ n ≤ most i) = true from decide_eq_true ⟨hr.1, hm⟩, if_true, hf.1, hw]
      refine ev_1 fun k => ?_
      simp only [spec_FourGet.l0, List.length_map]
      rw [if_neg (by omega)]
     ·simp only [ok, if_pos e]
      refine i3 _ _ _ _ ?_
      simp only [if_true, show decide (n > most i) = false from decide_eq_false (by omega)]
      refine Ev.step (fun k => by rw [impl_FourGet.j3]) ?_
      simp only [Bool.false_eq_true, if_false, List.length_map, hwl, if_neg (show ¬ (i : Int) < ((L.length - 1 : Nat) : Int) by omega), hf.2, hw]
      refine ev_1 fun k => ?_
      simp only [impl_FourGet.l0]
      rw [if_neg (by omega)]
    ·rw [if_neg hm]
     refine ⟨s0 _ ?_, i0 _ ?_⟩
     ·simp only [Option.getD_some, if_pos e]
      refine spec_l1_run _ _ _ hi4 _ _ ?_
      simp only [In_f, Option.bind_some, show decide ((0 : Int) ≤ n ∧ n ≤ most i) = false from decide_eq_false (by omega), Bool.false_eq_true, if_false]
      exact Ev.now _
     ·simp only [ok, if_pos e]
      refine i3 _ _ _ _ ?_
      simp only [if_true, show decide (n > most i) = true from decide_eq_true (by omega)]
      exact bad n
   ·have hde : L.drop (i + 1) ≠ [] := by intro q; have := congrArg List.length q; simp at this; omega
    rw [hdr, fourR_more _ _ _ _ _ hde hn]
    by_cases hm : n ≤ 255
    ·have hf := four_next i (by omega) o n a ho ho' ha hr.1 hm
     rw [if_pos hm]
     obtain ⟨r1, r2⟩ := ih (i + 1) (o * 256 + n) ((o * 256 + n) * 256 ^ (4 - (i + 1))) (by omega) (by omega) (by omega) hf.2.2.2 rfl
     refine ⟨s0 _ ?_, i0 _ ?_⟩
     ·simp only [Option.getD_some, if_neg e, show decide ((0 : Int) ≤ n ∧ n ≤ 255) = true from decide_eq_true ⟨hr.1, hm⟩, if_true, hf.1]
      exact r1
     ·simp only [ok, if_neg e]
      refine i3 _ _ _ _ ?_
      simp only [if_true, show decide (n > 255) = false from decide_eq_false (by omega)]
      refine Ev.step (fun k => by rw [impl_FourGet.j3]) ?_
      simp only [Bool.false_eq_true, if_false, List.length_map, hwl, if_pos (show (i : Int) < ((L.length - 1 : Nat) : Int) by omega), if_pos hf.2.1, hf.2.2.1, hw]
      exact r2
    ·rw [if_neg hm]
     refine ⟨s0 _ ?_, i0 _ ?_⟩
     ·simp only [Option.getD_some, if_neg e, show decide ((0 : Int) ≤ n ∧ n ≤ 255) = false from decide_eq_false (by omega), Bool.false_eq_true, if_false]
      exact Ev.now _
     ·simp only [ok, if_neg e]
      refine i3 _ _ _ _ ?_
      simp only [if_true, show decide (n > 255) = true from decide_eq_true (by omega)]
      exact bad n
def fourGet (l : Bs) : Int × Bool := if (parts l).length ≤ 4 ∧ l.length ≤ 200 then fourR 0 0 (parts l) else (0, false)
theorem four_val (l : Bs) (hl : l.length ≤ 1048576) : Ev (fun k => spec_FourGet.f k (B l)) (fourGet l) ∧ Ev (fun k => impl_FourGet.f k (B l)) (fourGet l) := by
 unfold fourGet
 have hp := parts_len l
 have hx : ∀ x ∈ parts l, x.length ≤ 140737488355328 := fun x hx => by have := parts_mem_len l x hx; omega
 by_cases h : (parts l).length ≤ 4 ∧ l.length ≤ 200
 ·rw [if_pos h]
  obtain ⟨r1, r2⟩ := four_run (parts l) h.1 hx (parts l).length 0 0 0 (by omega) (List.length_pos_iff.2 (parts_ne l)) (by omega) (by simp) (by simp)
  refine ⟨?_, ?_⟩
  ·unfold spec_FourGet.f
   refine ev_bind (spec_Parts l (by omega)) ?_
   simp only [List.length_map, B_size, if_neg (show ¬ ((parts l).length : Int) > 4 by omega), show decide ((l.length : Int) > 200) = false from decide_eq_false (by omega)]
   refine Ev.step (fun k => by rw [spec_FourGet.j0]) ?_
   simp only [Bool.false_eq_true, if_false]
   exact r1
  ·unfold impl_FourGet.f
   simp only [impl_Labels l (by omega), Option.bind_some, List.length_map, B_size, if_neg (show ¬ (l.length : Int) > 200 by omega), show decide (((parts l).length : Int) > 4) = false from decide_eq_false (by omega)]
   refine Ev.step (fun k => by rw [impl_FourGet.j0]) ?_
   simp only [Bool.false_eq_true, if_false, List.length_map]
   exact r2
 ·rw [if_neg h]
  refine ⟨?_, ?_⟩
  ·unfold spec_FourGet.f
   refine ev_bind (spec_Parts l (by omega)) ?_
   by_cases h1 : ((parts l).length : Int) > 4
   ·simp only [List.length_map, B_size, if_pos h1]
    refine ev_1 fun k => ?_
    simp only [spec_FourGet.j0, if_true]
   ·simp only [List.length_map, B_size, if_neg h1, show decide ((l.length : Int) > 200) = true from decide_eq_true (by omega)]
    refine ev_1 fun k => ?_
    simp only [spec_FourGet.j0, if_true]
  ·unfold impl_FourGet.f
   simp only [impl_Labels l (by omega), Option.bind_some, List.length_map, B_size]
   by_cases h1 : (l.length : Int) > 200
   ·simp only [if_pos h1]
    refine ev_1 fun k => ?_
    simp only [impl_FourGet.j0, if_true]
   ·simp only [if_neg h1, show decide (((parts l).length : Int) > 4) = true from decide_eq_true (by omega)]
    refine ev_1 fun k => ?_
    simp only [impl_FourGet.j0, if_true]
def hc (c : UInt8) : Bool := decide ((97 ≤ c.toNat ∧ c.toNat ≤ 122) ∨ (48 ≤ c.toNat ∧ c.toNat ≤ 57) ∨ c.toNat = 45 ∨ c.toNat = 95)
theorem hc_iff (c : UInt8) : hc c = true ↔ ((97 ≤ c.toNat ∧ c.toNat ≤ 122) ∨ (48 ≤ c.toNat ∧ c.toNat ≤ 57) ∨ c.toNat = 45 ∨ c.toNat = 95) := by unfold hc; simp
def dg (c : UInt8) : Bool := decide (48 ≤ c.toNat ∧ c.toNat ≤ 57)
theorem dg_iff (c : UInt8) : dg c = true ↔ (48 ≤ c.toNat ∧ c.toNat ≤ 57) := by unfold dg; simp
theorem isDigit_f (c : UInt8) : impl_isDigit.f ((c.toNat : Nat) : Int) = some (dg c) := by
 unfold impl_isDigit.f
 by_cases h : ((c.toNat : Nat) : Int) ≥ 48
 ·rw [if_pos h]; exact congrArg some (decide_eq_decide.2 (by omega))
 ·rw [if_neg h]; exact congrArg some (decide_eq_false (by omega)).symm
theorem in_f (n a b : Int) : impl_in.f n a b = some (decide (a ≤ n ∧ n ≤ b)) := by
 unfold impl_in.f
 by_cases h : n ≥ a
 ·rw [if_pos h]; congr 1; simp; omega
 ·rw [if_neg h]; congr 1; symm; simp; omega
def goodFrom (n : Nat) : Nat → List Bs → Bool
 | _, [] => true
 | i, p :: r => !(p.isEmpty && (decide (i + 1 < n) || decide (i = 0))) && p.all hc && goodFrom n (i + 1) r
theorem ev_eq {α : Type} {g f : Nat → Option α} {r : α} (h : Ev f r) (e : ∀ k, g k = f k) : Ev g r := by
 obtain ⟨K, hK⟩ := h
 exact ⟨K, fun k hk => by rw [e k]; exact hK k hk⟩
set_option maxHeartbeats 1000000 in
theorem name_l1 (s : ByteArray) (P : List Bs) (i : Nat) (hi : i < P.length) (hP : P.length ≤ 140737488355328) (hp : P[i].length ≤ 140737488355328) (r : Bool) (next : Ev (fun k => spec_l2Name.l0 k s (P.map B) ((i + 1 : Nat) : Int)) r) (d : Nat) : ∀ j : Nat, j + d = P[i].length → Ev (fun k => spec_l2Name.l1 k s (P.map B) i j) ((P[i].drop j).all hc && r) := by
 have hi0 : (0 : Int) ≤ (i : Int) := by omega
 have hi1 : (i : Int) < (P.length : Int) := by omega
 have hw : wrap64 ((i : Int) + 1) = ((i + 1 : Nat) : Int) := by rw [w64 (by omega) (by omega)]; rfl
 induction d with
 | zero =>
  intro j hj
  refine Ev.step (fun k => by rw [spec_l2Name.l1]) ?_
  simp only [List.length_map, if_pos hi1, if_pos hi0, rd_parts P i hi, B_size, if_neg (show ¬ (j : Int) < (P[i].length : Int) by omega), hw]
  rw [List.drop_eq_nil_of_le (by omega)]
  simpa using next
 | succ d ih =>
  intro j hj
  have hlt : j < P[i].length := by omega
  have hj0 : (0 : Int) ≤ (j : Int) := by omega
  have hj1 : (j : Int) < (P[i].length : Int) := by omega
  have hwj : wrap64 ((j : Int) + 1) = ((j + 1 : Nat) : Int) := by rw [w64 (by omega) (by omega)]; rfl
  have e := ih (j + 1) (by omega)
  refine Ev.step (fun k => by rw [spec_l2Name.l1]) ?_
  simp only [List.length_map, if_pos hi1, if_pos hi0, rd_parts P i hi, B_size, if_pos hj1, if_pos hj0, hwj, bt_B, Int.toNat_natCast, get_eq hlt]
  rw [List.drop_eq_getElem_cons hlt, List.all_cons]
  by_cases h : hc P[i][j] = true
  ·rw [h, Bool.true_and]
   rw [hc_iff] at h
   refine ev_eq e fun k => ?_
   revert h; generalize P[i][j].toNat = n; intro h
   repeat' (first | rfl | omega | split)
  ·rw [Bool.not_eq_true _ |>.mp h, Bool.false_and, Bool.false_and]
   rw [hc_iff] at h
   refine ev_of fun k => ?_
   revert h; generalize P[i][j].toNat = n; intro h
   repeat' (first | rfl | omega | split)
theorem name_l0 (s : ByteArray) (P : List Bs) (hP : P.length ≤ 140737488355328) (hp : ∀ x ∈ P, x.length ≤ 140737488355328) (d : Nat) : ∀ i : Nat, i + d = P.length → Ev (fun k => spec_l2Name.l0 k s (P.map B) i) (goodFrom P.length i (P.drop i) && decide (1 ≤ s.size ∧ s.size ≤ 60)) := by
 induction d with
 | zero =>
  intro i hi
  refine ev_1 fun k => ?_
  simp only [spec_l2Name.l0, List.length_map]
  rw [if_neg (by omega), In_f, Option.bind_some, List.drop_eq_nil_of_le (by omega)]
  simp only [goodFrom, Bool.true_and]
  congr 1
  simp only [decide_eq_decide]
  omega
 | succ d ih =>
  intro i hi
  have hlt : i < P.length := by omega
  have hi0 : (0 : Int) ≤ (i : Int) := by omega
  have hi1 : (i : Int) < (P.length : Int) := by omega
  have hwl : wrap64 ((P.length : Int) - 1) = ((P.length - 1 : Nat) : Int) := by rw [w64 (by omega) (by omega)]; omega
  have e := ih (i + 1) (by omega)
  have e1 := name_l1 s P i hlt hP (hp _ (List.getElem_mem hlt)) _ e P[i].length 0 (by omega)
  refine Ev.step (fun k => by rw [spec_l2Name.l0]) ?_
  simp only [List.length_map, if_pos hi1, if_pos hi0, rd_parts P i hlt, B_toList, hwl]
  rw [List.drop_eq_getElem_cons hlt]
  simp only [goodFrom]
  have j1 : ∀ b : Bool, b = (P[i].isEmpty && (decide (i + 1 < P.length) || decide (i = 0))) → Ev (fun k => spec_l2Name.j1 k s (P.map B) i b) ((!(P[i].isEmpty && (decide (i + 1 < P.length) || decide (i = 0))) && P[i].all hc && goodFrom P.length (i + 1) (P.drop (i + 1))) && decide (1 ≤ s.size ∧ s.size ≤ 60)) := by
   intro b hb
   refine Ev.step (fun k => by rw [spec_l2Name.j1]) ?_
   rw [← hb]
   cases b with
   | true => simp only [if_true, Bool.not_true, Bool.false_and]; exact Ev.now _
   | false =>
    simp only [Bool.false_eq_true, if_false, Bool.not_false, Bool.true_and, Bool.and_assoc]
    simpa using e1
  by_cases h1 : P[i] = []
  ·simp only [if_pos h1]
   by_cases h2 : (i : Int) < ((P.length - 1 : Nat) : Int)
   ·simp only [if_pos h2]; exact j1 _ (by rw [h1]; simp; omega)
   ·simp only [if_neg h2]
    refine j1 _ ?_
    rw [h1]
    apply bool_eq
    simp only [beq_iff_eq, List.isEmpty_nil, Bool.true_and, Bool.or_eq_true, decide_eq_true_eq]
    omega
  ·simp only [if_neg h1]
   exact j1 _ (by simp [h1])
theorem emp_beq (p : Bs) : (([] : Bs) == p) = p.isEmpty := by cases p <;> rfl
theorem good_rest (n : Nat) : ∀ (r : List Bs) (i : Nat), 0 < i → i + r.length = n → goodFrom n i r = (!r.dropLast.contains [] && r.all (·.all hc))
 | [], i, h0, h => by simp [goodFrom]
 | [p], i, h0, h => by
  simp only [List.length_cons, List.length_nil] at h
  simp only [goodFrom, decide_eq_false (show ¬ i + 1 < n by omega), decide_eq_false (show ¬ i = 0 by omega)]
  simp
 | p :: q :: r, i, h0, h => by
  simp only [List.length_cons] at h
  have ih := good_rest n (q :: r) (i + 1) (by omega) (by simp only [List.length_cons]; omega)
  rw [goodFrom, ih, decide_eq_true (show i + 1 < n by omega), List.dropLast_cons_of_ne_nil (show q :: r ≠ [] by simp), List.contains_cons, emp_beq, List.all_cons (a := p)]
  generalize p.isEmpty = a, p.all hc = b, (q :: r).dropLast.contains [] = c, (q :: r).all (·.all hc) = e
  cases a <;> cases b <;> cases c <;> cases e <;> rfl
theorem good_parts (l : Bs) : goodFrom (splitC 46 l).length 0 (splitC 46 l) = (!(parts l).contains [] && (splitC 46 l).all (·.all hc)) := by
 unfold parts
 have hne := splitC_ne 46 l
 revert hne
 generalize splitC 46 l = P
 intro hne
 match P, hne with
 | [p], _ =>
  simp [goodFrom]
  cases p <;> simp
 | p :: q :: r, _ =>
  have ih := good_rest (p :: q :: r).length (q :: r) 1 (by omega) (by simp only [List.length_cons]; omega)
  rw [goodFrom, ih, decide_eq_true (show 0 + 1 < (p :: q :: r).length by simp only [List.length_cons]; omega)]
  have hl : (p :: q :: r).getLast? = (q :: r).getLast? := List.getLast?_cons_cons
  rw [hl]
  by_cases hz : (q :: r).getLast? = some []
  ·rw [if_pos ⟨by simp, hz⟩, List.dropLast_cons_of_ne_nil (show q :: r ≠ [] by simp), List.contains_cons, emp_beq, List.all_cons (a := p)]
   generalize p.isEmpty = a, p.all hc = b, (q :: r).dropLast.contains [] = c, (q :: r).all (·.all hc) = e
   cases a <;> cases b <;> cases c <;> cases e <;> rfl
  ·rw [if_neg (fun h => hz h.2)]
   have hd : (q :: r).contains [] = (q :: r).dropLast.contains [] := by
    obtain ⟨m, z, hmz⟩ : ∃ m z, q :: r = m ++ [z] := ⟨_, _, (List.dropLast_concat_getLast (show q :: r ≠ [] by simp)).symm⟩
    rw [hmz] at hz ⊢
    have hz' : ¬ z = [] := fun e => hz (by simp [e])
    apply bool_eq
    simp [List.dropLast_concat, Ne.symm hz']
   rw [show (p :: q :: r).contains [] = (([] : Bs) == p || (q :: r).contains []) from List.contains_cons, emp_beq, hd, List.all_cons (a := p)]
   generalize p.isEmpty = a, p.all hc = b, (q :: r).dropLast.contains [] = c, (q :: r).all (·.all hc) = e
   cases a <;> cases b <;> cases c <;> cases e <;> rfl
theorem splitC_all (Q : UInt8 → Bool) (c : UInt8) : ∀ l : Bs, ((splitC c l).all (·.all Q)) = l.all (fun x => Q x || decide (x = c))
 | [] => by simp [splitC]
 | y :: t => by
  have ih := splitC_all Q c t
  unfold splitC
  by_cases e : y = c
  ·rw [if_pos e]; simp [ih, e]
  ·rw [if_neg e]
   have hne := splitC_ne c t
   revert ih hne
   cases splitC c t with
   | nil => intro _ h; exact absurd rfl h
   | cons a r =>
    intro ih _
    simp only [List.all_cons] at ih ⊢
    rw [← ih]
    simp [e, Bool.and_assoc]
def isHost (l : Bs) : Bool := l.all (fun x => hc x || decide (x = 46)) && decide (1 ≤ l.length ∧ l.length ≤ 60) && !(parts l).contains []
theorem spec_Name (l : Bs) (hl : l.length ≤ 8796093022207) : Ev (fun k => spec_l2Name.f k (B l)) (isHost l) := by
 unfold spec_l2Name.f
 refine ev_bind (spec_Cut 46 46 rfl (by decide) l hl) ?_
 have h1 := splitC_len_le 46 l
 have := name_l0 (B l) (splitC 46 l) (by omega) (fun x hx => by have := splitC_mem_len 46 l x hx; omega) (splitC 46 l).length 0 (by omega)
 rw [List.drop_zero, good_parts, splitC_all, B_size] at this
 have e : isHost l = (!(parts l).contains [] && l.all (fun x => hc x || decide (x = 46)) && decide (1 ≤ l.length ∧ l.length ≤ 60)) := by
  unfold isHost
  cases (parts l).contains [] <;> cases l.all (fun x => hc x || decide (x = 46)) <;> cases decide (1 ≤ l.length ∧ l.length ≤ 60) <;> rfl
 rw [e]
 exact this
theorem impl_Index (P : List Bs) (x : Bs) (hP : P.length ≤ 140737488355328) (d : Nat) : ∀ i : Nat, i + d = P.length → ∃ n : Int, Ev (fun k => slices_Index_string_string.l0 k (P.map B) (B x) (P.length : Int) i) n ∧ (decide (n ≥ 0)) = (P.drop i).contains x := by
 induction d with
 | zero =>
  intro i hi
  refine ⟨-1, ev_1 fun k => ?_, ?_⟩
  ·simp only [slices_Index_string_string.l0]
   rw [if_neg (by omega)]
  ·rw [List.drop_eq_nil_of_le (by omega)]; rfl
 | succ d ih =>
  intro i hi
  have hlt : i < P.length := by omega
  have hi0 : (0 : Int) ≤ (i : Int) := by omega
  have hi1 : (i : Int) < (P.length : Int) := by omega
  have hw : wrap64 ((i : Int) + 1) = ((i + 1 : Nat) : Int) := by rw [w64 (by omega) (by omega)]; rfl
  by_cases e : x = P[i]
  ·refine ⟨i, ?_, ?_⟩
   ·refine Ev.step (fun k => by rw [slices_Index_string_string.l0]) ?_
    simp only [List.length_map, if_pos hi1, if_pos hi0, rd_parts P i hlt, B_toList, if_pos e]
    exact Ev.now _
   ·rw [List.drop_eq_getElem_cons hlt, ← e]; simp
  ·obtain ⟨n, h1, h2⟩ := ih (i + 1) (by omega)
   refine ⟨n, ?_, ?_⟩
   ·refine Ev.step (fun k => by rw [slices_Index_string_string.l0]) ?_
    simp only [List.length_map, if_pos hi1, if_pos hi0, rd_parts P i hlt, B_toList, if_neg e, hw]
    exact h1
   ·rw [h2, List.drop_eq_getElem_cons hlt, List.contains_cons, beq_eq_false_iff_ne.2 e, Bool.false_or]
theorem impl_Contains (P : List Bs) (x : Bs) (hP : P.length ≤ 140737488355328) : Ev (fun k => slices_Contains_string_string.f k (P.map B) (B x)) (P.contains x) := by
 obtain ⟨n, h1, h2⟩ := impl_Index P x hP P.length 0 (by omega)
 unfold slices_Contains_string_string.f slices_Index_string_string.f
 rw [List.length_map]
 refine ev_bind h1 ?_
 rw [h2, List.drop_zero]
 exact Ev.now _
set_option maxHeartbeats 1000000 in
theorem impl_Host (l : Bs) (hl : l.length < 4294967281) : Ev (fun k => impl_isHostName.f k (B l)) (isHost l) := by
 unfold impl_isHostName.f
 have go : ∀ (d i : Nat), i + d = l.length → Ev (fun k => impl_isHostName.l0 k (B l) (l.length : Int) i) ((l.drop i).all (fun x => hc x || decide (x = 46)) && (decide (1 ≤ l.length ∧ l.length ≤ 60) && !(parts l).contains [])) := by
  intro d
  induction d with
  | zero =>
   intro i hi
   refine Ev.step (fun k => by rw [impl_isHostName.l0]) ?_
   simp only [if_neg (show ¬ (i : Int) < (l.length : Int) by omega), in_f, Option.bind_some, B_size, impl_Labels l hl]
   rw [List.drop_eq_nil_of_le (by omega)]
   simp only [List.all_nil, Bool.true_and, decide_eq_true_eq]
   by_cases h : 1 ≤ l.length ∧ l.length ≤ 60
   ·simp only [if_pos (show (1 : Int) ≤ (l.length : Int) ∧ (l.length : Int) ≤ 60 by omega), decide_eq_true h, Bool.true_and]
    refine ev_bind (impl_Contains (parts l) [] (by have := parts_len l; omega)) ?_
    exact Ev.now _
   ·simp only [if_neg (show ¬ ((1 : Int) ≤ (l.length : Int) ∧ (l.length : Int) ≤ 60) by omega), decide_eq_false h, Bool.false_and]
    exact Ev.now _
  | succ d ih =>
   intro i hi
   have hlt : i < l.length := by omega
   have hi0 : (0 : Int) ≤ (i : Int) := by omega
   have hi1 : (i : Int) < (l.length : Int) := by omega
   have hw : wrap64 ((i : Int) + 1) = ((i + 1 : Nat) : Int) := by rw [w64 (by omega) (by omega)]; rfl
   have e := ih (i + 1) (by omega)
   refine Ev.step (fun k => by rw [impl_isHostName.l0]) ?_
   simp only [B_size, if_pos hi1, if_pos hi0, hw, bt_B, Int.toNat_natCast, get_eq hlt, isDigit_f, Option.bind_some, dg_iff]
   rw [List.drop_eq_getElem_cons hlt, List.all_cons]
   have hq : (hc l[i] || decide (l[i] = 46)) = true ↔ ((97 ≤ l[i].toNat ∧ l[i].toNat ≤ 122) ∨ (48 ≤ l[i].toNat ∧ l[i].toNat ≤ 57) ∨ l[i].toNat = 45 ∨ l[i].toNat = 95 ∨ l[i].toNat = 46) := by
    rw [Bool.or_eq_true, hc_iff, decide_eq_true_eq]
    have : l[i] = 46 ↔ l[i].toNat = 46 := by rw [← UInt8.toNat_inj]; rfl
    rw [this]; omega
   by_cases h : (hc l[i] || decide (l[i] = 46)) = true
   ·rw [h, Bool.true_and]
    rw [hq] at h
    refine ev_eq e fun k => ?_
    clear hq
    revert h; generalize l[i].toNat = n; intro h
    repeat' (first | rfl | omega | split)
   ·rw [Bool.not_eq_true _ |>.mp h, Bool.false_and, Bool.false_and]
    rw [hq] at h
    refine ev_of fun k => ?_
    clear hq
    revert h; generalize l[i].toNat = n; intro h
    repeat' (first | rfl | omega | split)
 have := go l.length 0 (by omega)
 rw [List.drop_zero, ← Bool.and_assoc] at this
 rw [B_size]
 exact this

def numEnd (q : Bs) : Bool := if q = [] then false else if q.take 2 = [48, 120] ∨ q.take 2 = [48, 88] then (partNum q).isSome else q.all dg
def lastOf (l : Bs) : Bs := (parts l).getLastD []
theorem last_rd (l : Bs) (hl : l.length ≤ 8796093022207) : wrap64 (((parts l).length : Int) - 1) = (((parts l).length - 1 : Nat) : Int) ∧ rdOf ByteArray.empty ((parts l).map B) (((parts l).length - 1 : Nat) : Int) = B (lastOf l) ∧ 0 < (parts l).length ∧ (lastOf l).length ≤ l.length := by
 have h1 := parts_len l
 have h2 := List.length_pos_iff.2 (parts_ne l)
 have e : lastOf l = (parts l)[(parts l).length - 1]'(by omega) := by
  unfold lastOf
  rw [List.getLastD_eq_getLast?, List.getLast?_eq_getElem?, List.getElem?_eq_getElem (by omega)]; rfl
 refine ⟨by rw [w64 (by omega) (by omega)]; omega, ?_, h2, ?_⟩
 ·rw [rd_parts _ _ (by omega), e]
 ·rw [e]; exact parts_mem_len l _ (List.getElem_mem _)
theorem take_two (x y : UInt8) (q : Bs) : q.take 2 = [x, y] ↔ ∃ t, q = x :: y :: t := by
 match q with
 | [] => simp
 | [a] => simp
 | a :: b :: t => simp
theorem numEnd_spec (q : Bs) (h : q ≠ []) : numEnd q = (q.all dg || (decide (q.take 2 = [48, 120] ∨ q.take 2 = [48, 88]) && (partNum q).isSome)) := by
 unfold numEnd
 rw [if_neg h]
 by_cases hp : q.take 2 = [48, 120] ∨ q.take 2 = [48, 88]
 ·rw [if_pos hp, decide_eq_true hp, Bool.true_and]
  have : q.all dg = false := by
   rcases hp with hp | hp
   ·obtain ⟨t, rfl⟩ := (take_two _ _ _).1 hp; simp [dg]
   ·obtain ⟨t, rfl⟩ := (take_two _ _ _).1 hp; simp [dg]
  rw [this, Bool.false_or]
 ·rw [if_neg hp, decide_eq_false hp, Bool.false_and, Bool.or_false]
theorem getD_ge (q : Bs) : decide ((partNum q).getD (-1) ≥ 0) = (partNum q).isSome := by
 cases h : partNum q with
 | none => rfl
 | some n => have := partNum_rng q n h; simp; omega
theorem spec_Ends_l0 (q : Bs) (hq : q ≠ []) (hl : q.length ≤ 140737488355328) (d : Nat) : ∀ (i : Nat) (b : Bool), i + d = q.length → Ev (fun k => spec_l2Ends.l0 k (B q) b i) ((b && (q.drop i).all dg) || (decide (q.take 2 = [48, 120] ∨ q.take 2 = [48, 88]) && (partNum q).isSome)) := by
 induction d with
 | zero =>
  intro i b hi
  refine Ev.step (fun k => by rw [spec_l2Ends.l0]) ?_
  simp only [B_size, if_neg (show ¬ (i : Int) < (q.length : Int) by omega)]
  rw [List.drop_eq_nil_of_le (by omega), List.all_nil, Bool.and_true]
  cases b with
  | true => simp only [if_true, Bool.true_or]; exact Ev.now _
  | false =>
   simp only [Bool.false_eq_true, if_false, Bool.false_or]
   match q, hq, hl with
   | [a], _, _ =>
    simp only [List.length_cons, List.length_nil, if_neg (show ¬ (((0 + 1 : Nat) : Nat) : Int) ≥ 2 by omega)]
    have : (decide ([a].take 2 = [48, 120] ∨ [a].take 2 = [48, 88]) && (partNum [a]).isSome) = false := by simp
    rw [this]; exact Ev.now _
   | a :: c :: t, _, hl =>
    have n2 : (((a :: c :: t).length : Nat) : Int) ≥ 2 := by simp only [List.length_cons]; omega
    have n0 : 0 < (((a :: c :: t).length : Nat) : Int) := by omega
    have n1 : 1 < (((a :: c :: t).length : Nat) : Int) := by omega
    simp only [if_pos n2, if_pos n0, if_pos n1, bt_0, bt_1]
    have ht : ((a :: c :: t).take 2 = [48, 120] ∨ (a :: c :: t).take 2 = [48, 88]) ↔ (a = 48 ∧ (c = 120 ∨ c = 88)) := by
     simp only [List.take, List.cons.injEq, and_true]
     constructor
     ·rintro (⟨x, y⟩ | ⟨x, y⟩)
      ·exact ⟨x, Or.inl y⟩
      ·exact ⟨x, Or.inr y⟩
     ·rintro ⟨x, y | y⟩
      ·exact Or.inl ⟨x, y⟩
      ·exact Or.inr ⟨x, y⟩
    have sp := spec_Part (a :: c :: t) hl
    by_cases e : a = 48
    ·simp only [if_pos (show ((a.toNat : Nat) : Int) = 48 from (byte_eq a 48 (by decide)).2 e)]
     by_cases e2 : c = 120
     ·simp only [if_pos (show ((c.toNat : Nat) : Int) = 120 from (byte_eq c 120 (by decide)).2 e2)]
      rw [decide_eq_true (ht.2 ⟨e, Or.inl e2⟩), Bool.true_and]
      refine ev_bind sp ?_
      rw [getD_ge]; exact Ev.now _
     ·simp only [if_neg (show ¬ ((c.toNat : Nat) : Int) = 120 from fun z => e2 ((byte_eq c 120 (by decide)).1 z))]
      by_cases e3 : c = 88
      ·simp only [if_pos (show ((c.toNat : Nat) : Int) = 88 from (byte_eq c 88 (by decide)).2 e3)]
       rw [decide_eq_true (ht.2 ⟨e, Or.inr e3⟩), Bool.true_and]
       refine ev_bind sp ?_
       rw [getD_ge]; exact Ev.now _
      ·simp only [if_neg (show ¬ ((c.toNat : Nat) : Int) = 88 from fun z => e3 ((byte_eq c 88 (by decide)).1 z))]
       rw [decide_eq_false (fun z => (ht.1 z).2.elim e2 e3), Bool.false_and]; exact Ev.now _
    ·simp only [if_neg (show ¬ ((a.toNat : Nat) : Int) = 48 from fun z => e ((byte_eq a 48 (by decide)).1 z))]
     rw [decide_eq_false (fun z => e (ht.1 z).1), Bool.false_and]; exact Ev.now _
 | succ d ih =>
  intro i b hi
  have hlt : i < q.length := by omega
  have hi0 : (0 : Int) ≤ (i : Int) := by omega
  have hi1 : (i : Int) < (q.length : Int) := by omega
  have hw : wrap64 ((i : Int) + 1) = ((i + 1 : Nat) : Int) := by rw [w64 (by omega) (by omega)]; rfl
  refine Ev.step (fun k => by rw [spec_l2Ends.l0]) ?_
  simp only [B_size, if_pos hi1, if_pos hi0, hw, bt_B, Int.toNat_natCast, get_eq hlt]
  rw [List.drop_eq_getElem_cons hlt, List.all_cons]
  cases b with
  | false =>
   simp only [Bool.false_eq_true, if_false, Bool.false_and]
   have := ih (i + 1) false (by omega)
   simpa using this
  | true =>
   simp only [if_true, Bool.true_and]
   have := ih (i + 1) (dg q[i]) (by omega)
   by_cases h : ((q[i].toNat : Nat) : Int) ≥ 48
   ·simp only [if_pos h]
    rw [show decide (((q[i].toNat : Nat) : Int) ≤ 57) = dg q[i] by unfold dg; congr 1; simp; omega]
    exact this
   ·simp only [if_neg h]
    rw [show dg q[i] = false by unfold dg; simp; omega] at this ⊢
    exact this
theorem spec_EndsNum (l : Bs) (hl : l.length ≤ 8796093022207) : Ev (fun k => spec_l2Ends.f k (B l)) (numEnd (lastOf l)) := by
 unfold spec_l2Ends.f
 obtain ⟨h1, h2, h3, h4⟩ := last_rd l hl
 refine ev_bind (spec_Parts l hl) ?_
 simp only [List.length_map, h1, h2, if_pos (show (0 : Int) ≤ (((parts l).length - 1 : Nat) : Int) by omega), if_pos (show (((parts l).length - 1 : Nat) : Int) < ((parts l).length : Int) by omega), B_toList]
 by_cases h : lastOf l = []
 ·simp only [if_pos h]
  rw [show numEnd (lastOf l) = false by unfold numEnd; rw [if_pos h]]
  exact Ev.now _
 ·simp only [if_neg h]
  rw [numEnd_spec _ h]
  have := spec_Ends_l0 (lastOf l) h (by omega) (lastOf l).length 0 true (by omega)
  simpa using this
theorem impl_EndsNum (l : Bs) (hl : l.length < 4294967281) : Ev (fun k => impl_endsInNumber.f k (B l)) (numEnd (lastOf l)) := by
 unfold impl_endsInNumber.f
 obtain ⟨h1, h2, h3, h4⟩ := last_rd l (by omega)
 simp only [impl_Labels l hl, Option.bind_some, List.length_map, h1, h2, if_pos (show (0 : Int) ≤ (((parts l).length - 1 : Nat) : Int) by omega), if_pos (show (((parts l).length - 1 : Nat) : Int) < ((parts l).length : Int) by omega), B_toList]
 revert h4
 generalize lastOf l = q
 intro h4
 by_cases h : q = []
 ·simp only [if_pos h]
  rw [show numEnd q = false by unfold numEnd; rw [if_pos h]]
  exact Ev.now _
 simp only [if_neg h]
 have p1 : strings_HasPrefix.f (B q) (⟨#[48, 120]⟩ : ByteArray) = some (q.take 2 == [48, 120]) := hasPrefix2 48 120 q
 have p2 : strings_HasPrefix.f (B q) (⟨#[48, 88]⟩ : ByteArray) = some (q.take 2 == [48, 88]) := hasPrefix2 48 88 q
 simp only [p1, p2, Option.bind_some, beq_iff_eq]
 have j0 : ∀ b : Bool, (b = true ↔ (q.take 2 = [48, 120] ∨ q.take 2 = [48, 88])) → Ev (fun k => impl_endsInNumber.j0 k (B q) b) (numEnd q) := by
  intro b hb
  refine Ev.step (fun k => by rw [impl_endsInNumber.j0]) ?_
  unfold numEnd
  rw [if_neg h]
  by_cases hp : q.take 2 = [48, 120] ∨ q.take 2 = [48, 88]
  ·simp only [if_pos (hb.2 hp), if_pos hp]
   refine ev_bind (impl_Number q (by omega)) ?_
   rw [show (ok (partNum q)).2 = (partNum q).isSome by unfold ok; cases partNum q <;> rfl]
   exact Ev.now _
  ·simp only [if_neg (fun z => hp (hb.1 z)), if_neg hp]
   have go : ∀ (d i : Nat), i + d = q.length → Ev (fun k => impl_endsInNumber.l0 k (B q) (q.length : Int) i) ((q.drop i).all dg) := by
    intro d
    induction d with
    | zero =>
     intro i hi
     refine ev_1 fun k => ?_
     simp only [impl_endsInNumber.l0]
     rw [if_neg (by omega), List.drop_eq_nil_of_le (by omega)]; rfl
    | succ d ih =>
     intro i hi
     have hlt : i < q.length := by omega
     have hi0 : (0 : Int) ≤ (i : Int) := by omega
     have hi1 : (i : Int) < (q.length : Int) := by omega
     have hw : wrap64 ((i : Int) + 1) = ((i + 1 : Nat) : Int) := by rw [w64 (by omega) (by omega)]; rfl
     have e := ih (i + 1) (by omega)
     refine Ev.step (fun k => by rw [impl_endsInNumber.l0]) ?_
     simp only [B_size, if_pos hi1, if_pos hi0, hw, bt_B, Int.toNat_natCast, get_eq hlt, isDigit_f, Option.bind_some]
     rw [List.drop_eq_getElem_cons hlt, List.all_cons]
     cases hd : dg q[i] with
     | true => simp only [if_true, Bool.true_and]; exact e
     | false => simp only [Bool.false_eq_true, if_false, Bool.false_and]; exact Ev.now _
   have := go q.length 0 (by omega)
   rw [List.drop_zero] at this
   rw [B_size]; exact this
 by_cases c1 : q.take 2 = [48, 120]
 ·simp only [if_pos c1]; exact j0 true (by simp [c1])
 ·simp only [if_neg c1]
  refine j0 _ ?_
  rw [beq_iff_eq]
  constructor
  ·exact Or.inr
  ·rintro (z | z)
   ·exact absurd z c1
   ·exact z

def plain (l : Bs) : Bool := isHost l && !numEnd (lastOf l)

theorem impl_HostOk_name (l : Bs) (n : Int) (hl : l.length < 4294967281) : Ev (fun k => impl_HostOk.f k 1 (B l) n) (decide (n = 0) && plain l) := by
 unfold impl_HostOk.f plain
 simp only [if_neg (show ¬ (1 : Int) = 0 by decide), if_true]
 by_cases h : n = 0
 ·simp only [if_pos h, decide_eq_true h, Bool.true_and]
  refine ev_bind (impl_Host l hl) ?_
  cases isHost l with
  | false => simp only [Bool.false_eq_true, if_false, Bool.false_and]; exact Ev.now _
  | true =>
   simp only [if_true, Bool.true_and]
   exact ev_bind (impl_EndsNum l hl) (Ev.now _)
 ·simp only [if_neg h, decide_eq_false h, Bool.false_and]; exact Ev.now _
theorem spec_HostOk_any (l : Bs) (n : Int) (hl : l.length ≤ 8796093022207) : Ev (fun k => spec_HostOk.f k 1 (B l) n) (decide (n = 0) && plain l) := by
 unfold spec_HostOk.f plain
 simp only [if_neg (show ¬ (1 : Int) = 0 by decide), if_true]
 refine ev_bind (spec_Name l hl) ?_
 cases isHost l with
 | false => simp only [Bool.false_eq_true, if_false, Bool.false_and, Bool.and_false]; exact Ev.now _
 | true =>
  simp only [if_true, Bool.true_and]
  refine ev_bind (spec_EndsNum l hl) ?_
  cases numEnd (lastOf l) with
  | true => simp only [if_true, Bool.not_true, Bool.and_false]; exact Ev.now _
  | false =>
   simp only [Bool.false_eq_true, if_false, Bool.not_false, Bool.and_true]
   rw [show (n == 0) = decide (n = 0) from rfl]; exact Ev.now _
def hostOkV (n0 : Int) (l : Bs) (n2 : Int) : Bool := if n0 = 0 then decide (l = []) && (n2 == 0) else if n0 = 1 then decide (n2 = 0) && plain l else if n0 = 2 then decide (l = []) && decide (0 ≤ n2 ∧ n2 ≤ 4294967295) else false
theorem hostOk_val (n0 n2 : Int) (l : Bs) (hl : l.length ≤ 1048576) : Ev (fun k => spec_HostOk.f k n0 (B l) n2) (hostOkV n0 l n2) ∧ Ev (fun k => impl_HostOk.f k n0 (B l) n2) (hostOkV n0 l n2) := by
 unfold hostOkV
 by_cases h0 : n0 = 0
 ·rw [if_pos h0]
  refine ⟨?_, ?_⟩
  ·unfold spec_HostOk.f
   simp only [if_pos h0, B_toList]
   by_cases h : l = []
   ·simp only [if_pos h, decide_eq_true h, Bool.true_and]; exact Ev.now _
   ·simp only [if_neg h, decide_eq_false h, Bool.false_and]; exact Ev.now _
  ·unfold impl_HostOk.f
   simp only [if_pos h0, B_toList]
   have e : (n0 == 0 && (l == ([] : List UInt8) && (n2 == 0))) = (decide (l = []) && (n2 == 0)) := by
    rw [h0]; cases l <;> simp
   rw [e]; exact Ev.now _
 by_cases h1 : n0 = 1
 ·subst h1
  rw [if_neg (by decide), if_pos rfl]
  exact ⟨spec_HostOk_any l n2 (by omega), impl_HostOk_name l n2 (by omega)⟩
 by_cases h2 : n0 = 2
 ·rw [if_neg h0, if_neg h1, if_pos h2]
  refine ⟨?_, ?_⟩
  ·unfold spec_HostOk.f
   simp only [if_neg h0, if_neg h1, if_pos h2, B_toList, In_f, Option.bind_some]
   by_cases h : l = []
   ·simp only [if_pos h, decide_eq_true h, Bool.true_and]; exact Ev.now _
   ·simp only [if_neg h, decide_eq_false h, Bool.false_and]; exact Ev.now _
  ·unfold impl_HostOk.f
   simp only [if_neg h0, if_neg h1, if_pos h2, B_toList, in_f, Option.bind_some]
   by_cases h : l = []
   ·simp only [if_pos h, decide_eq_true h, Bool.true_and]; exact Ev.now _
   ·simp only [if_neg h, decide_eq_false h, Bool.false_and]; exact Ev.now _
 ·rw [if_neg h0, if_neg h1, if_neg h2]
  refine ⟨?_, ?_⟩
  ·unfold spec_HostOk.f
   simp only [if_neg h0, if_neg h1, if_neg h2]; exact Ev.now _
  ·unfold impl_HostOk.f
   simp only [if_neg h0, if_neg h1, if_neg h2]; exact Ev.now _
theorem impl_Decode_some (l : Bs) : impl_Decode.f (B l) = some (B (decodeMax l)) := by
 unfold impl_Decode.f; rw [B_data]

theorem spec_Decode_l0 (l : Bs) (hl : l.length ≤ 600) (d : Nat) : ∀ (i : Nat) (D : Bs), i + d = l.length → D.length ≤ i → D ++ pctDec (l.drop i) = pctDec l → Ev (fun k => spec_Decode.l0 k (B l) (ns D) i) (B (pctDec l)) := by
 induction d using Nat.strongRecOn with
 | _ d ih =>
 intro i D hi hD hE
 refine Ev.step (fun k => by rw [spec_Decode.l0]) ?_
 simp only [B_size]
 by_cases hlt : i < l.length
 ·simp only [if_pos (show (i : Int) < (l.length : Int) by omega), show decide ((l.length : Int) ≤ 600) = true from decide_eq_true (by omega)]
  refine Ev.step (fun k => by rw [spec_Decode.j1]) ?_
  have hi0 : (0 : Int) ≤ (i : Int) := by omega
  have hi1 : (i : Int) < (l.length : Int) := by omega
  have w1 : wrap64 ((i : Int) + 1) = ((i + 1 : Nat) : Int) := by rw [w64 (by omega) (by omega)]; rfl
  have w2 : wrap64 ((i : Int) + 2) = ((i + 2 : Nat) : Int) := by rw [w64 (by omega) (by omega)]; rfl
  have w3 : wrap64 (((i + 2 : Nat) : Int) + 1) = ((i + 3 : Nat) : Int) := by rw [w64 (by omega) (by omega)]; rfl
  have z1 : (0 : Int) ≤ ((i + 1 : Nat) : Int) := by omega
  have z2 : (0 : Int) ≤ ((i + 2 : Nat) : Int) := by omega
  have hln : (ns D).length < 140737488355328 := by simp; omega
  have hst := decode_at l i hlt
  have no : escAt l i = false → Ev (fun k => spec_Decode.j2 k (B l) (ns D) i false) (B (pctDec l)) := by
   intro he
   refine Ev.step (fun k => by rw [spec_Decode.j2]) ?_
   simp only [Bool.false_eq_true, if_false, B_size, bt_B, Int.toNat_natCast, get_eq hlt, if_pos hi0, if_pos hi1, if_pos hln, w1]
   rw [he, if_neg (by simp)] at hst
   have := ih (d - 1) (by omega) (i + 1) (D ++ [l[i]]) (by omega) (by simp; omega) (by rw [← hE, hst]; simp)
   rw [ns_append, ns_one] at this
   exact this
  simp only [if_true, B_size, bt_B, Int.toNat_natCast, get_eq hlt, if_pos hi0, if_pos hi1, w1, w2]
  by_cases c0 : l[i] = 37
  ·simp only [if_pos (show ((l[i].toNat : Nat) : Int) = 37 from (byte_eq _ 37 (by decide)).2 c0)]
   by_cases c1 : i + 2 < l.length
   ·have y1 : ((i + 1 : Nat) : Int) < (l.length : Int) := by omega
    have y2 : ((i + 2 : Nat) : Int) < (l.length : Int) := by omega
    simp only [if_pos y1, if_pos y2, if_pos z1, if_pos z2, get_eq c1, get_eq (show i + 1 < l.length by omega)]
    refine ev_bind (spec_hex _) ?_
    by_cases c2 : 0 ≤ hexI l[i + 1]
    ·simp only [if_pos (show hexI l[i + 1] ≥ 0 from c2)]
     refine ev_bind (spec_hex _) ?_
     by_cases c3 : 0 ≤ hexI l[i + 2]
     ·have he : escAt l i = true := by unfold escAt; rw [get_eq hlt, get_eq (show i + 1 < l.length by omega), get_eq c1]; simp [c0, c1, c2, c3]
      simp only [show decide (hexI l[i + 2] ≥ 0) = true from decide_eq_true c3]
      refine Ev.step (fun k => by rw [spec_Decode.j2]) ?_
      simp only [if_true, B_size, bt_B, w1, w2, w3, Int.toNat_natCast, if_pos y1, if_pos y2, if_pos z1, if_pos z2, get_eq c1, get_eq (show i + 1 < l.length by omega)]
      refine ev_bind (spec_hex _) ?_
      refine ev_bind (spec_hex _) ?_
      have r1 := hexI_rng l[i + 1]
      have r2 := hexI_rng l[i + 2]
      have hv : (wrap64 ((wrap64 (16 * hexI l[i + 1])) + hexI l[i + 2])) % 256 = ((escByte l[i + 1] l[i + 2]).toNat : Int) := by
       rw [w64 (n := 16 * hexI l[i + 1]) (by omega) (by omega), w64 (by omega) (by omega), escByte_val _ _ c2 c3]; omega
      simp only [if_pos hln, hv]
      rw [he, if_pos rfl, get_eq (show i + 1 < l.length by omega), get_eq c1] at hst
      have := ih (d - 3) (by omega) (i + 3) (D ++ [escByte l[i + 1] l[i + 2]]) (by omega) (by simp; omega) (by rw [← hE, hst]; simp)
      rw [ns_append, ns_one] at this
      exact this
     ·simp only [show decide (hexI l[i + 2] ≥ 0) = false from decide_eq_false (by omega)]
      exact no (by unfold escAt; rw [get_eq hlt, get_eq (show i + 1 < l.length by omega), get_eq c1]; simp [c3])
    ·simp only [if_neg (show ¬ hexI l[i + 1] ≥ 0 by omega)]
     exact no (by unfold escAt; rw [get_eq hlt, get_eq (show i + 1 < l.length by omega), get_eq c1]; simp [c2])
   ·simp only [if_neg (show ¬ ((i + 2 : Nat) : Int) < (l.length : Int) by omega)]
    exact no (by unfold escAt; simp [c1])
  ·simp only [if_neg (show ¬ ((l[i].toNat : Nat) : Int) = 37 from fun e => c0 ((byte_eq _ 37 (by decide)).1 e))]
   exact no (by unfold escAt; rw [get_eq hlt]; simp [c0])
 ·simp only [if_neg (show ¬ (i : Int) < (l.length : Int) by omega)]
  refine ev_1 fun k => ?_
  simp only [spec_Decode.j1, Bool.false_eq_true, if_false, str_ns]
  have : l.drop i = [] := List.drop_eq_nil_of_le (by omega)
  rw [this, decode_nil, List.append_nil] at hE
  rw [hE]
theorem spec_Decode_ev (l : Bs) : Ev (fun k => spec_Decode.f k (B l)) (B (decodeMax l)) := by
 unfold spec_Decode.f decodeMax
 by_cases hl : l.length ≤ 600
 ·rw [if_pos hl]
  exact spec_Decode_l0 l hl l.length 0 [] (by omega) (by simp) (by simp)
 ·rw [if_neg hl]
  refine Ev.step (fun k => by rw [spec_Decode.l0]) ?_
  simp only [B_size, if_pos (show (0 : Int) < (l.length : Int) by omega), show decide ((l.length : Int) ≤ 600) = false from decide_eq_false (by omega)]
  refine ev_1 fun k => ?_
  simp only [spec_Decode.j1, Bool.false_eq_true, if_false]
  exact congrArg some (str_ns [])

theorem impl_Lower_some (l : Bs) (h : l.length ≤ 140737488355328) : impl_Lower.f (B l) = some (B (lower l)) := by
 unfold impl_Lower.f; rw [if_pos (by simpa using h), B_data]
theorem lower_length (l : Bs) : (lower l).length = l.length := by simp [lower]
theorem spec_Lower_l0 (l : Bs) (hl : l.length ≤ 140737488355327) (d : Nat) : ∀ i : Nat, i + d = l.length → Ev (fun k => spec_Lower.l0 k (B l) (ns ((l.take i).map lowB)) i) (B (lower l)) := by
 induction d with
 | zero =>
  intro i hi
  refine ev_1 fun k => ?_
  simp only [spec_Lower.l0]
  rw [if_neg (by rw [B_size]; omega), str_ns, List.take_of_length_le (by omega)]; rfl
 | succ d ih =>
  intro i hi
  have hlt : i < l.length := by omega
  have e := ih (i + 1) (by omega)
  rw [List.take_succ_eq_append_getElem hlt, List.map_append, List.map_singleton, ns_append, ns_one] at e
  refine Ev.step (fun k => by rw [spec_Lower.l0]) ?_
  have hi0 : (0 : Int) ≤ (i : Int) := by omega
  have hi1 : (i : Int) < (l.length : Int) := by omega
  have hln : (ns ((l.take i).map lowB)).length < 140737488355328 := by simp; omega
  have hw : wrap64 ((i : Int) + 1) = ((i + 1 : Nat) : Int) := by rw [w64 (by omega) (by omega)]; rfl
  simp only [B_size, bt_B, Int.toNat_natCast, get_eq hlt, if_pos hi0, if_pos hi1, if_pos hln, hw]
  have h1 := lt256 l[i]
  by_cases c1 : ((l[i].toNat : Nat) : Int) ≥ 65
  ·by_cases c2 : ((l[i].toNat : Nat) : Int) ≤ 90
   ·have : ((lowB l[i]).toNat : Int) = (((l[i].toNat : Nat) : Int) + 32) % 256 := by
     unfold lowB; rw [if_pos (by omega)]; simp
    simp only [if_pos c1, if_pos c2, ← this]; exact e
   ·have : lowB l[i] = l[i] := by unfold lowB; rw [if_neg (by omega)]
    rw [this] at e
    simp only [if_pos c1, if_neg c2]; exact e
  ·have : lowB l[i] = l[i] := by unfold lowB; rw [if_neg (by omega)]
   rw [this] at e
   simp only [if_neg c1]; exact e
theorem spec_Lower_ev (l : Bs) (hl : l.length ≤ 140737488355327) : Ev (fun k => spec_Lower.f k (B l)) (B (lower l)) := by
 unfold spec_Lower.f
 have := spec_Lower_l0 l hl l.length 0 (by omega)
 simpa [ns] using this

theorem isHost_nil : isHost [] = false := by decide
def hostV (t : Bs) : Int × ByteArray × Int × Bool := if t = [] then (0, (⟨#[]⟩ : ByteArray), 0, false) else if numEnd (lastOf t) = true then (if (fourGet t).2 = true then (2, (⟨#[]⟩ : ByteArray), (fourGet t).1, true) else (0, (⟨#[]⟩ : ByteArray), 0, false)) else if isHost t = true then (1, B t, 0, true) else (0, (⟨#[]⟩ : ByteArray), 0, false)
theorem hostT (t : Bs) (ht : t.length ≤ 1048576) :
  Ev (fun k => if t = [] then impl_HostGet.j0 k (B t) false else (impl_endsInNumber.f k (B t)).bind fun t180 => (impl_HostGet.j0 k (B t) t180)) (hostV t) ∧ Ev (fun k => spec_HostGet.j0 k (B t) (t == [])) (hostV t) := by
 unfold hostV
 by_cases hz : t = []
 ·subst hz
  rw [if_pos rfl]
  refine ⟨?_, ?_⟩
  ·simp only [if_true]
   refine Ev.step (fun k => by rw [impl_HostGet.j0]) ?_
   simp only [Bool.false_eq_true, if_false]
   refine ev_bind (impl_Host [] (by simp)) ?_
   simp only [isHost_nil, Bool.false_eq_true, if_false]
   exact Ev.now _
  ·refine ev_1 fun k => ?_
   simp only [spec_HostGet.j0, beq_self_eq_true, if_true]
 ·have hb : (t == []) = false := by simpa using hz
  rw [if_neg hz]
  simp only [if_neg hz, hb]
  cases hn : numEnd (lastOf t) with
  | true =>
   obtain ⟨s4, i4⟩ := four_val t ht
   generalize fourGet t = r4 at s4 i4 ⊢
   rw [if_pos rfl]
   refine ⟨?_, ?_⟩
   ·refine ev_bind (impl_EndsNum t (by omega)) ?_
    simp only [hn]
    refine Ev.step (fun k => by rw [impl_HostGet.j0]) ?_
    simp only [if_true]
    refine ev_bind i4 ?_
    cases r4.2 <;> simp only [Bool.false_eq_true, if_false, if_true] <;> exact Ev.now _
   ·refine Ev.step (fun k => by rw [spec_HostGet.j0]) ?_
    simp only [Bool.false_eq_true, if_false]
    refine ev_bind (spec_EndsNum t (by omega)) ?_
    simp only [hn, if_true]
    refine ev_bind s4 ?_
    cases r4.2 <;> simp only [Bool.false_eq_true, if_false, if_true] <;> exact Ev.now _
  | false =>
   rw [if_neg (show ¬ false = true by simp)]
   refine ⟨?_, ?_⟩
   ·refine ev_bind (impl_EndsNum t (by omega)) ?_
    simp only [hn]
    refine Ev.step (fun k => by rw [impl_HostGet.j0]) ?_
    simp only [Bool.false_eq_true, if_false]
    refine ev_bind (impl_Host t (by omega)) ?_
    cases isHost t <;> simp only [Bool.false_eq_true, if_false, if_true] <;> exact Ev.now _
   ·refine Ev.step (fun k => by rw [spec_HostGet.j0]) ?_
    simp only [Bool.false_eq_true, if_false]
    refine ev_bind (spec_EndsNum t (by omega)) ?_
    simp only [hn, Bool.false_eq_true, if_false]
    refine ev_bind (spec_Name t (by omega)) ?_
    cases isHost t <;> simp only [Bool.false_eq_true, if_false, if_true] <;> exact Ev.now _
def hostT0 (l : Bs) : Bs := lower (decodeMax l)
theorem decMax_len (l : Bs) : (decodeMax l).length ≤ l.length := by
 unfold decodeMax; split
 ·exact decode_length l
 ·simp
theorem hostGet_of (l : Bs) (r : Int × ByteArray × Int × Bool) (hl : l.length ≤ 200)
  (h : Ev (fun k => if hostT0 l = [] then impl_HostGet.j0 k (B (hostT0 l)) false else (impl_endsInNumber.f k (B (hostT0 l))).bind fun t180 => (impl_HostGet.j0 k (B (hostT0 l)) t180)) r) : Ev (fun k => impl_HostGet.f k (B l)) r := by
 unfold impl_HostGet.f
 have hd := decMax_len l
 simp only [B_size, if_neg (show ¬ (l.length : Int) > 200 by omega), impl_Decode_some, impl_Lower_some (decodeMax l) (by omega), Option.bind_some, B_toList]
 exact h
def hostGV (l : Bs) : Int × ByteArray × Int × Bool := if l.length ≤ 200 then hostV (hostT0 l) else (0, (⟨#[]⟩ : ByteArray), 0, false)
theorem hostGet_val (l : Bs) (hl : l.length ≤ 1048576) : Ev (fun k => spec_HostGet.f k (B l)) (hostGV l) ∧ Ev (fun k => impl_HostGet.f k (B l)) (hostGV l) := by
 have hd := decMax_len l
 unfold hostGV
 by_cases c : l.length ≤ 200
 ·obtain ⟨h1, h2⟩ := hostT (hostT0 l) (by unfold hostT0; rw [lower_length]; omega)
  rw [if_pos c]
  refine ⟨?_, hostGet_of l _ c h1⟩
  unfold spec_HostGet.f
  refine ev_bind (spec_Decode_ev l) ?_
  refine ev_bind (spec_Lower_ev (decodeMax l) (by omega)) ?_
  simp only [B_size, if_neg (show ¬ (l.length : Int) > 200 by omega), B_toList]
  exact h2
 ·rw [if_neg c]
  refine ⟨?_, ?_⟩
  ·unfold spec_HostGet.f
   refine ev_bind (spec_Decode_ev l) ?_
   refine ev_bind (spec_Lower_ev (decodeMax l) (by omega)) ?_
   simp only [B_size, if_pos (show (l.length : Int) > 200 by omega)]
   refine ev_1 fun k => ?_
   simp only [spec_HostGet.j0, if_true]
  ·unfold impl_HostGet.f
   simp only [B_size, if_pos (show (l.length : Int) > 200 by omega)]
   exact Ev.now _

theorem dec_small {n : Nat} (h : n < 10) : Lib.decDigits n = [UInt8.ofNat (48 + n)] := by rw [Lib.decDigits, dif_pos h]
theorem dec_big {n : Nat} (h : ¬ n < 10) : Lib.decDigits n = Lib.decDigits (n / 10) ++ [UInt8.ofNat (48 + n % 10)] := by rw [Lib.decDigits, dif_neg h]
theorem dec_len (n : Nat) : (Lib.decDigits n).length ≤ n + 1 := by
 induction n using Nat.strongRecOn with
 | _ n ih =>
  by_cases h : n < 10
  ·rw [dec_small h]; simp
  ·rw [dec_big h]; have := ih (n / 10) (by omega); simp; omega
theorem digit_str (m : Nat) (h : m < 10) : strOfNums [wrap64 (48 + (m : Int)) % 256] = B [UInt8.ofNat (48 + m)] := by
 have e : wrap64 (48 + (m : Int)) % 256 = (((UInt8.ofNat (48 + m)).toNat : Nat) : Int) := by
  rw [w64 (by omega) (by omega)]; simp
 rw [e]
 exact str_ns [UInt8.ofNat (48 + m)]
theorem spec_Dec (n : Nat) (hn : n ≤ 4294967296) : Ev (fun k => spec_l1Dec.f k (n : Int)) (B (Lib.decDigits n)) := by
 induction n using Nat.strongRecOn with
 | _ n ih =>
  refine Ev.step (fun k => by rw [spec_l1Dec.f]) ?_
  simp only [if_neg (show ¬ (n : Int) < -9223372036854775807 by omega), if_neg (show ¬ (n : Int) < 0 by omega)]
  by_cases h : n < 10
  ·simp only [if_pos (show (n : Int) < 10 by omega)]
   rw [dec_small h, ← digit_str n h]
   exact Ev.now _
  ·have e1 : wrap64 (Int.tdiv (n : Int) 10) = ((n / 10 : Nat) : Int) := by
    rw [Int.tdiv_eq_ediv_of_nonneg (by omega), w64 (by omega) (by omega)]; rfl
   have e2 : Int.tmod (n : Int) 10 = ((n % 10 : Nat) : Int) := by rw [Int.tmod_eq_emod_of_nonneg (by omega)]; rfl
   have hl := dec_len (n / 10)
   simp only [if_neg (show ¬ (n : Int) < 10 by omega), e1, e2]
   refine ev_bind (ih (n / 10) (by omega) (by omega)) ?_
   simp only [Option.bind_some, digit_str (n % 10) (by omega), B_size, List.length_singleton]
   simp only [if_pos (show (Lib.decDigits (n / 10)).length + 1 ≤ 9223372036854775807 by omega), B_append]
   rw [dec_big h]
   exact Ev.now _
def fourB (a : Nat) : Bs := Lib.decDigits (a / 16777216 % 256) ++ 46 :: (Lib.decDigits (a / 65536 % 256) ++ 46 :: (Lib.decDigits (a / 256 % 256) ++ 46 :: Lib.decDigits (a % 256)))
theorem spec_Four4 (a : Nat) (ha : a ≤ 4294967295) : Ev (fun k => spec_l2Four.f k (a : Int)) (B (fourB a)) := by
 unfold spec_l2Four.f
 have e1 : wrap64 (Int.tdiv (a : Int) 16777216) = ((a / 16777216 % 256 : Nat) : Int) := by
  rw [Int.tdiv_eq_ediv_of_nonneg (by omega), w64 (by omega) (by omega)]; omega
 have e2 : Int.tmod (wrap64 (Int.tdiv (a : Int) 65536)) 256 = ((a / 65536 % 256 : Nat) : Int) := by
  rw [Int.tdiv_eq_ediv_of_nonneg (by omega), w64 (by omega) (by omega), Int.tmod_eq_emod_of_nonneg (by omega)]; rfl
 have e3 : Int.tmod (wrap64 (Int.tdiv (a : Int) 256)) 256 = ((a / 256 % 256 : Nat) : Int) := by
  rw [Int.tdiv_eq_ediv_of_nonneg (by omega), w64 (by omega) (by omega), Int.tmod_eq_emod_of_nonneg (by omega)]; rfl
 have e4 : Int.tmod (a : Int) 256 = ((a % 256 : Nat) : Int) := by rw [Int.tmod_eq_emod_of_nonneg (by omega)]; rfl
 have k46 : (⟨#[46]⟩ : ByteArray) = B [46] := rfl
 have l1 := dec_len (a / 16777216 % 256)
 have l2 := dec_len (a / 65536 % 256)
 have l3 := dec_len (a / 256 % 256)
 have l4 := dec_len (a % 256)
 have d1 := spec_Dec (a / 16777216 % 256) (by omega)
 have d2 := spec_Dec (a / 65536 % 256) (by omega)
 have d3 := spec_Dec (a / 256 % 256) (by omega)
 have d4 := spec_Dec (a % 256) (by omega)
 have hf : fourB a = (((((Lib.decDigits (a / 16777216 % 256) ++ [46]) ++ Lib.decDigits (a / 65536 % 256)) ++ [46]) ++ Lib.decDigits (a / 256 % 256)) ++ [46]) ++ Lib.decDigits (a % 256) := by unfold fourB; simp
 rw [hf]
 have b1 : a / 16777216 % 256 < 256 := by omega
 have b2 : a / 65536 % 256 < 256 := by omega
 have b3 : a / 256 % 256 < 256 := by omega
 have b4 : a % 256 < 256 := by omega
 simp only [e1, e2, e3, e4, k46]
 clear e1 e2 e3 e4 hf
 generalize a / 16777216 % 256 = q1 at *
 generalize a / 65536 % 256 = q2 at *
 generalize a / 256 % 256 = q3 at *
 generalize a % 256 = q4 at *
 refine ev_bind d1 ?_
 simp only [B_size, B_append, if_pos (show (Lib.decDigits q1).length + 1 ≤ 9223372036854775807 by omega)]
 refine ev_bind d2 ?_
 simp only [B_size, B_append, List.length_append, List.length_singleton, if_pos (show (Lib.decDigits q1).length + 1 + (Lib.decDigits q2).length ≤ 9223372036854775807 by omega), if_pos (show (Lib.decDigits q1).length + 1 + (Lib.decDigits q2).length + 1 ≤ 9223372036854775807 by omega)]
 refine ev_bind d3 ?_
 simp only [B_size, B_append, List.length_append, List.length_singleton, if_pos (show (Lib.decDigits q1).length + 1 + (Lib.decDigits q2).length + 1 + (Lib.decDigits q3).length ≤ 9223372036854775807 by omega), if_pos (show (Lib.decDigits q1).length + 1 + (Lib.decDigits q2).length + 1 + (Lib.decDigits q3).length + 1 ≤ 9223372036854775807 by omega)]
 refine ev_bind d4 ?_
 simp only [B_size, B_append, List.length_append, List.length_singleton, if_pos (show (Lib.decDigits q1).length + 1 + (Lib.decDigits q2).length + 1 + (Lib.decDigits q3).length + 1 + (Lib.decDigits q4).length ≤ 9223372036854775807 by omega)]
 exact Ev.now _
theorem and255 (x : Nat) (h : x ≤ 4294967295) : Go.bits .and .i64 (x : Int) 255 = ((x % 256 : Nat) : Int) := by
 have h1 : (BitVec.ofInt 64 (x : Int)).toNat = x := by
  rw [BitVec.ofInt_natCast, BitVec.toNat_ofNat]; exact Nat.mod_eq_of_lt (by omega)
 have h2 : (BitVec.ofInt 64 (255 : Int)).toNat = 255 := by decide
 show IntKind.i64.wrap ((BitVec.ofInt 64 (x : Int) &&& BitVec.ofInt 64 255).toNat : Int) = _
 rw [BitVec.toNat_and, h1, h2, i64wrap]
 have : x &&& 255 = x % 256 := Nat.and_two_pow_sub_one_eq_mod x 8
 rw [this]
 exact w64 (by omega) (by omega)
theorem itoa_nat (n : Nat) : Lib.itoa (n : Int) = Lib.decDigits n := by
 unfold Lib.itoa; rw [if_neg (by omega), Int.toNat_natCast]
theorem itoa_part (a s : Nat) (ha : a ≤ 4294967295) (hs : s ≤ 64) : strconv_Itoa.f (Go.bits .and .i64 (shr .i64 (a : Int) (s : Int)) 255) = some (B (Lib.decDigits (a / 2 ^ s % 256))) := by
 have hle : a / 2 ^ s ≤ a := Nat.div_le_self _ _
 have e : shr .i64 (a : Int) (s : Int) = ((a / 2 ^ s : Nat) : Int) := by
  unfold shr
  have : min (s : Int).toNat IntKind.i64.bits = s := by rw [Int.toNat_natCast]; exact Nat.min_eq_left hs
  rw [this]
  show (a : Int) / ((2 : Int) ^ s) = _
  rw [Int.natCast_ediv, Int.natCast_pow]; rfl
 rw [e, and255 _ (by omega)]
 unfold strconv_Itoa.f
 rw [if_pos (by omega), itoa_nat]
theorem impl_Put4 (n0 : Int) (t : ByteArray) (a : Nat) (ha : a ≤ 4294967295) : Ev (fun k => impl_HostPut.l0 k [] 24 n0 t (a : Int)) (B (fourB a)) := by
 have st : ∀ (L : List ByteArray) (s : Nat) (r : ByteArray), L.length ≤ 10 → s ≤ 24 → Ev (fun k => impl_HostPut.l0 k (L ++ [B (Lib.decDigits (a / 2 ^ s % 256))]) ((s : Int) - 8) n0 t (a : Int)) r → Ev (fun k => impl_HostPut.l0 k L (s : Int) n0 t (a : Int)) r := by
  intro L s r hL hs h
  refine Ev.step (fun k => by rw [impl_HostPut.l0]) ?_
  have hw : wrap64 ((s : Int) - 8) = (s : Int) - 8 := w64 (by omega) (by omega)
  simp only [if_pos (show (s : Int) ≥ 0 by omega), if_pos (show 0 ≤ (s : Int) by omega), itoa_part a s ha (by omega), Option.bind_some, if_pos (show L.length < 8796093022208 by omega), hw]
  exact h
 refine st [] 24 _ (by simp) (by omega) ?_
 refine st _ 16 _ (by simp) (by omega) ?_
 refine st _ 8 _ (by simp) (by omega) ?_
 refine st _ 0 _ (by simp) (by omega) ?_
 refine Ev.step (fun k => by rw [impl_HostPut.l0]) ?_
 simp only [if_neg (show ¬ (((0 : Nat) : Int) - 8) ≥ 0 by omega)]
 have k46 : (⟨#[46]⟩ : ByteArray) = B [46] := rfl
 have hj : joinB [46] (bss ([] ++ [B (Lib.decDigits (a / 2 ^ 24 % 256))] ++ [B (Lib.decDigits (a / 2 ^ 16 % 256))] ++ [B (Lib.decDigits (a / 2 ^ 8 % 256))] ++ [B (Lib.decDigits (a / 2 ^ 0 % 256))])) = fourB a := by
  have h0 : a / 2 ^ 0 = a := by simp
  rw [h0]
  simp [bss, joinB, fourB]
 have l1 := dec_len (a / 16777216 % 256)
 have l2 := dec_len (a / 65536 % 256)
 have l3 := dec_len (a / 256 % 256)
 have l4 := dec_len (a % 256)
 have hfl : (fourB a).length ≤ 2000 := by unfold fourB; simp; omega
 have hf : strings_Join.f ([] ++ [B (Lib.decDigits (a / 2 ^ 24 % 256))] ++ [B (Lib.decDigits (a / 2 ^ 16 % 256))] ++ [B (Lib.decDigits (a / 2 ^ 8 % 256))] ++ [B (Lib.decDigits (a / 2 ^ 0 % 256))]) (B [46]) = some (B (fourB a)) := by
  unfold strings_Join.f
  rw [B_data, hj, if_pos ⟨by simp, by simp, by omega⟩]
 simp only [k46, hf, Option.bind_some]
 exact Ev.now _
def hostPV (n0 : Int) (l : Bs) (n2 : Int) : Bs := if hostOkV n0 l n2 = true then (if n0 = 2 then fourB n2.toNat else l) else []
theorem hostPut_val (n0 n2 : Int) (l : Bs) (hl : l.length ≤ 1048576) : Ev (fun k => spec_HostPut.f k n0 (B l) n2) (B (hostPV n0 l n2)) ∧ Ev (fun k => impl_HostPut.f k n0 (B l) n2) (B (hostPV n0 l n2)) := by
 obtain ⟨h1, h2⟩ := hostOk_val n0 n2 l hl
 have hr : hostOkV n0 l n2 = true → n0 = 2 → 0 ≤ n2 ∧ n2 ≤ 4294967295 := by
  intro e e2; unfold hostOkV at e; rw [e2] at e; simp at e; omega
 unfold spec_HostPut.f impl_HostPut.f hostPV
 have kz : (⟨#[]⟩ : ByteArray) = B [] := rfl
 cases hb0 : hostOkV n0 l n2 with
 | false =>
  rw [hb0] at h1 h2
  rw [if_neg (by simp)]
  refine ⟨ev_bind h1 ?_, ev_bind h2 ?_⟩
  ·simp only [Bool.false_eq_true, if_false]; exact Ev.now _
  ·simp only [Bool.false_eq_true, if_false]
   refine Ev.step (fun k => by rw [impl_HostPut.j0]) ?_
   simp only [if_true]
   refine ev_bind h2 ?_
   simp only [Bool.false_eq_true, if_false]
   exact Ev.now _
 | true =>
  rw [hb0] at h1 h2
  rw [if_pos rfl]
  by_cases c : n0 = 2
  ·obtain ⟨a0, a1⟩ := hr hb0 c
   obtain ⟨a, rfl⟩ := Int.eq_ofNat_of_zero_le a0
   have hb : (n0 != 2) = false := by simp [c]
   rw [if_pos c, Int.toNat_natCast]
   refine ⟨ev_bind h1 ?_, ev_bind h2 ?_⟩
   ·simp only [if_true, if_pos c]
    refine ev_bind (spec_Four4 a (by omega)) ?_
    exact Ev.now _
   ·simp only [if_true, hb]
    refine Ev.step (fun k => by rw [impl_HostPut.j0]) ?_
    simp only [Bool.false_eq_true, if_false]
    exact impl_Put4 n0 (B l) a (by omega)
  ·have hb : (n0 != 2) = true := by simp [c]
   rw [if_neg c]
   refine ⟨ev_bind h1 ?_, ev_bind h2 ?_⟩
   ·simp only [if_true, if_neg c]
    exact Ev.now _
   ·simp only [if_true, hb]
    refine Ev.step (fun k => by rw [impl_HostPut.j0]) ?_
    simp only [if_true]
    refine ev_bind h2 ?_
    simp only [if_true]
    exact Ev.now _

def rp (x : Bs) : Bs := replA [37, 50, 101] [46] x
theorem rp_hit (t : Bs) : rp (37 :: 50 :: 101 :: t) = 46 :: rp t := by
 unfold rp; rw [replA_hit (by simp [List.isPrefixOf])]; rfl
theorem rp_miss (c : UInt8) (t : Bs) (h : ¬ ∃ r, c :: t = 37 :: 50 :: 101 :: r) : rp (c :: t) = c :: rp t := by
 unfold rp
 refine replA_miss ?_
 cases hp : List.isPrefixOf [37, 50, 101] (c :: t) with
 | false => rfl
 | true =>
  obtain ⟨r, hr⟩ := List.isPrefixOf_iff_prefix.1 hp
  exact absurd ⟨r, hr.symm⟩ h
theorem rp_nil : rp [] = [] := replA_nil _ _
theorem rp_empty (x : Bs) : rp x = [] ↔ x = [] := by
 constructor
 ·intro h
  cases x with
  | nil => rfl
  | cons c t =>
   by_cases e : ∃ r, c :: t = 37 :: 50 :: 101 :: r
   ·obtain ⟨r, hr⟩ := e; rw [hr, rp_hit] at h; cases h
   ·rw [rp_miss c t e] at h; cases h
 ·rintro rfl; exact rp_nil
theorem rp_inv (x r : Bs) : rp x = 46 :: r ↔ (∃ t, x = 46 :: t ∧ rp t = r) ∨ (∃ t, x = 37 :: 50 :: 101 :: t ∧ rp t = r) := by
 constructor
 ·intro h
  cases x with
  | nil => rw [rp_nil] at h; cases h
  | cons c t =>
   by_cases e : ∃ r, c :: t = 37 :: 50 :: 101 :: r
   ·obtain ⟨q, hq⟩ := e
    rw [hq, rp_hit] at h
    exact Or.inr ⟨q, hq, (List.cons.inj h).2⟩
   ·rw [rp_miss c t e] at h
    exact Or.inl ⟨t, by rw [(List.cons.inj h).1], (List.cons.inj h).2⟩
 ·rintro (⟨t, rfl, rfl⟩ | ⟨t, rfl, rfl⟩)
  ·exact rp_miss 46 t (by rintro ⟨q, hq⟩; cases hq)
  ·exact rp_hit t
theorem rp_one (x : Bs) : rp x = [46] ↔ x = [46] ∨ x = [37, 50, 101] := by
 rw [rp_inv]
 constructor
 ·rintro (⟨t, rfl, ht⟩ | ⟨t, rfl, ht⟩) <;> rw [rp_empty] at ht <;> subst ht <;> simp
 ·rintro (rfl | rfl)
  ·exact Or.inl ⟨[], rfl, rp_nil⟩
  ·exact Or.inr ⟨[], rfl, rp_nil⟩
theorem rp_two (x : Bs) : rp x = [46, 46] ↔ x = [46, 46] ∨ x = [46, 37, 50, 101] ∨ x = [37, 50, 101, 46] ∨ x = [37, 50, 101, 37, 50, 101] := by
 rw [rp_inv]
 constructor
 ·rintro (⟨t, rfl, ht⟩ | ⟨t, rfl, ht⟩) <;> rw [rp_one] at ht <;> rcases ht with rfl | rfl <;> simp
 ·rintro (rfl | rfl | rfl | rfl)
  ·exact Or.inl ⟨_, rfl, (rp_one _).2 (Or.inl rfl)⟩
  ·exact Or.inl ⟨_, rfl, (rp_one _).2 (Or.inr rfl)⟩
  ·exact Or.inr ⟨_, rfl, (rp_one _).2 (Or.inl rfl)⟩
  ·exact Or.inr ⟨_, rfl, (rp_one _).2 (Or.inr rfl)⟩
theorem dots_rp (s : Bs) : dotsN s = if rp (lower s) = [46] then 1 else if rp (lower s) = [46, 46] then 2 else 0 := rfl
theorem dots_cases (s : Bs) : dotsN s = 0 ∨ dotsN s = 1 ∨ dotsN s = 2 := by
 unfold dotsN; split
 ·simp
 ·split <;> simp
theorem dots_nil : dotsN [] = 0 := by decide +kernel
abbrev pS : Bs := setB 1
theorem lower_cons (c : UInt8) (t : Bs) : lower (c :: t) = lowB c :: lower t := rfl
theorem low_fig (n : Nat) (h : n < 16) (c : UInt8) : (lowB (fig n) = 50 → n = 2) ∧ (lowB (fig n) = 101 → n = 14) := by
 have : ∀ n, n < 16 → (lowB (fig n) = 50 → n = 2) ∧ (lowB (fig n) = 101 → n = 14) := by decide +kernel
 exact this n h
theorem enc_yes (c : UInt8) (t : Bs) (h : needs pS c = true) : enc pS (c :: t) = 37 :: fig (c.toNat / 16) :: fig (c.toNat % 16) :: enc pS t := by
 show encC pS c ++ enc pS t = _
 unfold encC; rw [if_pos h]; rfl
theorem enc_no (c : UInt8) (t : Bs) (h : needs pS c = false) : enc pS (c :: t) = c :: enc pS t := by
 show encC pS c ++ enc pS t = _
 unfold encC; rw [if_neg (by rw [h]; simp)]; rfl
theorem pS46 : needs pS 46 = false := by decide
theorem enc_points (n : Nat) : ∀ s : Bs, s.length ≤ n → 37 ∉ rp (lower (enc pS s)) → enc pS s = s := by
 induction n with
 | zero =>
  intro s hs _
  cases s with
  | nil => rfl
  | cons c t => simp at hs
 | succ n ih =>
  intro s hs h
  cases s with
  | nil => rfl
  | cons c t =>
   have ht : t.length ≤ n := by simpa using hs
   by_cases hn : needs pS c = true
   ·exfalso
    rw [enc_yes c t hn] at h
    have l37 : lowB 37 = 37 := by decide
    rw [lower_cons, lower_cons, lower_cons, l37] at h
    by_cases e : ∃ r, (37 : UInt8) :: lowB (fig (c.toNat / 16)) :: lowB (fig (c.toNat % 16)) :: lower (enc pS t) = 37 :: 50 :: 101 :: r
    ·obtain ⟨r, hr⟩ := e
     have h1 := (List.cons.inj (List.cons.inj hr).2).1
     have h2 := (List.cons.inj (List.cons.inj (List.cons.inj hr).2).2).1
     have hlt := c.toNat_lt
     have a1 := (low_fig _ (by omega) c).1 h1
     have a2 := (low_fig _ (Nat.mod_lt _ (by decide)) c).2 h2
     have hc : c = 46 := by
      have : c.toNat = 46 := by omega
      rw [← UInt8.ofNat_toNat (x := c), this]; rfl
     rw [hc, pS46] at hn; cases hn
    ·rw [rp_miss _ _ e] at h; exact h (List.mem_cons_self)
   ·have hn' : needs pS c = false := by simpa using hn
    rw [enc_no c t hn'] at h ⊢
    rw [lower_cons] at h
    by_cases e : ∃ r, lowB c :: lower (enc pS t) = 37 :: 50 :: 101 :: r
    ·obtain ⟨r, hr⟩ := e
     rw [hr, rp_hit] at h
     have h1 := (List.cons.inj hr).2
     have hr' : 37 ∉ rp r := fun q => h (List.mem_cons_of_mem _ q)
     cases t with
     | nil => cases h1
     | cons a t1 =>
      by_cases na : needs pS a = true
      ·rw [enc_yes a t1 na] at h1
       have : lowB 37 = (50 : UInt8) := (List.cons.inj h1).1
       exact absurd this (by decide)
      ·have na' : needs pS a = false := by simpa using na
       rw [enc_no a t1 na'] at h1 ⊢
       rw [lower_cons] at h1
       have h2 := (List.cons.inj h1).2
       cases t1 with
       | nil => cases h2
       | cons b t2 =>
        by_cases nb : needs pS b = true
        ·rw [enc_yes b t2 nb] at h2
         have : lowB 37 = (101 : UInt8) := (List.cons.inj h2).1
         exact absurd this (by decide)
        ·have nb' : needs pS b = false := by simpa using nb
         rw [enc_no b t2 nb'] at h2 ⊢
         rw [lower_cons] at h2
         have h3 : lower (enc pS t2) = r := (List.cons.inj h2).2
         rw [ih t2 (by simp at ht; omega) (by rw [h3]; exact hr')]
    ·rw [rp_miss _ _ e] at h
     rw [ih t ht (fun q => h (List.mem_cons_of_mem _ q))]
theorem dots_enc (s : Bs) (h : dotsN s = 0) : dotsN (enc pS s) = 0 := by
 have key : 37 ∉ rp (lower (enc pS s)) → dotsN (enc pS s) = 0 := fun q => by rw [enc_points s.length s (Nat.le_refl _) q]; exact h
 rcases dots_cases (enc pS s) with h0 | h0 | h0
 ·exact h0
 all_goals
  refine key ?_
  rw [dots_rp] at h0
  split at h0
  ·rename_i e; rw [e]; decide
  ·split at h0
   ·rename_i e; rw [e]; decide
   ·cases h0

theorem spec_Dots (s : Bs) (hs : s.length ≤ 1000000) : Ev (fun k => spec_l3Dots.f k (B s)) (dotsN s) := by
 unfold spec_l3Dots.f
 refine ev_bind (spec_Lower_ev s (by omega)) ?_
 rw [dots_rp]
 by_cases h1 : lower s = [46]
 ·simp only [B_toList, if_pos h1]
  refine ev_1 fun k => ?_
  have e1 : rp (lower s) = [46] := (rp_one _).2 (Or.inl h1)
  rw [if_pos e1]
  simp only [spec_l3Dots.j0, h1, beq_self_eq_true, if_true]
 simp only [B_toList, if_neg h1]
 by_cases h2 : lower s = [37, 50, 101]
 ·refine ev_1 fun k => ?_
  have e1 : rp (lower s) = [46] := (rp_one _).2 (Or.inr h2)
  rw [if_pos e1]
  simp only [spec_l3Dots.j0, h2, beq_self_eq_true, if_true]
 have e1 : ¬ rp (lower s) = [46] := by rw [rp_one]; simp [h1, h2]
 rw [if_neg e1]
 refine ev_1 fun k => ?_
 simp only [spec_l3Dots.j0, B_toList, show (lower s == ([37, 50, 101] : Bs)) = false by simpa using h2, Bool.false_eq_true, if_false]
 by_cases h3 : lower s = [46, 46]
 ·rw [if_pos h3, if_pos ((rp_two _).2 (by simp [h3]))]
 rw [if_neg h3]
 by_cases h4 : lower s = [46, 37, 50, 101]
 ·rw [if_pos h4, if_pos ((rp_two _).2 (by simp [h4]))]
 rw [if_neg h4]
 by_cases h5 : lower s = [37, 50, 101, 46]
 ·rw [if_pos h5, if_pos ((rp_two _).2 (by simp [h5]))]
 rw [if_neg h5]
 by_cases h6 : lower s = [37, 50, 101, 37, 50, 101]
 ·rw [if_pos h6, if_pos ((rp_two _).2 (by simp [h6]))]
 rw [if_neg h6, if_neg (by rw [rp_two]; simp [h3, h4, h5, h6])]

theorem rd_map (ps : List Bs) (i : Nat) (h : i < ps.length) : rdOf ByteArray.empty (ps.map B) ((i : Nat) : Int) = B ps[i] := by
 unfold rdOf
 rw [Int.toNat_natCast, List.getD_eq_getElem?_getD]
 simp [List.getElem?_map, List.getElem?_eq_getElem h]
theorem spec_Walk_l0 (ps : List Bs) (hl : ps.length ≤ 1000000) (hp : ∀ s ∈ ps, s.length ≤ 200) (d : Nat) : ∀ (i : Nat) (out : List Bs), i + d = ps.length → out.length ≤ i → Ev (fun k => spec_l3Walk.l0 k (ps.map B) (out.map B) i) ((walkL pS out (ps.drop i)).map B) := by
 induction d with
 | zero =>
  intro i out hi ho
  refine ev_1 fun k => ?_
  simp only [spec_l3Walk.l0, List.length_map]
  rw [if_neg (by omega), List.drop_eq_nil_of_le (by omega)]; rfl
 | succ d ih =>
  intro i out hi ho
  have hlt : i < ps.length := by omega
  have hi0 : (0 : Int) ≤ (i : Int) := by omega
  have hi1 : (i : Int) < (ps.length : Int) := by omega
  have hw : wrap64 ((i : Int) + 1) = ((i + 1 : Nat) : Int) := by rw [w64 (by omega) (by omega)]; rfl
  have hs := hp ps[i] (List.getElem_mem hlt)
  have hlast : ((i : Int) == wrap64 ((ps.length : Int) - 1)) = decide (i + 1 = ps.length) := by
   rw [w64 (by omega) (by omega)]
   apply bool_eq; rw [beq_iff_eq, decide_eq_true_eq]; omega
  rw [walkL_at pS out ps i hlt]
  have j2 : ∀ (o : List Bs) (n : Int), o.length ≤ i → Ev (fun k => spec_l3Walk.j2 k (ps.map B) (o.map B) i (decide (i + 1 = ps.length)) n) ((walkL pS (if n = 0 then o ++ [enc pS ps[i]] else o ++ (if decide (i + 1 = ps.length) = true then [[]] else [])) (ps.drop (i + 1))).map B) := by
   intro o n ho
   have hln : (o.map B).length < 8796093022208 := by rw [List.length_map]; omega
   refine Ev.step (fun k => by rw [spec_l3Walk.j2]) ?_
   simp only [List.length_map, if_pos hi0, if_pos hi1, rd_map ps i hlt, hw]
   rw [List.length_map] at hln
   by_cases c : n = 0
   ·simp only [if_pos c]
    refine ev_bind (spec_Encode_ev 1 ps[i] (by omega)) ?_
    have e : encMax 1 ps[i] = enc pS ps[i] := by unfold encMax; rw [if_pos hs]
    simp only [if_pos hln, e]
    have := ih (i + 1) (o ++ [enc pS ps[i]]) (by omega) (by simp; omega)
    rw [List.map_append] at this
    exact this
   ·simp only [if_neg c]
    by_cases c2 : i + 1 = ps.length
    ·simp only [c2, decide_true, if_true, if_pos hln]
     have := ih (i + 1) (o ++ [[]]) (by omega) (by simp; omega)
     rw [List.map_append, c2] at this
     exact this
    ·simp only [decide_eq_false c2, Bool.false_eq_true, if_false, List.append_nil]
     exact ih (i + 1) o (by omega) (by omega)
  refine Ev.step (fun k => by rw [spec_l3Walk.l0]) ?_
  simp only [List.length_map, if_pos hi0, if_pos hi1, rd_map ps i hlt, hlast]
  refine ev_bind (spec_Dots ps[i] (by omega)) ?_
  have hS : walkS pS out ps[i] (decide (i + 1 = ps.length)) = if dotsN ps[i] = 0 then out ++ [enc pS ps[i]] else (if dotsN ps[i] = 2 ∧ 0 < out.length then out.dropLast else out) ++ (if decide (i + 1 = ps.length) = true then [[]] else []) := rfl
  rw [hS]
  generalize dotsN ps[i] = n
  by_cases c : n = 2
  ·subst c
   rw [if_neg (show ¬ (2 : Int) = 0 by decide)]
   simp only [if_true, true_and]
   by_cases c2 : out.length = 0
   ·simp only [decide_eq_false (show ¬ (out.length : Int) > 0 by omega)]
    refine Ev.step (fun k => by rw [spec_l3Walk.j1]) ?_
    simp only [Bool.false_eq_true, if_false]
    have := j2 out 2 ho
    rw [if_neg (by decide)] at this
    rw [if_neg (show ¬ (0 < out.length) by omega)]
    exact this
   ·simp only [decide_eq_true (show (out.length : Int) > 0 by omega)]
    refine Ev.step (fun k => by rw [spec_l3Walk.j1]) ?_
    have hw1 : wrap64 ((out.length : Int) - 1) = ((out.length - 1 : Nat) : Int) := by rw [w64 (by omega) (by omega)]; omega
    simp only [if_true, List.length_map, hw1, Int.toNat_natCast, if_pos (show (0 : Int) ≤ ((out.length - 1 : Nat) : Int) by omega), if_pos (show ((out.length - 1 : Nat) : Int) ≤ (out.length : Int) by omega)]
    rw [← List.map_take, ← List.dropLast_eq_take]
    have := j2 out.dropLast 2 (by simp; omega)
    rw [if_neg (by decide)] at this
    rw [if_pos (show 0 < out.length by omega)]
    exact this
  ·simp only [if_neg c]
   refine Ev.step (fun k => by rw [spec_l3Walk.j1]) ?_
   simp only [Bool.false_eq_true, if_false]
   have := j2 out n ho
   rw [if_neg (show ¬ (n = 2 ∧ 0 < out.length) from fun q => c q.1)]
   exact this
theorem spec_Walk (ps : List Bs) (hl : ps.length ≤ 1000000) (hp : ∀ s ∈ ps, s.length ≤ 200) : Ev (fun k => spec_l3Walk.f k [] (ps.map B)) ((walkL pS [] ps).map B) := by
 unfold spec_l3Walk.f
 simp only [Option.bind_some, List.length_nil, List.append_nil, if_pos (show 0 + 0 < 8796093022208 by decide)]
 have := spec_Walk_l0 ps hl hp ps.length 0 [] (by omega) (by simp)
 simpa using this

theorem splitC_mem (c : UInt8) : ∀ (l : Bs), ∀ s ∈ splitC c l, ∀ x ∈ s, x ∈ l ∧ x ≠ c
 | [], s, h => by simp [splitC] at h; subst h; simp
 | y :: t, s, h => by
  have ih := splitC_mem c t
  unfold splitC at h
  split at h
  ·rename_i e
   rcases List.mem_cons.1 h with rfl | h
   ·simp
   ·intro x hx; exact ⟨List.mem_cons_of_mem _ (ih s h x hx).1, (ih s h x hx).2⟩
  ·rename_i e
   split at h
   ·rename_i h0; exact absurd h0 (splitC_ne c t)
   ·rename_i a r h0
    rcases List.mem_cons.1 h with rfl | h
    ·intro x hx
     rcases List.mem_cons.1 hx with rfl | hx
     ·exact ⟨List.mem_cons_self, e⟩
     ·have := ih a (by rw [h0]; simp) x hx
      exact ⟨List.mem_cons_of_mem _ this.1, this.2⟩
    ·intro x hx
     have := ih s (by rw [h0]; simp [h]) x hx
     exact ⟨List.mem_cons_of_mem _ this.1, this.2⟩
def plainP (s : Bs) : Prop := 47 ∉ s ∧ 92 ∉ s
theorem pieces_plain (l : Bs) : ∀ s ∈ pieces l, plainP s := by
 intro s hs
 have h := splitC_mem 47 _ s hs
 refine ⟨fun q => (h 47 q).2 rfl, fun q => ?_⟩
 have := (h 92 q).1
 unfold swapC at this
 obtain ⟨x, _, hx⟩ := List.mem_map.1 this
 split at hx
 ·cases hx
 ·rename_i e; exact e hx
def Own (e : Bs) : Prop := dotsN e = 0 ∧ enc pS e = e ∧ plainP e
theorem enc_plainP (s : Bs) (h : plainP s) : plainP (enc pS s) := by
 have hf : ∀ n, n < 16 → fig n ≠ 47 ∧ fig n ≠ 92 := by decide
 have key : ∀ b : UInt8, b ∈ enc pS s → b ∈ s ∨ b = 37 ∨ ∃ n, n < 16 ∧ b = fig n := by
  intro b hb
  obtain ⟨x, hx, hb⟩ := List.mem_flatMap.1 hb
  unfold encC at hb
  split at hb
  ·have hlt := x.toNat_lt
   unfold pct at hb
   simp only [List.mem_cons, List.not_mem_nil, or_false] at hb
   rcases hb with rfl | rfl | rfl
   ·exact Or.inr (Or.inl rfl)
   ·exact Or.inr (Or.inr ⟨_, by omega, rfl⟩)
   ·exact Or.inr (Or.inr ⟨_, Nat.mod_lt _ (by decide), rfl⟩)
  ·rw [List.mem_singleton.1 hb]; exact Or.inl hx
 constructor
 ·intro q
  rcases key _ q with q | q | ⟨n, hn, q⟩
  ·exact h.1 q
  ·cases q
  ·exact (hf n hn).1 q.symm
 ·intro q
  rcases key _ q with q | q | ⟨n, hn, q⟩
  ·exact h.2 q
  ·cases q
  ·exact (hf n hn).2 q.symm
theorem own_nil : Own [] := ⟨dots_nil, rfl, by simp [plainP]⟩
theorem own_enc (s : Bs) (h0 : dotsN s = 0) (h : plainP s) : Own (enc pS s) := ⟨dots_enc s h0, enc_twice 1 s, enc_plainP s h⟩
theorem walkS_own (out : List Bs) (s : Bs) (b : Bool) (ho : ∀ e ∈ out, Own e) (hs : plainP s) : ∀ e ∈ walkS pS out s b, Own e := by
 intro e he
 unfold walkS at he
 split at he
 ·rename_i h0
  rcases List.mem_append.1 he with he | he
  ·exact ho e he
  ·rw [List.mem_singleton.1 he]; exact own_enc s h0 hs
 ·rcases List.mem_append.1 he with he | he
  ·split at he
   ·exact ho e (List.dropLast_subset _ he)
   ·exact ho e he
  ·split at he
   ·rw [List.mem_singleton.1 he]; exact own_nil
   ·cases he
theorem walkL_own : ∀ (ps out : List Bs), (∀ e ∈ out, Own e) → (∀ s ∈ ps, plainP s) → ∀ e ∈ walkL pS out ps, Own e
 | [], _, ho, _ => ho
 | s :: t, out, ho, hp => by
  rw [walkL]
  exact walkL_own t _ (walkS_own out s _ ho (hp s (by simp))) (fun x hx => hp x (by simp [hx]))
def walkA (any : Bs) (out : List Bs) (a : List Bs) : List Bs := a.foldl (fun o s => walkS any o s false) out
theorem pieces_ne (l : Bs) : pieces l ≠ [] := splitC_ne _ _
def ahead (l : Bs) : List Bs := if l = [] then [] else pieces (offSlash l)
theorem pathB_eq (l : Bs) (h : l.length ≤ 200) : pathB pS l = walkL pS [] (pieces (offSlash l)) := by unfold pathB; rw [if_pos h]
theorem walkL_same : ∀ (ps out : List Bs), walkL (setI 1) out ps = walkL pS out ps
 | [], _ => rfl
 | s :: t, out => by
  have e : walkS (setI 1) out s t.isEmpty = walkS pS out s t.isEmpty := by unfold walkS; rw [enc_same]
  rw [walkL, walkL, e, walkL_same t]
theorem pieces_each (l : Bs) : ∀ s ∈ pieces l, s.length ≤ l.length := by
 intro s hs
 have := splitC_each 47 (swapC 92 47 l) s hs
 rw [swapC_length] at this; exact this
theorem pieces_len (l : Bs) : (pieces l).length ≤ l.length + 1 := by
 have h1 := splitC_length 47 (swapC 92 47 l)
 have h2 := List.count_le_length (a := (47 : UInt8)) (l := swapC 92 47 l)
 rw [swapC_length] at h2
 unfold pieces; omega
theorem spec_Path (l : Bs) : Ev (fun k => spec_PathGet.f k (B l)) ((pathB pS l).map B) := by
 unfold spec_PathGet.f
 by_cases hl : l.length ≤ 200
 ·have hol := offSlash_len l
  have hw := spec_Walk (pieces (offSlash l)) (by have := pieces_len (offSlash l); omega) (fun s hs => by have := pieces_each (offSlash l) s hs; omega)
  have hp : spec_l3Pieces.f (B (offSlash l)) = some ((pieces (offSlash l)).map B) := by
   unfold spec_l3Pieces.f; rw [if_pos (by rw [B_size]; omega), B_data]
  have hr : pathB pS l = walkL pS [] (pieces (offSlash l)) := by unfold pathB; rw [if_pos hl]
  rw [hr]
  simp only [B_size, if_neg (show ¬ (l.length : Int) > 200 by omega)]
  cases l with
  | nil =>
   simp only [List.length_nil, if_neg (show ¬ ((0 : Nat) : Int) > 0 by omega)]
   refine Ev.step (fun k => by rw [spec_PathGet.j0]) ?_
   simp only [Bool.false_eq_true, if_false]
   have e0 : offSlash [] = [] := rfl
   rw [e0] at hp hw ⊢
   simp only [hp, Option.bind_some]
   refine ev_bind hw ?_
   exact Ev.now _
  | cons c t =>
   have hbt : bt (B (c :: t)) 0 = ((c.toNat : Nat) : Int) := by rw [bt_B]; rfl
   simp only [hbt, List.length_cons, if_pos (show ((t.length + 1 : Nat) : Int) > 0 by omega), if_pos (show (0 : Int) < ((t.length + 1 : Nat) : Int) by omega)]
   have fin : ∀ b : Bool, b = isSl c → Ev (fun k => spec_PathGet.j0 k (B (c :: t)) b) ((walkL pS [] (pieces (offSlash (c :: t)))).map B) := by
    intro b hb
    refine Ev.step (fun k => by rw [spec_PathGet.j0]) ?_
    cases b with
    | true =>
     have e0 : offSlash (c :: t) = t := by show (if isSl c = true then t else c :: t) = t; rw [← hb, if_pos rfl]
     rw [e0] at hp hw ⊢
     have e1 : (B (c :: t)).extract 1 (t.length + 1) = B t := by
      rw [B_extract, List.drop_one, List.tail_cons, List.take_of_length_le (by omega)]
     simp only [if_true, B_size, List.length_cons, if_pos (show (1 : Int) ≤ ((t.length + 1 : Nat) : Int) by omega), e1, hp, Option.bind_some]
     refine ev_bind hw ?_
     exact Ev.now _
    | false =>
     have e0 : offSlash (c :: t) = c :: t := by show (if isSl c = true then t else c :: t) = c :: t; rw [← hb, if_neg (by simp)]
     rw [e0] at hp hw ⊢
     simp only [Bool.false_eq_true, if_false, hp, Option.bind_some]
     refine ev_bind hw ?_
     exact Ev.now _
   by_cases c1 : c = 47
   ·simp only [if_pos (show ((c.toNat : Nat) : Int) = 47 from (byte_eq _ 47 (by decide)).2 c1)]
    exact fin true (by rw [c1]; rfl)
   ·simp only [if_neg (show ¬ ((c.toNat : Nat) : Int) = 47 from fun e => c1 ((byte_eq _ 47 (by decide)).1 e))]
    refine fin _ ?_
    have e1 : (c == 47) = false := by simpa using c1
    unfold isSl
    rw [e1, Bool.false_or]
    apply bool_eq; rw [beq_iff_eq, beq_iff_eq]
    exact byte_eq c 92 (by decide)
 ·have hr : pathB pS l = [] := by unfold pathB; rw [if_neg hl]
  rw [hr]
  simp only [B_size, if_pos (show (l.length : Int) > 200 by omega)]
  exact Ev.now _

def tot (l : List ByteArray) : Nat := (l.map ByteArray.size).sum
theorem tot_take (l : List ByteArray) (i : Nat) (h : i < l.length) : tot (l.take (i + 1)) = tot (l.take i) + l[i].size := by
 unfold tot; rw [List.take_succ_eq_append_getElem h, List.map_append, List.sum_append]; simp
theorem tot_take_le (l : List ByteArray) (i : Nat) : tot (l.take i) ≤ tot l := by
 conv => rhs; rw [← List.take_append_drop i l]
 unfold tot; rw [List.map_append, List.sum_append]; omega
theorem rd_strs (l : List ByteArray) (i : Nat) (h : i < l.length) : rdOf ByteArray.empty l ((i : Nat) : Int) = l[i] := by
 unfold rdOf
 rw [Int.toNat_natCast, List.getD_eq_getElem?_getD, List.getElem?_eq_getElem h]; rfl

theorem segs_len (l : List ByteArray) (i : Nat) : (pathPut (segs (l.take i))).length = (l.take i).length + tot (l.take i) := by
 generalize l.take i = m
 induction m with
 | nil => rfl
 | cons a t ih =>
  have e1 : pathPut (segs (a :: t)) = (47 :: a.data.toList) ++ pathPut (segs t) := rfl
  have e2 : tot (a :: t) = a.size + tot t := rfl
  rw [e1, e2, List.length_append, ih, List.length_cons, List.length_cons]
  have : a.data.toList.length = a.size := by simp
  omega
theorem spec_Put (l : List ByteArray) (hl : l.length ≤ 1048576) (ht : tot l ≤ 1048576) : Ev (fun k => spec_PathPut.f k l) (B (pathPut (segs l))) := by
 unfold spec_PathPut.f
 have go : ∀ (d i : Nat), i + d = l.length → Ev (fun k => spec_PathPut.l0 k l (B (pathPut (segs (l.take i)))) i) (B (pathPut (segs l))) := by
  intro d
  induction d with
  | zero =>
   intro i hi
   refine ev_1 fun k => ?_
   simp only [spec_PathPut.l0]
   rw [if_neg (by omega), List.take_of_length_le (by omega)]
  | succ d ih =>
   intro i hi
   have hlt : i < l.length := by omega
   have hi0 : (0 : Int) ≤ (i : Int) := by omega
   have hi1 : (i : Int) < (l.length : Int) := by omega
   have hw : wrap64 ((i : Int) + 1) = ((i + 1 : Nat) : Int) := by rw [w64 (by omega) (by omega)]; rfl
   have h1 := segs_len l i
   have h2 := tot_take_le l i
   have h3 := tot_take l i hlt
   have h4 := tot_take_le l (i + 1)
   have hlen : (l.take i).length = i := by simp; omega
   obtain ⟨q, hq⟩ := exB l[i]
   have hqs : l[i].size = q.length := by rw [hq, B_size]
   have e := ih (i + 1) (by omega)
   have hst : segs (l.take (i + 1)) = segs (l.take i) ++ [q] := by
    unfold segs; rw [List.take_succ_eq_append_getElem hlt, List.map_append, hq]; simp
   rw [hst, pathPut_snoc] at e
   refine Ev.step (fun k => by rw [spec_PathPut.l0]) ?_
   have hd : (⟨#[47]⟩ : ByteArray) = B [47] := rfl
   simp only [if_pos hi1, if_pos hi0, rd_strs l i hlt, hq, hd, B_append, B_size, hw, if_pos (show (pathPut (segs (l.take i))).length + 1 ≤ 9223372036854775807 by omega),
    if_pos (show (pathPut (segs (l.take i)) ++ [47]).length + q.length ≤ 9223372036854775807 by simp; omega)]
   simpa using e
 exact go l.length 0 (by omega)

def room (ps : List Bs) : Nat := (ps.map fun s => 1 + 3 * s.length).sum
theorem put_app (a b : List Bs) : pathPut (a ++ b) = pathPut a ++ pathPut b := by simp [pathPut]
theorem put_drop (a : List Bs) : (pathPut a.dropLast).length ≤ (pathPut a).length := by
 rw [List.dropLast_eq_take]; exact pathPut_mono a _
theorem walkS_room (out : List Bs) (s : Bs) (b : Bool) : (pathPut (walkS pS out s b)).length ≤ (pathPut out).length + (1 + 3 * s.length) := by
 have h1 := (enc_len pS s).2
 have one : ∀ e : Bs, (pathPut [e]).length = 1 + e.length := by intro e; simp [pathPut]; omega
 unfold walkS
 split
 ·rw [put_app, List.length_append, one]; omega
 ·rw [put_app, List.length_append]
  have h2 : (pathPut (if b = true then [[]] else [])).length ≤ 1 := by cases b <;> simp [pathPut]
  have h3 : (pathPut (if dotsN s = 2 ∧ 0 < out.length then out.dropLast else out)).length ≤ (pathPut out).length := by
   split
   ·exact put_drop out
   ·exact Nat.le_refl _
  omega
theorem walkL_room : ∀ (ps out : List Bs), (pathPut (walkL pS out ps)).length ≤ (pathPut out).length + room ps
 | [], out => Nat.le_add_right _ _
 | s :: t, out => by
  have h1 := walkS_room out s t.isEmpty
  have h2 := walkL_room t (walkS pS out s t.isEmpty)
  have e : room (s :: t) = (1 + 3 * s.length) + room t := by simp [room]
  rw [walkL, e]; omega
theorem room_split (c : UInt8) : ∀ l : Bs, room (splitC c l) ≤ 3 * l.length + 1
 | [] => by simp [splitC, room]
 | x :: t => by
  have ih := room_split c t
  unfold splitC
  split
  ·have e : room ([] :: splitC c t) = 1 + room (splitC c t) := by simp [room]
   rw [e, List.length_cons]; omega
  ·revert ih
   have := splitC_ne c t
   revert this
   cases splitC c t with
   | nil => simp
   | cons a r => intro _ ih; simp [room] at ih ⊢; omega
theorem room_pieces (l : Bs) : room (pieces l) ≤ 3 * l.length + 1 := by
 have := room_split 47 (swapC 92 47 l)
 rw [swapC_length] at this; exact this
theorem path_own (l : Bs) (h : l.length ≤ 200) : ∀ e ∈ pathB pS l, Own e := by
 rw [pathB_eq l h]; exact walkL_own _ _ (by simp) (pieces_plain _)
theorem path_ne (l : Bs) (h : l.length ≤ 200) : pathB pS l ≠ [] := by
 rw [pathB_eq l h]; exact walkL_pos _ _ _ (pieces_ne _)
theorem path_room (l : Bs) (h : l.length ≤ 200) : (pathPut (pathB pS l)).length ≤ 3 * l.length + 1 := by
 rw [pathB_eq l h]
 have h1 := walkL_room (pieces (offSlash l)) []
 have h2 := room_pieces (offSlash l)
 have h3 := offSlash_len l
 have h4 : (pathPut []).length = 0 := rfl
 omega
def dd (q : Nat) : Bs := if q < 10 then [UInt8.ofNat (48 + q)] else if q < 100 then [UInt8.ofNat (48 + q / 10), UInt8.ofNat (48 + q % 10)] else [UInt8.ofNat (48 + q / 100), UInt8.ofNat (48 + q / 10 % 10), UInt8.ofNat (48 + q % 10)]
theorem dec_dd (q : Nat) (h : q < 1000) : Lib.decDigits q = dd q := by
 unfold dd
 by_cases h1 : q < 10
 ·rw [if_pos h1, dec_small h1]
 ·rw [if_neg h1, dec_big h1]
  by_cases h2 : q < 100
  ·rw [if_pos h2, dec_small (show q / 10 < 10 by omega)]; rfl
  ·rw [if_neg h2, dec_big (show ¬ q / 10 < 10 by omega), dec_small (show q / 10 / 10 < 10 by omega)]
   have : q / 10 / 10 = q / 100 := by omega
   rw [this]; rfl
theorem dd_num (q : Nat) (h : q < 256) : partNum (dd q) = some (q : Int) ∧ (dd q).all dg = true ∧ dd q ≠ [] ∧ (dd q).length ≤ 3 ∧ ¬ ((dd q).take 2 = [48, 120] ∨ (dd q).take 2 = [48, 88]) := by
 have : ∀ q, q < 256 → partNum (dd q) = some (q : Int) ∧ (dd q).all dg = true ∧ dd q ≠ [] ∧ (dd q).length ≤ 3 ∧ ¬ ((dd q).take 2 = [48, 120] ∨ (dd q).take 2 = [48, 88]) := by decide +kernel
 exact this q h
theorem dg_ne (c : UInt8) (h : dg c = true) : c ≠ 46 ∧ c ≠ 37 ∧ lowB c = c := by
 have : ∀ m : Nat, m < 256 → dg (UInt8.ofNat m) = true → UInt8.ofNat m ≠ 46 ∧ UInt8.ofNat m ≠ 37 ∧ lowB (UInt8.ofNat m) = UInt8.ofNat m := by decide +kernel
 have e := this c.toNat c.toNat_lt
 rw [UInt8.ofNat_toNat] at e; exact e h
theorem hc_ne (c : UInt8) (h : hc c = true) : c ≠ 46 ∧ c ≠ 37 ∧ lowB c = c := by
 have : ∀ m : Nat, m < 256 → hc (UInt8.ofNat m) = true → UInt8.ofNat m ≠ 46 ∧ UInt8.ofNat m ≠ 37 ∧ lowB (UInt8.ofNat m) = UInt8.ofNat m := by decide +kernel
 have e := this c.toNat c.toNat_lt
 rw [UInt8.ofNat_toNat] at e; exact e h
theorem decode_plainB (l : Bs) (h : ∀ c ∈ l, c ≠ 37) : pctDec l = l := by
 induction l with
 | nil => exact decode_nil
 | cons c t ih =>
  have he : escAt (c :: t) 0 = false := by unfold escAt; simp [h c (by simp)]
  have := decode_at (c :: t) 0 (by simp)
  rw [he] at this
  simp at this
  rw [this, ih (fun x hx => h x (by simp [hx]))]
theorem hostT0_self (l : Bs) (hl : l.length ≤ 600) (h : ∀ c ∈ l, c ≠ 37 ∧ lowB c = c) : hostT0 l = l := by
 unfold hostT0 decodeMax
 rw [if_pos hl, decode_plainB l (fun c hc => (h c hc).1)]
 unfold lower
 conv => rhs; rw [← List.map_id l]
 exact List.map_congr_left fun c hc => (h c hc).2
theorem isHost_self (l : Bs) (h : isHost l = true) : hostT0 l = l ∧ l ≠ [] ∧ l.length ≤ 60 := by
 unfold isHost at h
 simp only [Bool.and_eq_true, List.all_eq_true, Bool.or_eq_true, decide_eq_true_eq] at h
 refine ⟨hostT0_self l (by omega) ?_, ?_, h.1.2.2⟩
 ·intro c hc
  rcases h.1.1 c hc with q | q
  ·exact ⟨(hc_ne c q).2.1, (hc_ne c q).2.2⟩
  ·subst q; decide
 ·intro q; have := h.1.2.1; rw [q] at this; simp at this
theorem hostGV_name (l : Bs) (h : plain l = true) : hostGV l = (1, B l, 0, true) := by
 unfold plain at h
 rw [Bool.and_eq_true] at h
 obtain ⟨h1, h2⟩ := h
 obtain ⟨e, hz, hl⟩ := isHost_self l h1
 have hn : ¬ numEnd (lastOf l) = true := by
  intro q; rw [q] at h2; cases h2
 unfold hostGV hostV
 rw [if_pos (by omega), e, if_neg hz, if_neg hn, if_pos h1]
theorem fourB_dd (a : Nat) : fourB a = dd (a / 16777216 % 256) ++ 46 :: (dd (a / 65536 % 256) ++ 46 :: (dd (a / 256 % 256) ++ 46 :: dd (a % 256))) := by
 unfold fourB
 rw [dec_dd _ (by omega), dec_dd _ (by omega), dec_dd _ (by omega), dec_dd _ (by omega)]
theorem dd_no46 (q : Nat) (h : q < 256) : ∀ x ∈ dd q, x ≠ 46 := by
 intro x hx
 have := (dd_num q h).2.1
 rw [List.all_eq_true] at this
 exact (dg_ne x (this x hx)).1
theorem fourB_parts (a : Nat) : parts (fourB a) = [dd (a / 16777216 % 256), dd (a / 65536 % 256), dd (a / 256 % 256), dd (a % 256)] := by
 have h4 := (dd_num (a % 256) (by omega)).2.2.1
 have e : splitC 46 (fourB a) = [dd (a / 16777216 % 256), dd (a / 65536 % 256), dd (a / 256 % 256), dd (a % 256)] := by
  rw [fourB_dd, splitC_cut 46 _ _ (dd_no46 _ (by omega)), splitC_cut 46 _ _ (dd_no46 _ (by omega)), splitC_cut 46 _ _ (dd_no46 _ (by omega)), splitC_plain 46 _ (dd_no46 _ (by omega))]
 unfold parts
 rw [e, if_neg]
 rintro ⟨_, h⟩
 simp at h
 exact h4 h
theorem fourB_len (a : Nat) : (fourB a).length ≤ 15 := by
 rw [fourB_dd]
 have l1 := (dd_num (a / 16777216 % 256) (by omega)).2.2.2.1
 have l2 := (dd_num (a / 65536 % 256) (by omega)).2.2.2.1
 have l3 := (dd_num (a / 256 % 256) (by omega)).2.2.2.1
 have l4 := (dd_num (a % 256) (by omega)).2.2.2.1
 simp; omega
theorem fourGet_back (a : Nat) (ha : a ≤ 4294967295) : fourGet (fourB a) = ((a : Int), true) := by
 unfold fourGet
 have hl := fourB_len a
 rw [fourB_parts, if_pos ⟨by simp, by omega⟩]
 have p1 := (dd_num (a / 16777216 % 256) (by omega)).1
 have p2 := (dd_num (a / 65536 % 256) (by omega)).1
 have p3 := (dd_num (a / 256 % 256) (by omega)).1
 have p4 := (dd_num (a % 256) (by omega)).1
 have m3 : most 3 = 255 := by decide
 rw [fourR_more _ _ _ _ _ (by simp) p1, if_pos (by omega), fourR_more _ _ _ _ _ (by simp) p2, if_pos (by omega), fourR_more _ _ _ _ _ (by simp) p3, if_pos (by omega), fourR_last _ _ _ _ p4]
 have hm : ((a % 256 : Nat) : Int) ≤ most (0 + 1 + 1 + 1) := by
  show ((a % 256 : Nat) : Int) ≤ most 3
  rw [m3]; omega
 rw [if_pos hm]
 have h4 : (256 : Int) ^ (4 - (0 + 1 + 1 + 1)) = 256 := by decide
 rw [h4]
 rw [Prod.mk.injEq]
 exact ⟨by omega, rfl⟩
theorem lastOf_four (a : Nat) : lastOf (fourB a) = dd (a % 256) := by unfold lastOf; rw [fourB_parts]; rfl
theorem fourB_self (a : Nat) : hostT0 (fourB a) = fourB a := by
 refine hostT0_self _ (by have := fourB_len a; omega) ?_
 have key : ∀ q, q < 256 → ∀ c ∈ dd q, c ≠ 37 ∧ lowB c = c := by
  intro q hq c hc
  have := (dd_num q hq).2.1
  rw [List.all_eq_true] at this
  exact (dg_ne c (this c hc)).2
 intro c hc
 rw [fourB_dd] at hc
 simp only [List.mem_append, List.mem_cons] at hc
 rcases hc with hc | hc | hc | hc | hc | hc | hc
 ·exact key _ (by omega) c hc
 ·subst hc; decide
 ·exact key _ (by omega) c hc
 ·subst hc; decide
 ·exact key _ (by omega) c hc
 ·subst hc; decide
 ·exact key _ (by omega) c hc
theorem numEnd_dd (q : Nat) (h : q < 256) : numEnd (dd q) = true := by
 have := dd_num q h
 unfold numEnd
 rw [if_neg this.2.2.1, if_neg this.2.2.2.2, this.2.1]
theorem hostGV_four (a : Nat) (ha : a ≤ 4294967295) : hostGV (fourB a) = (2, (⟨#[]⟩ : ByteArray), (a : Int), true) := by
 have hl := fourB_len a
 have hz : fourB a ≠ [] := by rw [fourB_dd]; simp
 unfold hostGV hostV
 rw [if_pos (by omega), fourB_self, if_neg hz, lastOf_four, if_pos (numEnd_dd _ (by omega)), fourGet_back a ha, if_pos rfl]
theorem fourR_rng : ∀ (L : List Bs) (i : Nat) (o : Int), L ≠ [] → i + L.length ≤ 4 → 0 ≤ o → o < 256 ^ i → (fourR i o L).2 = true → 0 ≤ (fourR i o L).1 ∧ (fourR i o L).1 ≤ 4294967295
 | [], _, _, h, _, _, _, _ => absurd rfl h
 | [q], i, o, _, hi, h0, h1, h => by
  have hi4 : i < 4 := by simp at hi; omega
  cases hn : partNum q with
  | none => rw [fourR_none _ _ _ _ hn] at h; cases h
  | some n =>
   rw [fourR_last _ _ _ _ hn] at h ⊢
   have hr := partNum_rng _ n hn
   by_cases hm : n ≤ most i
   ·rw [if_pos hm]
    unfold most at hm
    have hc : i = 0 ∨ i = 1 ∨ i = 2 ∨ i = 3 := by omega
    have e0 : (256 : Int) ^ 0 = 1 := by decide
    have e1 : (256 : Int) ^ 1 = 256 := by decide
    have e2 : (256 : Int) ^ 2 = 65536 := by decide
    have e3 : (256 : Int) ^ 3 = 16777216 := by decide
    have f0 : (256 : Int) ^ (4 - 0) = 4294967296 := by decide
    have f1 : (256 : Int) ^ (4 - 1) = 16777216 := by decide
    have f2 : (256 : Int) ^ (4 - 2) = 65536 := by decide
    have f3 : (256 : Int) ^ (4 - 3) = 256 := by decide
    show 0 ≤ o * 256 ^ (4 - i) + n ∧ o * 256 ^ (4 - i) + n ≤ 4294967295
    rcases hc with rfl | rfl | rfl | rfl
    ·rw [f0] at hm ⊢; rw [e0] at h1; omega
    ·rw [f1] at hm ⊢; rw [e1] at h1; omega
    ·rw [f2] at hm ⊢; rw [e2] at h1; omega
    ·rw [f3] at hm ⊢; rw [e3] at h1; omega
   ·rw [if_neg hm] at h; cases h
 | q :: r :: t, i, o, _, hi, h0, h1, h => by
  cases hn : partNum q with
  | none => rw [fourR_none _ _ _ _ hn] at h; cases h
  | some n =>
   rw [fourR_more _ _ _ _ _ (by simp) hn] at h ⊢
   have hr := partNum_rng _ n hn
   by_cases hm : n ≤ 255
   ·rw [if_pos hm] at h ⊢
    refine fourR_rng (r :: t) (i + 1) (o * 256 + n) (by simp) (by simp at hi ⊢; omega) (by omega) ?_ h
    rw [Int.pow_succ]; omega
   ·rw [if_neg hm] at h; cases h

theorem fourGet_rng (l : Bs) (h : (fourGet l).2 = true) : 0 ≤ (fourGet l).1 ∧ (fourGet l).1 ≤ 4294967295 := by
 unfold fourGet at h ⊢
 by_cases c : (parts l).length ≤ 4 ∧ l.length ≤ 200
 ·rw [if_pos c] at h ⊢
  exact fourR_rng (parts l) 0 0 (parts_ne l) (by omega) (by omega) (by decide) h
 ·rw [if_neg c] at h; cases h
theorem hostGV_shape (t : Bs) : hostGV t = (0, (⟨#[]⟩ : ByteArray), 0, false) ∨ (∃ l : Bs, plain l = true ∧ hostGV t = (1, B l, 0, true)) ∨ (∃ a : Nat, a ≤ 4294967295 ∧ hostGV t = (2, (⟨#[]⟩ : ByteArray), (a : Int), true)) := by
 unfold hostGV
 by_cases hl : t.length ≤ 200
 ·rw [if_pos hl]
  unfold hostV
  by_cases h0 : hostT0 t = []
  ·left; rw [if_pos h0]
  ·rw [if_neg h0]
   cases hn : numEnd (lastOf (hostT0 t)) with
   | true =>
    rw [if_pos rfl]
    cases hf : (fourGet (hostT0 t)).2 with
    | true =>
     right; right
     have hr := fourGet_rng _ hf
     obtain ⟨a, ha⟩ := Int.eq_ofNat_of_zero_le hr.1
     refine ⟨a, by omega, ?_⟩
     rw [if_pos rfl, ha]
    | false => left; rw [if_neg (by simp)]
   | false =>
    rw [if_neg (by simp)]
    cases hh : isHost (hostT0 t) with
    | true =>
     right; left
     refine ⟨hostT0 t, ?_, by rw [if_pos rfl]⟩
     unfold plain; rw [hh, hn]; rfl
    | false => left; rw [if_neg (by simp)]
 ·left; rw [if_neg hl]
theorem plain_len (l : Bs) (h : plain l = true) : l ≠ [] ∧ l.length ≤ 60 := by
 unfold plain at h
 rw [Bool.and_eq_true] at h
 exact (isHost_self l h.1).2
theorem hostOk_name (l : Bs) (h : plain l = true) : hostOkV 1 l 0 = true := by
 unfold hostOkV; simp [h]
theorem hostOk_four (a : Nat) (h : a ≤ 4294967295) : hostOkV 2 [] (a : Int) = true := by
 unfold hostOkV
 rw [if_neg (by decide), if_neg (by decide), if_pos rfl]
 simp; omega
theorem hostPV_name (l : Bs) (h : plain l = true) : hostPV 1 l 0 = l := by
 unfold hostPV; rw [if_pos (hostOk_name l h), if_neg (by decide)]
theorem hostPV_four (a : Nat) (h : a ≤ 4294967295) : hostPV 2 [] (a : Int) = fourB a := by
 unfold hostPV; rw [if_pos (hostOk_four a h), if_pos rfl, Int.toNat_natCast]

theorem specLower_walk (l : Bs) (w : World) (hl : l.length ≤ 140737488355327) : Calls Tryz.prog 104 #[.string (B l)] w fun e w' => e = .returned (.string (B (lower l))) ∧ Below w.heap.size w w' := by
 obtain ⟨k, hk⟩ := (spec_Lower_ev l hl).rounds
 exact spec_Lower.calls k (B l) _ w hk
theorem specEncode_walk (n : Int) (l : Bs) (w : World) (hl : l.length ≤ 140737488355327) : Calls Tryz.prog 106 #[.int .i64 n, .string (B l)] w fun e w' => e = .returned (.string (B (encMax n l))) ∧ Below w.heap.size w w' := by
 obtain ⟨k, hk⟩ := (spec_Encode_ev n l hl).rounds
 exact spec_Encode.calls k n (B l) _ w hk
theorem hostGV_B (l : Bs) : hostGV l = ((hostGV l).1, B (hostGV l).2.1.data.toList, (hostGV l).2.2.1, (hostGV l).2.2.2) := by rw [← eq_B]
theorem specHostGet_walk (l : Bs) (w : World) (hl : l.length ≤ 1048576) : Calls Tryz.prog 81 #[.string (B l)] w fun e w' => e = .returned (.tuple #[.agg #[.int .i64 (hostGV l).1, .string (B (hostGV l).2.1.data.toList), .int .i64 (hostGV l).2.2.1], .bool (hostGV l).2.2.2]) ∧ Below w.heap.size w w' := by
 obtain ⟨k, hk⟩ := (hostGet_val l hl).1.rounds
 rw [hostGV_B] at hk
 exact spec_HostGet.calls k (B l) _ _ _ _ w hk
theorem implHostGet_walk (l : Bs) (w : World) (hT : TabM w) (hl : l.length ≤ 1048576) : Calls Tryz.prog 97 #[.string (B l)] w fun e w' => e = .returned (.tuple #[.agg #[.int .i64 (hostGV l).1, .string (B (hostGV l).2.1.data.toList), .int .i64 (hostGV l).2.2.1], .bool (hostGV l).2.2.2]) ∧ Below w.heap.size w w' := by
 obtain ⟨k, hk⟩ := (hostGet_val l hl).2.rounds
 rw [hostGV_B] at hk
 exact impl_HostGet.calls k (B l) _ _ _ _ w hT hk
theorem specHostPut_walk (a : Int) (l : Bs) (b : Int) (w : World) (hl : l.length ≤ 1048576) : Calls Tryz.prog 57 #[.agg #[.int .i64 a, .string (B l), .int .i64 b]] w fun e w' => e = .returned (.string (B (hostPV a l b))) ∧ Below w.heap.size w w' := by
 obtain ⟨k, hk⟩ := (hostPut_val a b l hl).1.rounds
 exact spec_HostPut.calls k _ _ _ _ w hk
theorem implHostPut_walk (a : Int) (l : Bs) (b : Int) (w : World) (hT : TabMI w) (hl : l.length ≤ 1048576) : Calls Tryz.prog 53 #[.agg #[.int .i64 a, .string (B l), .int .i64 b]] w fun e w' => e = .returned (.string (B (hostPV a l b))) ∧ Below w.heap.size w w' := by
 obtain ⟨k, hk⟩ := (hostPut_val a b l hl).2.rounds
 exact impl_HostPut.calls k _ _ _ _ w hT hk
theorem specPathGet_walk (l : Bs) (w : World) (hl : l.length ≤ 1048576) : Calls Tryz.prog 140 #[.string (B l)] w fun e w' => ∃ v', e = .returned v' ∧ Kd.R Kd.string 9 w' w.heap.size (fun _ => True) v' ((pathB pS l).map B) ∧ Below w.heap.size w w' := by
 obtain ⟨k, hk⟩ := (spec_Path l).rounds
 exact spec_PathGet.calls k (B l) _ w hk

end Go.Proofs.YtopcpbokfngpeaaGreatDoor.Pure
