/- The pure side of the law FnExactFourGet: what the printed functions tell is what the law says, for every input within the law's bounds. -/
import Derived.Test.YtafdpgdllmhhmaaDoorPFnExactFourGetx4
import Derived.Test.YtafdpgdllmhhmaaDoorBase
import Derived.Test.YtafdpgdllmhhmaaDoorSplitM
import Derived.Test.YtafdpgdllmhhmaaDoorDecodeM
set_option linter.unusedVariables false
set_option linter.unusedSimpArgs false
namespace Go.Proofs.YtafdpgdllmhhmaaDoor.Pure
open Go.RowKit Go.Proofs.YtafdpgdllmhhmaaDoor.H Go.Proofs.YtafdpgdllmhhmaaDoor.PFnExactFourGet Go.Proofs.YtafdpgdllmhhmaaDoorW.PrintWords Go.Proofs.YtafdpgdllmhhmaaDoorW.PrintLast Go.Proofs.YtafdpgdllmhhmaaDoor.Base

theorem spec_hex (c : UInt8) : Ev (fun k => spec_l1Hex.f k ((c.toNat : Nat) : Int)) (hexI c) := by
  have h255 := lt256 c
  unfold spec_l1Hex.f
  have j1 : ∀ b : Bool, (b = decide (65 ≤ c.toNat ∧ c.toNat ≤ 70)) → ¬ (48 ≤ c.toNat ∧ c.toNat ≤ 57) → Ev (fun k => spec_l1Hex.j1 k ((c.toNat : Nat) : Int) b) (hexI c) := by
    intro b hb h0
    refine ev_1 fun k => ?_
    simp only [spec_l1Hex.j1]
    unfold hexI
    rw [if_neg h0]
    by_cases h1 : 65 ≤ c.toNat ∧ c.toNat ≤ 70
    · rw [hb, if_pos (by simpa using h1), if_neg (by omega), if_pos h1]; congr 1; omega
    · rw [hb, if_neg (by simpa using h1)]
      by_cases h2 : ((c.toNat : Nat) : Int) ≥ 97
      · rw [if_pos h2]
        by_cases h3 : ((c.toNat : Nat) : Int) ≤ 102
        · rw [if_pos h3, if_pos (by omega)]; congr 1; omega
        · rw [if_neg h3, if_neg (by omega), if_neg h1]
      · rw [if_neg h2, if_neg (by omega), if_neg h1]
  have j0 : ∀ b : Bool, (b = decide (48 ≤ c.toNat ∧ c.toNat ≤ 57)) → Ev (fun k => spec_l1Hex.j0 k ((c.toNat : Nat) : Int) b) (hexI c) := by
    intro b hb
    refine Ev.step (fun k => by rw [spec_l1Hex.j0]) ?_
    by_cases h0 : 48 ≤ c.toNat ∧ c.toNat ≤ 57
    · simp only [if_pos (show b = true by rw [hb]; simpa using h0)]
      have : (((c.toNat : Nat) : Int) - 48) % 256 = hexI c := by unfold hexI; rw [if_pos h0]; omega
      rw [this]; exact Ev.now _
    · simp only [if_neg (show ¬ b = true by rw [hb]; simpa using h0)]
      by_cases h1 : ((c.toNat : Nat) : Int) ≥ 65
      · simp only [if_pos h1]; exact j1 _ (by congr 1; simp; omega) h0
      · simp only [if_neg h1]; exact j1 _ (by symm; simp; omega) h0
  by_cases h1 : ((c.toNat : Nat) : Int) ≥ 48
  · simp only [if_pos h1]; exact j0 _ (by congr 1; simp; omega)
  · simp only [if_neg h1]; exact j0 _ (by symm; simp; omega)

theorem spec_Cut_l0 (c : UInt8) (l : Bs) (hl : l.length ≤ 8796093022207) (d : Nat) : ∀ (f i : Nat) (X : List ByteArray), i + d = l.length → f ≤ i → X.length ≤ f → (∀ x ∈ (l.drop f).take (i - f), x ≠ c) → Ev (fun k => spec_l1Cut.l0 k (B l) ((c.toNat : Nat) : Int) X f i) (X ++ (splitC c (l.drop f)).map B) := by
  induction d with
  | zero =>
    intro f i X hi hf hX h
    refine ev_1 fun k => ?_
    simp only [spec_l1Cut.l0]
    rw [if_neg (by rw [B_size]; omega), if_pos (by omega), if_pos (by rw [B_size]; omega), if_pos (by omega)]
    rw [List.take_of_length_le (by simp; omega)] at h
    rw [splitC_plain c _ h, Int.toNat_natCast, B_extract, B_size, List.take_of_length_le (by simp)]
    rfl
  | succ d ih =>
    intro f i X hi hf hX h
    have hlt : i < l.length := by omega
    refine Ev.step (fun k => by rw [spec_l1Cut.l0]) ?_
    have hi0 : (0 : Int) ≤ (i : Int) := by omega
    have hi1 : (i : Int) < (l.length : Int) := by omega
    have hi2 : (i : Int) ≤ (l.length : Int) := by omega
    have hw : wrap64 ((i : Int) + 1) = ((i + 1 : Nat) : Int) := by rw [w64 (by omega) (by omega)]; rfl
    simp only [B_size, bt_B, Int.toNat_natCast, get_eq hlt, if_pos hi0, if_pos hi1, if_pos hi2, hw]
    have hcat : l.drop f = (l.drop f).take (i - f) ++ l[i] :: l.drop (i + 1) := by
      conv => lhs; rw [← List.take_append_drop (i - f) (l.drop f)]
      rw [List.drop_drop, show f + (i - f) = i by omega, List.drop_eq_getElem_cons hlt]
    by_cases e : l[i] = c
    · have e1 : ((l[i].toNat : Nat) : Int) = ((c.toNat : Nat) : Int) := by rw [e]
      simp only [if_pos e1, if_pos (show (0 : Int) ≤ (f : Int) by omega), if_pos (show (f : Int) ≤ (i : Int) by omega), if_pos (show X.length < 8796093022208 by omega)]
      have := ih (i + 1) (i + 1) (X ++ [B ((l.drop f).take (i - f))]) (by omega) (by omega) (by simp; omega) (by simp)
      have hs : splitC c (l.drop f) = (l.drop f).take (i - f) :: splitC c (l.drop (i + 1)) := by
        conv => lhs; rw [hcat, e, splitC_cut c _ _ h]
      rw [B_extract, hs]
      simpa using this
    · have e1 : ¬ ((l[i].toNat : Nat) : Int) = ((c.toNat : Nat) : Int) := fun h => e (UInt8.toNat_inj.1 (by omega))
      simp only [if_neg e1]
      refine ih f (i + 1) X (by omega) (by omega) hX ?_
      have ht : (l.drop f).take (i + 1 - f) = (l.drop f).take (i - f) ++ [l[i]] := by
        rw [show i + 1 - f = (i - f) + 1 by omega, List.take_succ_eq_append_getElem (by simp; omega)]
        simp [show f + (i - f) = i by omega]
      rw [ht]
      intro x hx
      rcases List.mem_append.1 hx with hx | hx
      · exact h x hx
      · rw [List.mem_singleton.1 hx]; exact e
theorem spec_Cut (c : UInt8) (n : Nat) (hn : c = UInt8.ofNat n) (hn' : n < 256) (l : Bs) (hl : l.length ≤ 8796093022207) : Ev (fun k => spec_l1Cut.f k (B l) ((n : Nat) : Int)) ((splitC c l).map B) := by
  have e : ((n : Nat) : Int) = ((c.toNat : Nat) : Int) := by subst hn; simp; omega
  rw [e]
  unfold spec_l1Cut.f
  exact spec_Cut_l0 c l hl l.length 0 0 [] (by omega) (by omega) (by simp) (by simp)

/-- The pieces at the dots, without an empty one at the end. -/
def parts (l : Bs) : List Bs := if 1 < (splitC 46 l).length ∧ (splitC 46 l).getLast? = some [] then (splitC 46 l).dropLast else splitC 46 l
theorem tail_some (t : List Bs) (h : t.length ≤ 8796093022208) :
    (if (((t.map B).length : Nat) : Int) > 1 then (if 0 ≤ (wrap64 (((t.map B).length : Int) - 1)) then (if (wrap64 (((t.map B).length : Int) - 1)) < ((t.map B).length : Int) then (if (rdOf ByteArray.empty (t.map B) (wrap64 (((t.map B).length : Int) - 1))).toList = ([] : List UInt8) then (if (wrap64 (((t.map B).length : Int) - 1)) ≤ ((t.map B).length : Int) then (some ((t.map B).take ((wrap64 (((t.map B).length : Int) - 1)) : Int).toNat)) else (none)) else (some (t.map B))) else (none)) else (none)) else (some (t.map B))) =
      some ((if 1 < t.length ∧ t.getLast? = some [] then t.dropLast else t).map B) := by
  rw [List.length_map]
  by_cases h1 : 1 < t.length
  · have hw : wrap64 ((t.length : Int) - 1) = ((t.length - 1 : Nat) : Int) := by rw [w64 (by omega) (by omega)]; omega
    rw [if_pos (by omega), hw, if_pos (by omega), if_pos (by omega)]
    have hr : rdOf ByteArray.empty (t.map B) ((t.length - 1 : Nat) : Int) = B (t[t.length - 1]'(by omega)) := by
      unfold rdOf
      rw [Int.toNat_natCast, List.getD_eq_getElem?_getD]
      simp [List.getElem?_map, List.getElem?_eq_getElem (show t.length - 1 < t.length by omega)]
    have hl : t.getLast? = some (t[t.length - 1]'(by omega)) := by rw [List.getLast?_eq_getElem?, List.getElem?_eq_getElem (by omega)]
    rw [hr, B_toList, hl]
    by_cases h2 : t[t.length - 1]'(by omega) = []
    · rw [if_pos h2, if_pos (by omega), if_pos ⟨h1, by rw [h2]⟩, Int.toNat_natCast, List.dropLast_eq_take, List.map_take]
    · rw [if_neg h2, if_neg (by simp [h2])]
  · rw [if_neg (by omega), if_neg (by omega)]
theorem splitC_len_le (c : UInt8) (l : Bs) : (splitC c l).length ≤ l.length + 1 := by
  rw [splitC_length]; have := List.count_le_length (a := c) (l := l); omega
theorem spec_Parts (l : Bs) (hl : l.length ≤ 8796093022207) : Ev (fun k => spec_l2Parts.f k (B l)) ((parts l).map B) := by
  unfold spec_l2Parts.f
  refine ev_bind (spec_Cut 46 46 rfl (by decide) l hl) ?_
  have := tail_some (splitC 46 l) (by have := splitC_len_le 46 l; omega)
  refine ev_of fun k => ?_
  exact this
theorem impl_Labels (l : Bs) (hl : l.length < 4294967281) : impl_labels.f (B l) = some ((parts l).map B) := by
  unfold impl_labels.f
  have e : strings_Split.f (B l) (⟨#[46]⟩ : ByteArray) = some ((splitC 46 l).map B) := by
    unfold strings_Split.f
    rw [if_pos (by rw [B_size]; exact hl)]
    simp
  rw [e, Option.bind_some]
  exact tail_some (splitC 46 l) (by have := splitC_len_le 46 l; omega)
theorem splitC_mem_len (c : UInt8) : ∀ (l : Bs), ∀ x ∈ splitC c l, x.length ≤ l.length
  | [], x, h => by simp [splitC] at h; subst h; simp
  | y :: t, x, h => by
    have ih := splitC_mem_len c t
    unfold splitC at h
    split at h
    · rcases List.mem_cons.1 h with rfl | h
      · simp
      · have := ih x h; simp; omega
    · split at h
      · rename_i h0; exact absurd h0 (splitC_ne c t)
      · rename_i a r h0
        rcases List.mem_cons.1 h with rfl | h
        · have := ih a (by rw [h0]; simp); simp; omega
        · have := ih x (by rw [h0]; simp [h]); simp; omega
theorem parts_mem_len (l : Bs) (x : Bs) (h : x ∈ parts l) : x.length ≤ l.length := by
  unfold parts at h
  split at h
  · exact splitC_mem_len 46 l x ((List.dropLast_sublist _).subset h)
  · exact splitC_mem_len 46 l x h
theorem parts_ne (l : Bs) : parts l ≠ [] := by
  unfold parts
  split
  · rename_i h; intro e; have := congrArg List.length e; simp at this; omega
  · exact splitC_ne 46 l
theorem parts_len (l : Bs) : (parts l).length ≤ l.length + 1 := by
  have := splitC_len_le 46 l
  unfold parts
  split
  · simp; omega
  · exact this

/-- The number of figures to a base. -/
def dig (base : Int) : Int → Bs → Option Int
  | n, [] => some n
  | n, c :: t => if hexI c < 0 ∨ hexI c ≥ base ∨ n > 4294967295 then none else dig base (n * base + hexI c) t
def partNum : Bs → Option Int
  | [] => none
  | [c] => dig 10 0 [c]
  | a :: b :: t => if a = 48 ∧ (b = 120 ∨ b = 88) then dig 16 0 t else if a = 48 then dig 8 0 (b :: t) else dig 10 0 (a :: b :: t)
theorem partNum_two (a b : UInt8) (t : Bs) : partNum (a :: b :: t) = if a = 48 ∧ (b = 120 ∨ b = 88) then dig 16 0 t else if a = 48 then dig 8 0 (b :: t) else dig 10 0 (a :: b :: t) := rfl
theorem partNum_one (c : UInt8) : partNum [c] = dig 10 0 [c] := rfl
theorem dig_rng (base : Int) (hb : 0 ≤ base) (hb' : base ≤ 16) : ∀ (l : Bs) (n r : Int), 0 ≤ n → n ≤ 68719476736 → dig base n l = some r → 0 ≤ r ∧ r ≤ 68719476736
  | [], n, r, h0, h1, h => by simp [dig] at h; omega
  | c :: t, n, r, h0, h1, h => by
    unfold dig at h
    split at h
    · cases h
    · rename_i hc
      have hr := hexI_rng c
      have p1 : 0 ≤ n * base := Int.mul_nonneg h0 hb
      have p2 : n * base ≤ 4294967295 * 16 := Int.mul_le_mul (by omega) hb' hb (by omega)
      exact dig_rng base hb hb' t _ r (by omega) (by omega) h
theorem partNum_rng (l : Bs) (r : Int) (h : partNum l = some r) : 0 ≤ r ∧ r ≤ 68719476736 := by
  match l, h with
  | [], h => simp [partNum] at h
  | [c], h => rw [partNum_one] at h; exact dig_rng 10 (by omega) (by omega) _ 0 r (by omega) (by omega) h
  | a :: b :: t, h =>
    rw [partNum_two] at h
    split at h
    · exact dig_rng 16 (by omega) (by omega) _ 0 r (by omega) (by omega) h
    · split at h
      · exact dig_rng 8 (by omega) (by omega) _ 0 r (by omega) (by omega) h
      · exact dig_rng 10 (by omega) (by omega) _ 0 r (by omega) (by omega) h
theorem mul_rng {n base : Int} (h0 : 0 ≤ n) (h1 : n ≤ 4294967295) (hb : 0 ≤ base) (hb' : base ≤ 16) : 0 ≤ n * base ∧ n * base ≤ 68719476720 := by
  have p1 : 0 ≤ n * base := Int.mul_nonneg h0 hb
  have p2 : n * base ≤ 4294967295 * 16 := Int.mul_le_mul h1 hb' hb (by omega)
  omega

theorem spec_Digits_l0 (base : Int) (hb : 0 ≤ base) (hb' : base ≤ 16) (l : Bs) (hl : l.length ≤ 140737488355328) (d : Nat) : ∀ (i : Nat) (n : Int), i + d = l.length → 0 ≤ n → Ev (fun k => spec_l2Digits.l0 k (B l) base n i) ((dig base n (l.drop i)).getD (-1)) := by
  induction d with
  | zero =>
    intro i n hi hn
    refine ev_1 fun k => ?_
    simp only [spec_l2Digits.l0]
    rw [if_neg (by rw [B_size]; omega), List.drop_eq_nil_of_le (by omega)]; rfl
  | succ d ih =>
    intro i n hi hn
    have hlt : i < l.length := by omega
    refine Ev.step (fun k => by rw [spec_l2Digits.l0]) ?_
    have hi0 : (0 : Int) ≤ (i : Int) := by omega
    have hi1 : (i : Int) < (l.length : Int) := by omega
    have hw : wrap64 ((i : Int) + 1) = ((i + 1 : Nat) : Int) := by rw [w64 (by omega) (by omega)]; rfl
    simp only [B_size, bt_B, Int.toNat_natCast, get_eq hlt, if_pos hi0, if_pos hi1, hw]
    refine ev_bind (spec_hex _) ?_
    have hr := hexI_rng l[i]
    rw [List.drop_eq_getElem_cons hlt]
    unfold dig
    by_cases c1 : hexI l[i] < 0
    · simp only [if_pos c1, if_pos (show hexI l[i] < 0 ∨ hexI l[i] ≥ base ∨ n > 4294967295 from Or.inl c1)]; exact Ev.now _
    by_cases c2 : hexI l[i] ≥ base
    · simp only [if_neg c1, if_pos c2, if_pos (show hexI l[i] < 0 ∨ hexI l[i] ≥ base ∨ n > 4294967295 from Or.inr (Or.inl c2))]; exact Ev.now _
    by_cases c3 : n > 4294967295
    · simp only [if_neg c1, if_neg c2, if_pos c3, if_pos (show hexI l[i] < 0 ∨ hexI l[i] ≥ base ∨ n > 4294967295 from Or.inr (Or.inr c3))]; exact Ev.now _
    have hm := mul_rng hn (show n ≤ 4294967295 by omega) hb hb'
    have hv : wrap64 (wrap64 (n * base) + hexI l[i]) = n * base + hexI l[i] := by
      rw [w64 (n := n * base) (by omega) (by omega), w64 (by omega) (by omega)]
    simp only [if_neg c1, if_neg c2, if_neg c3, if_neg (show ¬ (hexI l[i] < 0 ∨ hexI l[i] ≥ base ∨ n > 4294967295) by omega), hv]
    exact ih (i + 1) _ (by omega) (by omega)
theorem spec_Digits (base : Int) (hb : 0 ≤ base) (hb' : base ≤ 16) (l : Bs) (hl : l.length ≤ 140737488355328) : Ev (fun k => spec_l2Digits.f k (B l) base) ((dig base 0 l).getD (-1)) := by
  unfold spec_l2Digits.f
  exact spec_Digits_l0 base hb hb' l hl l.length 0 0 (by omega) (by omega)
theorem B_drop1 (a : UInt8) (t : Bs) : (B (a :: t)).extract 1 (a :: t).length = B t := by
  rw [B_extract]; simp
theorem B_drop2 (a b : UInt8) (t : Bs) : (B (a :: b :: t)).extract 2 (a :: b :: t).length = B t := by
  rw [B_extract]; simp
theorem bt_0 (a : UInt8) (t : Bs) : bt (B (a :: t)) 0 = ((a.toNat : Nat) : Int) := by rw [bt_B]; rfl
theorem bt_1 (a b : UInt8) (t : Bs) : bt (B (a :: b :: t)) 1 = ((b.toNat : Nat) : Int) := by rw [bt_B]; rfl
theorem spec_Part (l : Bs) (hl : l.length ≤ 140737488355328) : Ev (fun k => spec_l2Part.f k (B l)) ((partNum l).getD (-1)) := by
  unfold spec_l2Part.f
  match l, hl with
  | [], hl => simp only [B_toList, if_true]; exact Ev.now _
  | [c], hl =>
    have n2 : ¬ (([c].length : Nat) : Int) ≥ 2 := by simp
    simp only [B_toList, List.cons_ne_nil, if_false, B_size, if_neg n2]
    refine Ev.step (fun k => by rw [spec_l2Part.j0]) ?_
    simp only [Bool.false_eq_true, if_false, B_size, if_neg n2]
    refine Ev.step (fun k => by rw [spec_l2Part.j1]) ?_
    simp only [Bool.false_eq_true, if_false]
    refine ev_bind (spec_Digits 10 (by omega) (by omega) [c] hl) ?_
    exact Ev.now _
  | a :: b :: t, hl =>
    have n2 : (((a :: b :: t).length : Nat) : Int) ≥ 2 := by simp; omega
    have n0 : 0 < (((a :: b :: t).length : Nat) : Int) := by omega
    have n1 : 1 < (((a :: b :: t).length : Nat) : Int) := by omega
    have n3 : 1 ≤ (((a :: b :: t).length : Nat) : Int) := by omega
    have n4 : 2 ≤ (((a :: b :: t).length : Nat) : Int) := by omega
    have hlt : t.length ≤ 140737488355328 := by simp at hl; omega
    have hlt' : (b :: t).length ≤ 140737488355328 := by simp at hl ⊢; omega
    have j0 : ∀ x : Bool, (x = true ↔ (a = 48 ∧ (b = 120 ∨ b = 88))) → Ev (fun k => spec_l2Part.j0 k (B (a :: b :: t)) x) ((partNum (a :: b :: t)).getD (-1)) := by
      intro x hx
      refine Ev.step (fun k => by rw [spec_l2Part.j0]) ?_
      rw [partNum_two]
      by_cases h : x = true
      · simp only [if_pos h, B_drop2, if_pos (hx.1 h), B_size, if_pos n4]
        refine ev_bind (spec_Digits 16 (by omega) (by omega) t hlt) ?_
        exact Ev.now _
      · simp only [if_neg h, if_neg (fun q => h (hx.2 q)), B_size, if_pos n2, if_pos n0, bt_0]
        refine Ev.step (fun k => by rw [spec_l2Part.j1]) ?_
        by_cases e : a = 48
        · have e' : (((a.toNat : Nat) : Int) == 48) = true := by rw [beq_iff_eq]; exact (byte_eq a 48 (by decide)).2 e
          simp only [e', if_true, if_pos e, B_drop1, B_size, if_pos n3]
          refine ev_bind (spec_Digits 8 (by omega) (by omega) (b :: t) hlt') ?_
          exact Ev.now _
        · have e' : (((a.toNat : Nat) : Int) == 48) = false := by rw [beq_eq_false_iff_ne]; exact fun q => e ((byte_eq a 48 (by decide)).1 q)
          simp only [e', Bool.false_eq_true, if_false, if_neg e]
          refine ev_bind (spec_Digits 10 (by omega) (by omega) _ hl) ?_
          exact Ev.now _
    simp only [B_toList, List.cons_ne_nil, if_false, B_size, if_pos n2, if_pos n0, if_pos n1, bt_0, bt_1]
    by_cases e : a = 48
    · simp only [if_pos (show ((a.toNat : Nat) : Int) = 48 from (byte_eq a 48 (by decide)).2 e)]
      by_cases e2 : b = 120
      · simp only [if_pos (show ((b.toNat : Nat) : Int) = 120 from (byte_eq b 120 (by decide)).2 e2)]
        exact j0 true (by simp [e, e2])
      · simp only [if_neg (show ¬ ((b.toNat : Nat) : Int) = 120 from fun q => e2 ((byte_eq b 120 (by decide)).1 q))]
        refine j0 _ ?_
        rw [beq_iff_eq]
        have := byte_eq b 88 (by decide)
        constructor
        · intro q; exact ⟨e, Or.inr (this.1 q)⟩
        · rintro ⟨-, q | q⟩
          · exact absurd q e2
          · exact this.2 q
    · simp only [if_neg (show ¬ ((a.toNat : Nat) : Int) = 48 from fun q => e ((byte_eq a 48 (by decide)).1 q))]
      exact j0 false (by simp [e])

theorem impl_Hex (c : UInt8) : Ev (fun k => impl_hex.f k ((c.toNat : Nat) : Int)) (hexI c) := by
  have h255 := lt256 c
  unfold impl_hex.f
  have j1 : ∀ b : Bool, (b = decide (97 ≤ c.toNat ∧ c.toNat ≤ 102)) → ¬ (48 ≤ c.toNat ∧ c.toNat ≤ 57) → Ev (fun k => impl_hex.j1 k ((c.toNat : Nat) : Int) b) (hexI c) := by
    intro b hb h0
    refine ev_1 fun k => ?_
    simp only [impl_hex.j1]
    unfold hexI
    rw [if_neg h0]
    by_cases h1 : 97 ≤ c.toNat ∧ c.toNat ≤ 102
    · rw [hb, if_pos (by simpa using h1)]
      by_cases h2 : 65 ≤ c.toNat ∧ c.toNat ≤ 70
      · omega
      · first | (rw [if_pos h1]; congr 1; omega) | (rw [if_neg h2, if_pos h1]; congr 1; omega)
    · rw [hb, if_neg (by simpa using h1)]
      by_cases h2 : ((c.toNat : Nat) : Int) ≥ 65
      · rw [if_pos h2]
        by_cases h3 : ((c.toNat : Nat) : Int) ≤ 70
        · rw [if_pos h3]
          have h4 : 65 ≤ c.toNat ∧ c.toNat ≤ 70 := by omega
          first | (rw [if_pos h4]; congr 1; omega) | (rw [if_neg h1, if_pos h4]; congr 1; omega)
        · rw [if_neg h3]
          have h4 : ¬ (65 ≤ c.toNat ∧ c.toNat ≤ 70) := by omega
          first | rw [if_neg h4, if_neg h1] | rw [if_neg h1, if_neg h4]
      · rw [if_neg h2]
        have h4 : ¬ (65 ≤ c.toNat ∧ c.toNat ≤ 70) := by omega
        first | rw [if_neg h4, if_neg h1] | rw [if_neg h1, if_neg h4]
  have j0 : ∀ b : Bool, (b = decide (48 ≤ c.toNat ∧ c.toNat ≤ 57)) → Ev (fun k => impl_hex.j0 k ((c.toNat : Nat) : Int) b) (hexI c) := by
    intro b hb
    refine Ev.step (fun k => by rw [impl_hex.j0]) ?_
    by_cases h0 : 48 ≤ c.toNat ∧ c.toNat ≤ 57
    · simp only [if_pos (show b = true by rw [hb]; simpa using h0)]
      have : (((c.toNat : Nat) : Int) - 48) % 256 = hexI c := by unfold hexI; rw [if_pos h0]; omega
      rw [this]; exact Ev.now _
    · simp only [if_neg (show ¬ b = true by rw [hb]; simpa using h0)]
      by_cases h1 : ((c.toNat : Nat) : Int) ≥ 97
      · simp only [if_pos h1]; exact j1 _ (by congr 1; simp; omega) h0
      · simp only [if_neg h1]; exact j1 _ (by symm; simp; omega) h0
  by_cases h1 : ((c.toNat : Nat) : Int) ≥ 48
  · simp only [if_pos h1]; exact j0 _ (by congr 1; simp; omega)
  · simp only [if_neg h1]; exact j0 _ (by symm; simp; omega)
def ok (x : Option Int) : Int × Bool := match x with | some n => (n, true) | none => (0, false)
theorem impl_Digits_l0 (base : Int) (hb : 0 ≤ base) (hb' : base ≤ 16) (l : Bs) (hl : l.length ≤ 140737488355328) (d : Nat) : ∀ (i : Nat) (n : Int), i + d = l.length → 0 ≤ n → Ev (fun k => impl_labelNumber.l0 k (B l) base n (l.length : Int) i) (ok (dig base n (l.drop i))) := by
  induction d with
  | zero =>
    intro i n hi hn
    refine ev_1 fun k => ?_
    simp only [impl_labelNumber.l0]
    rw [if_neg (by omega), List.drop_eq_nil_of_le (by omega)]; rfl
  | succ d ih =>
    intro i n hi hn
    have hlt : i < l.length := by omega
    refine Ev.step (fun k => by rw [impl_labelNumber.l0]) ?_
    have hi0 : (0 : Int) ≤ (i : Int) := by omega
    have hi1 : (i : Int) < (l.length : Int) := by omega
    have hw : wrap64 ((i : Int) + 1) = ((i + 1 : Nat) : Int) := by rw [w64 (by omega) (by omega)]; rfl
    simp only [B_size, bt_B, Int.toNat_natCast, get_eq hlt, if_pos hi0, if_pos hi1, hw]
    refine ev_bind (impl_Hex _) ?_
    have hr := hexI_rng l[i]
    rw [List.drop_eq_getElem_cons hlt]
    unfold dig
    by_cases c1 : hexI l[i] < 0
    · simp only [if_pos c1, if_pos (show hexI l[i] < 0 ∨ hexI l[i] ≥ base ∨ n > 4294967295 from Or.inl c1)]; exact Ev.now _
    by_cases c2 : hexI l[i] ≥ base
    · simp only [if_neg c1, if_pos c2, if_pos (show hexI l[i] < 0 ∨ hexI l[i] ≥ base ∨ n > 4294967295 from Or.inr (Or.inl c2))]; exact Ev.now _
    by_cases c3 : n > 4294967295
    · simp only [if_neg c1, if_neg c2, if_pos c3, if_pos (show hexI l[i] < 0 ∨ hexI l[i] ≥ base ∨ n > 4294967295 from Or.inr (Or.inr c3))]; exact Ev.now _
    have hm := mul_rng hn (show n ≤ 4294967295 by omega) hb hb'
    have hv : wrap64 (wrap64 (base * n) + hexI l[i]) = n * base + hexI l[i] := by
      rw [Int.mul_comm base n, w64 (n := n * base) (by omega) (by omega), w64 (by omega) (by omega)]
    simp only [if_neg c1, if_neg c2, if_neg c3, if_neg (show ¬ (hexI l[i] < 0 ∨ hexI l[i] ≥ base ∨ n > 4294967295) by omega), hv]
    exact ih (i + 1) _ (by omega) (by omega)
theorem impl_Digits (base : Int) (hb : 0 ≤ base) (hb' : base ≤ 16) (l : Bs) (hl : l.length ≤ 140737488355328) : Ev (fun k => impl_labelNumber.j1 k (B l) base) (ok (dig base 0 l)) := by
  refine Ev.step (fun k => by rw [impl_labelNumber.j1]) ?_
  rw [B_size]
  exact impl_Digits_l0 base hb hb' l hl l.length 0 0 (by omega) (by omega)
theorem hasPrefix2 (x y : UInt8) (l : Bs) : strings_HasPrefix.f (B l) (B [x, y]) = some (l.take 2 == [x, y]) := by
  unfold strings_HasPrefix.f stringslite_HasPrefix.f
  simp only [B_size, B_toList, B_extract, List.length_cons, List.length_nil, List.drop_zero]
  by_cases h : 2 ≤ l.length
  · rw [if_pos (by omega), if_pos (by omega), if_pos (by omega)]
    simp
  · rw [if_neg (by omega)]
    simp only [Option.bind_some]
    congr 1
    symm
    rw [beq_eq_false_iff_ne]
    intro e
    have := congrArg List.length e
    simp at this
    omega
theorem impl_Number (l : Bs) (hl : l.length ≤ 140737488355328) : Ev (fun k => impl_labelNumber.f k (B l)) (ok (partNum l)) := by
  unfold impl_labelNumber.f
  match l, hl with
  | [], hl => simp only [B_toList, if_true]; exact Ev.now _
  | [c], hl =>
    have n0 : 0 < (([c].length : Nat) : Int) := by simp
    have n1 : ¬ (([c].length : Nat) : Int) > 1 := by simp
    have p1 : strings_HasPrefix.f (B [c]) (⟨#[48, 120]⟩ : ByteArray) = some false := by rw [lit_B [48, 120], hasPrefix2]; simp
    have p2 : strings_HasPrefix.f (B [c]) (⟨#[48, 88]⟩ : ByteArray) = some false := by rw [lit_B [48, 88], hasPrefix2]; simp
    simp only [B_toList, List.cons_ne_nil, if_false, p1, p2, Option.bind_some, Bool.false_eq_true]
    refine Ev.step (fun k => by rw [impl_labelNumber.j0]) ?_
    simp only [Bool.false_eq_true, if_false, B_size, if_pos n0, if_neg n1]
    have : Ev (fun k => impl_labelNumber.j1 k (B [c]) 10) (ok (partNum [c])) := impl_Digits 10 (by omega) (by omega) [c] hl
    by_cases e : bt (B [c]) 0 = 48
    · simp only [if_pos e]; exact this
    · simp only [if_neg e]; exact this
  | a :: b :: t, hl =>
    have n0 : 0 < (((a :: b :: t).length : Nat) : Int) := by simp; omega
    have n1 : (((a :: b :: t).length : Nat) : Int) > 1 := by simp; omega
    have n3 : 1 ≤ (((a :: b :: t).length : Nat) : Int) := by omega
    have n4 : 2 ≤ (((a :: b :: t).length : Nat) : Int) := by simp; omega
    have hlt : t.length ≤ 140737488355328 := by simp at hl; omega
    have hlt' : (b :: t).length ≤ 140737488355328 := by simp at hl ⊢; omega
    have p1 : strings_HasPrefix.f (B (a :: b :: t)) (⟨#[48, 120]⟩ : ByteArray) = some (decide (a = 48 ∧ b = 120)) := by rw [lit_B [48, 120], hasPrefix2]; congr 1; simp [Bool.beq_eq_decide_eq]
    have p2 : strings_HasPrefix.f (B (a :: b :: t)) (⟨#[48, 88]⟩ : ByteArray) = some (decide (a = 48 ∧ b = 88)) := by rw [lit_B [48, 88], hasPrefix2]; congr 1; simp [Bool.beq_eq_decide_eq]
    have j0 : ∀ x : Bool, (x = true ↔ (a = 48 ∧ (b = 120 ∨ b = 88))) → Ev (fun k => impl_labelNumber.j0 k (B (a :: b :: t)) 10 x) (ok (partNum (a :: b :: t))) := by
      intro x hx
      refine Ev.step (fun k => by rw [impl_labelNumber.j0]) ?_
      rw [partNum_two]
      by_cases h : x = true
      · simp only [if_pos h, B_drop2, if_pos (hx.1 h), B_size, if_pos n4]
        exact impl_Digits 16 (by omega) (by omega) t hlt
      · simp only [if_neg h, if_neg (fun q => h (hx.2 q)), B_size, if_pos n0, bt_0]
        by_cases e : a = 48
        · simp only [if_pos (show ((a.toNat : Nat) : Int) = 48 from (byte_eq a 48 (by decide)).2 e), if_pos e, B_drop1, B_size, if_pos n1, if_pos n3]
          exact impl_Digits 8 (by omega) (by omega) (b :: t) hlt'
        · simp only [if_neg (show ¬ ((a.toNat : Nat) : Int) = 48 from fun q => e ((byte_eq a 48 (by decide)).1 q)), if_neg e]
          exact impl_Digits 10 (by omega) (by omega) _ hl
    simp only [B_toList, List.cons_ne_nil, if_false, p1, p2, Option.bind_some]
    by_cases e1 : a = 48 ∧ b = 120
    · simp only [decide_eq_true e1, if_true]
      exact j0 true (by simp [e1.1, e1.2])
    · simp only [decide_eq_false e1, Bool.false_eq_true, if_false]
      refine j0 _ ?_
      rw [decide_eq_true_eq]
      constructor
      · rintro ⟨h1, h2⟩; exact ⟨h1, Or.inr h2⟩
      · rintro ⟨h1, h2 | h2⟩
        · exact absurd ⟨h1, h2⟩ e1
        · exact ⟨h1, h2⟩

theorem rd_parts (L : List Bs) (i : Nat) (h : i < L.length) : rdOf ByteArray.empty (L.map B) ((i : Nat) : Int) = B L[i] := by
  unfold rdOf
  rw [Int.toNat_natCast, List.getD_eq_getElem?_getD]
  simp [List.getElem?_map, List.getElem?_eq_getElem h]
/-- The greatest value of the last of n parts. -/
def most (i : Nat) : Int := 256 ^ (4 - i) - 1
theorem spec_l1_run (L : List ByteArray) (o : Int) (i : Nat) (hi : i < 4) (n : Int) (r : Int × Bool) (h : Ev (fun k => (spec_l1In.f n 0 (most i)).bind fun t126 => (if t126 = true then (spec_FourGet.l0 k L (wrap64 ((wrap64 (o * (wrap64 (most i + 1)))) + n)) (wrap64 ((i : Int) + 1))) else (some (0, false)))) r) : Ev (fun k => spec_FourGet.l1 k L o i n 255 i) r := by
  have s1 : ∀ (m : Int) (j : Int), ¬ j < 3 → m = most i → Ev (fun k => spec_FourGet.l1 k L o i n m j) r := by
    intro m j hj hm
    refine Ev.step (fun k => by rw [spec_FourGet.l1]) ?_
    simp only [if_neg hj]
    rw [hm]; exact h
  have st : ∀ (m m' : Int) (j j' : Int), j < 3 → m' = wrap64 ((wrap64 (m * 256)) + 255) → j' = wrap64 (j + 1) → Ev (fun k => spec_FourGet.l1 k L o i n m' j') r → Ev (fun k => spec_FourGet.l1 k L o i n m j) r := by
    intro m m' j j' hj hm hj' hh
    refine Ev.step (fun k => by rw [spec_FourGet.l1]) ?_
    simp only [if_pos hj]
    rw [← hm, ← hj']; exact hh
  match i, hi with
  | 0, _ => exact st 255 65535 _ 1 (by decide +kernel) (by decide +kernel) (by decide +kernel) (st 65535 16777215 _ 2 (by decide +kernel) (by decide +kernel) (by decide +kernel) (st 16777215 4294967295 _ 3 (by decide +kernel) (by decide +kernel) (by decide +kernel) (s1 _ _ (by decide +kernel) (by decide +kernel))))
  | 1, _ => exact st 255 65535 _ 2 (by decide +kernel) (by decide +kernel) (by decide +kernel) (st 65535 16777215 _ 3 (by decide +kernel) (by decide +kernel) (by decide +kernel) (s1 _ _ (by decide +kernel) (by decide +kernel)))
  | 2, _ => exact st 255 65535 _ 3 (by decide +kernel) (by decide +kernel) (by decide +kernel) (s1 _ _ (by decide +kernel) (by decide +kernel))
  | 3, _ => exact s1 _ _ (by decide +kernel) (by decide +kernel)
theorem four_last (i : Nat) (hi : i < 4) (o n a : Int) (ho : 0 ≤ o) (ho' : o < 256 ^ i) (ha : a = o * 256 ^ (4 - i)) (hn : 0 ≤ n) (hn' : n ≤ most i) :
    wrap64 ((wrap64 (o * (wrap64 (most i + 1)))) + n) = a + n ∧ wrap64 (a + n) = a + n := by
  unfold most at *
  match i, hi with
  | 0, _ => simp at *; subst ha; constructor <;> (unfold wrap64; omega)
  | 1, _ => simp at *; subst ha; constructor <;> (unfold wrap64; omega)
  | 2, _ => simp at *; subst ha; constructor <;> (unfold wrap64; omega)
  | 3, _ => simp at *; subst ha; constructor <;> (unfold wrap64; omega)
theorem four_next (i : Nat) (hi : i < 3) (o n a : Int) (ho : 0 ≤ o) (ho' : o < 256 ^ i) (ha : a = o * 256 ^ (4 - i)) (hn : 0 ≤ n) (hn' : n ≤ 255) :
    wrap64 ((wrap64 (o * 256)) + n) = o * 256 + n ∧ 0 ≤ wrap64 (8 * (wrap64 (3 - (i : Int)))) ∧ wrap64 (a + shl .i64 n (wrap64 (8 * (wrap64 (3 - (i : Int)))))) = (o * 256 + n) * 256 ^ (4 - (i + 1)) ∧ o * 256 + n < 256 ^ (i + 1) := by
  match i, hi with
  | 0, _ =>
    have hs : shl .i64 n (wrap64 (8 * (wrap64 (3 - ((0 : Nat) : Int))))) = n * 16777216 := by
      rw [show wrap64 (8 * (wrap64 (3 - ((0 : Nat) : Int)))) = 24 by decide +kernel]; unfold shl; rw [i64wrap, show (2 : Int) ^ min (24 : Int).toNat IntKind.i64.bits = 16777216 by decide +kernel]; unfold wrap64; omega
    rw [hs]; simp at *; subst ha; refine ⟨?_, ?_, ?_, ?_⟩ <;> first | (unfold wrap64; omega) | decide +kernel | omega
  | 1, _ =>
    have hs : shl .i64 n (wrap64 (8 * (wrap64 (3 - ((1 : Nat) : Int))))) = n * 65536 := by
      rw [show wrap64 (8 * (wrap64 (3 - ((1 : Nat) : Int)))) = 16 by decide +kernel]; unfold shl; rw [i64wrap, show (2 : Int) ^ min (16 : Int).toNat IntKind.i64.bits = 65536 by decide +kernel]; unfold wrap64; omega
    rw [hs]; simp at *; subst ha; refine ⟨?_, ?_, ?_, ?_⟩ <;> first | (unfold wrap64; omega) | decide +kernel | omega
  | 2, _ =>
    have hs : shl .i64 n (wrap64 (8 * (wrap64 (3 - ((2 : Nat) : Int))))) = n * 256 := by
      rw [show wrap64 (8 * (wrap64 (3 - ((2 : Nat) : Int)))) = 8 by decide +kernel]; unfold shl; rw [i64wrap, show (2 : Int) ^ min (8 : Int).toNat IntKind.i64.bits = 256 by decide +kernel]; unfold wrap64; omega
    rw [hs]; simp at *; subst ha; refine ⟨?_, ?_, ?_, ?_⟩ <;> first | (unfold wrap64; omega) | decide +kernel | omega
theorem most_impl (i : Nat) (hi : i < 4) : 0 ≤ (wrap64 (8 * (wrap64 (5 - ((i + 1 : Nat) : Int))))) ∧ (wrap64 ((shl .i64 1 (wrap64 (8 * (wrap64 (5 - ((i + 1 : Nat) : Int)))))) - 1)) = most i := by
  match i, hi with
  | 0, _ => decide +kernel
  | 1, _ => decide +kernel
  | 2, _ => decide +kernel
  | 3, _ => decide +kernel
theorem most_255 (i : Nat) (hi : i < 4) : 255 ≤ most i := by
  match i, hi with
  | 0, _ => decide +kernel
  | 1, _ => decide +kernel
  | 2, _ => decide +kernel
  | 3, _ => decide +kernel
theorem In_f (n a b : Int) : spec_l1In.f n a b = some (decide (a ≤ n ∧ n ≤ b)) := by
  unfold spec_l1In.f
  by_cases h : n ≥ a
  · rw [if_pos h]; congr 1; simp; omega
  · rw [if_neg h]; congr 1; symm; simp; omega
theorem four_run (L : List Bs) (hL : L.length ≤ 4) (hx : ∀ x ∈ L, x.length ≤ 140737488355328) (d : Nat) : ∀ (i : Nat) (o a : Int), i + d = L.length → 0 < d → 0 ≤ o → o < 256 ^ i → a = o * 256 ^ (4 - i) →
    ∃ r : Int × Bool, Ev (fun k => spec_FourGet.l0 k (L.map B) o i) r ∧ Ev (fun k => impl_FourGet.l0 k (L.map B) a (L.map B) (L.length : Int) i) r := by
  induction d with
  | zero => intro i o a hi hd; omega
  | succ d ih =>
    intro i o a hi _ ho ho' ha
    have hlt : i < L.length := by omega
    have hi4 : i < 4 := by omega
    have hi0 : (0 : Int) ≤ (i : Int) := by omega
    have hi1 : (i : Int) < (L.length : Int) := by omega
    have hw : wrap64 ((i : Int) + 1) = ((i + 1 : Nat) : Int) := by rw [w64 (by omega) (by omega)]; rfl
    have hwl : wrap64 ((L.length : Int) - 1) = ((L.length - 1 : Nat) : Int) := by rw [w64 (by omega) (by omega)]; omega
    have hp := hx L[i] (List.getElem_mem hlt)
    have sp := spec_Part L[i] hp
    have ip := impl_Number L[i] hp
    have s0 : ∀ r, Ev (fun k => (if (i : Int) = ((L.length - 1 : Nat) : Int) then (spec_FourGet.l1 k (L.map B) o i ((partNum L[i]).getD (-1)) 255 i) else (if decide (0 ≤ (partNum L[i]).getD (-1) ∧ (partNum L[i]).getD (-1) ≤ 255) = true then (spec_FourGet.l0 k (L.map B) (wrap64 ((wrap64 (o * 256)) + ((partNum L[i]).getD (-1)))) ((i + 1 : Nat) : Int)) else (some (0, false))))) r → Ev (fun k => spec_FourGet.l0 k (L.map B) o i) r := by
      intro r h
      refine Ev.step (fun k => by rw [spec_FourGet.l0]) ?_
      simp only [List.length_map, if_pos hi1, if_pos hi0, rd_parts L i hlt, hwl, hw]
      refine ev_bind sp ?_
      simp only [In_f, Option.bind_some]
      exact h
    have i0 : ∀ r, Ev (fun k => (if (i : Int) = ((L.length - 1 : Nat) : Int) then (impl_FourGet.j2 k (L.map B) a i (ok (partNum L[i])).1 (ok (partNum L[i])).2 (most i) (L.map B) (L.length : Int) i) else (impl_FourGet.j2 k (L.map B) a i (ok (partNum L[i])).1 (ok (partNum L[i])).2 255 (L.map B) (L.length : Int) i))) r → Ev (fun k => impl_FourGet.l0 k (L.map B) a (L.map B) (L.length : Int) i) r := by
      intro r h
      refine Ev.step (fun k => by rw [impl_FourGet.l0]) ?_
      simp only [List.length_map, if_pos hi1, if_pos hi0, rd_parts L i hlt, hwl, hw]
      refine ev_bind ip ?_
      by_cases e : (i : Int) = ((L.length - 1 : Nat) : Int)
      · have el : (L.length : Int) = ((i + 1 : Nat) : Int) := by omega
        have hm := most_impl i hi4
        rw [← el] at hm
        simp only [if_pos e, if_pos hm.1, hm.2] at h ⊢
        exact h
      · simp only [if_neg e] at h ⊢
        exact h
    have i3 : ∀ (n m : Int) (b : Bool) (r : Int × Bool), Ev (fun k => impl_FourGet.j3 k (L.map B) a i n (L.map B) (L.length : Int) i (if b = true then decide (n > m) else true)) r → Ev (fun k => impl_FourGet.j2 k (L.map B) a i n b m (L.map B) (L.length : Int) i) r := by
      intro n m b r h
      refine Ev.step (fun k => by rw [impl_FourGet.j2]) ?_
      cases b with
      | true => simpa using h
      | false => simpa using h
    have bad : ∀ (n : Int), Ev (fun k => impl_FourGet.j3 k (L.map B) a i n (L.map B) (L.length : Int) i true) (0, false) := by
      intro n
      refine ev_1 fun k => ?_
      simp only [impl_FourGet.j3, if_true]
    cases hn : partNum L[i] with
    | none =>
      rw [hn] at s0 i0
      refine ⟨(0, false), s0 _ ?_, i0 _ ?_⟩
      · simp only [Option.getD_none, show decide ((0 : Int) ≤ -1 ∧ (-1 : Int) ≤ 255) = false by decide +kernel, Bool.false_eq_true, if_false]
        by_cases e : (i : Int) = ((L.length - 1 : Nat) : Int)
        · simp only [if_pos e]
          refine spec_l1_run _ _ _ hi4 _ _ ?_
          simp only [In_f, Option.bind_some, show decide ((0 : Int) ≤ -1 ∧ (-1 : Int) ≤ most i) = false from decide_eq_false (by omega), Bool.false_eq_true, if_false]
          exact Ev.now _
        · simp only [if_neg e]; exact Ev.now _
      · simp only [ok]
        by_cases e : (i : Int) = ((L.length - 1 : Nat) : Int)
        · simp only [if_pos e]; exact i3 _ _ _ _ (bad 0)
        · simp only [if_neg e]; exact i3 _ _ _ _ (bad 0)
    | some n =>
      rw [hn] at s0 i0
      have hr := partNum_rng _ n hn
      by_cases e : (i : Int) = ((L.length - 1 : Nat) : Int)
      · by_cases hm : n ≤ most i
        · have hf := four_last i hi4 o n a ho ho' ha hr.1 hm
          refine ⟨(a + n, true), s0 _ ?_, i0 _ ?_⟩
          · simp only [Option.getD_some, if_pos e]
            refine spec_l1_run _ _ _ hi4 _ _ ?_
            simp only [In_f, Option.bind_some, show decide ((0 : Int) ≤ n ∧ n ≤ most i) = true from decide_eq_true ⟨hr.1, hm⟩, if_true, hf.1, hw]
            refine ev_1 fun k => ?_
            simp only [spec_FourGet.l0, List.length_map]
            rw [if_neg (by omega)]
          · simp only [ok, if_pos e]
            refine i3 _ _ _ _ ?_
            simp only [if_true, show decide (n > most i) = false from decide_eq_false (by omega)]
            refine Ev.step (fun k => by rw [impl_FourGet.j3]) ?_
            simp only [Bool.false_eq_true, if_false, List.length_map, hwl, if_neg (show ¬ (i : Int) < ((L.length - 1 : Nat) : Int) by omega), hf.2, hw]
            refine ev_1 fun k => ?_
            simp only [impl_FourGet.l0]
            rw [if_neg (by omega)]
        · refine ⟨(0, false), s0 _ ?_, i0 _ ?_⟩
          · simp only [Option.getD_some, if_pos e]
            refine spec_l1_run _ _ _ hi4 _ _ ?_
            simp only [In_f, Option.bind_some, show decide ((0 : Int) ≤ n ∧ n ≤ most i) = false from decide_eq_false (by omega), Bool.false_eq_true, if_false]
            exact Ev.now _
          · simp only [ok, if_pos e]
            refine i3 _ _ _ _ ?_
            simp only [if_true, show decide (n > most i) = true from decide_eq_true (by omega)]
            exact bad n
      · by_cases hm : n ≤ 255
        · have hf := four_next i (by omega) o n a ho ho' ha hr.1 hm
          obtain ⟨r, r1, r2⟩ := ih (i + 1) (o * 256 + n) ((o * 256 + n) * 256 ^ (4 - (i + 1))) (by omega) (by omega) (by omega) hf.2.2.2 rfl
          refine ⟨r, s0 _ ?_, i0 _ ?_⟩
          · simp only [Option.getD_some, if_neg e, show decide ((0 : Int) ≤ n ∧ n ≤ 255) = true from decide_eq_true ⟨hr.1, hm⟩, if_true, hf.1]
            exact r1
          · simp only [ok, if_neg e]
            refine i3 _ _ _ _ ?_
            simp only [if_true, show decide (n > 255) = false from decide_eq_false (by omega)]
            refine Ev.step (fun k => by rw [impl_FourGet.j3]) ?_
            simp only [Bool.false_eq_true, if_false, List.length_map, hwl, if_pos (show (i : Int) < ((L.length - 1 : Nat) : Int) by omega), if_pos hf.2.1, hf.2.2.1, hw]
            exact r2
        · refine ⟨(0, false), s0 _ ?_, i0 _ ?_⟩
          · simp only [Option.getD_some, if_neg e, show decide ((0 : Int) ≤ n ∧ n ≤ 255) = false from decide_eq_false (by omega), Bool.false_eq_true, if_false]
            exact Ev.now _
          · simp only [ok, if_neg e]
            refine i3 _ _ _ _ ?_
            simp only [if_true, show decide (n > 255) = true from decide_eq_true (by omega)]
            exact bad n
theorem four_eq (l : Bs) (hl : l.length ≤ 1048576) : ∃ r : Int × Bool, Ev (fun k => spec_FourGet.f k (B l)) r ∧ Ev (fun k => impl_FourGet.f k (B l)) r := by
  have hp := parts_len l
  have hx : ∀ x ∈ parts l, x.length ≤ 140737488355328 := fun x hx => by have := parts_mem_len l x hx; omega
  by_cases h : (parts l).length ≤ 4 ∧ l.length ≤ 200
  · obtain ⟨r, r1, r2⟩ := four_run (parts l) h.1 hx (parts l).length 0 0 0 (by omega) (List.length_pos_iff.2 (parts_ne l)) (by omega) (by simp) (by simp)
    refine ⟨r, ?_, ?_⟩
    · unfold spec_FourGet.f
      refine ev_bind (spec_Parts l (by omega)) ?_
      simp only [List.length_map, B_size, if_neg (show ¬ ((parts l).length : Int) > 4 by omega), show decide ((l.length : Int) > 200) = false from decide_eq_false (by omega)]
      refine Ev.step (fun k => by rw [spec_FourGet.j0]) ?_
      simp only [Bool.false_eq_true, if_false]
      exact r1
    · unfold impl_FourGet.f
      simp only [impl_Labels l (by omega), Option.bind_some, List.length_map, B_size, if_neg (show ¬ (l.length : Int) > 200 by omega), show decide (((parts l).length : Int) > 4) = false from decide_eq_false (by omega)]
      refine Ev.step (fun k => by rw [impl_FourGet.j0]) ?_
      simp only [Bool.false_eq_true, if_false, List.length_map]
      exact r2
  · refine ⟨(0, false), ?_, ?_⟩
    · unfold spec_FourGet.f
      refine ev_bind (spec_Parts l (by omega)) ?_
      by_cases h1 : ((parts l).length : Int) > 4
      · simp only [List.length_map, B_size, if_pos h1]
        refine ev_1 fun k => ?_
        simp only [spec_FourGet.j0, if_true]
      · simp only [List.length_map, B_size, if_neg h1, show decide ((l.length : Int) > 200) = true from decide_eq_true (by omega)]
        refine ev_1 fun k => ?_
        simp only [spec_FourGet.j0, if_true]
    · unfold impl_FourGet.f
      simp only [impl_Labels l (by omega), Option.bind_some, List.length_map, B_size]
      by_cases h1 : (l.length : Int) > 200
      · simp only [if_pos h1]
        refine ev_1 fun k => ?_
        simp only [impl_FourGet.j0, if_true]
      · simp only [if_neg h1, show decide (((parts l).length : Int) > 4) = true from decide_eq_true (by omega)]
        refine ev_1 fun k => ?_
        simp only [impl_FourGet.j0, if_true]

theorem FnExactFourGet : laws_FnExactFourGet.Pure := by
  intro a0 h0
  obtain ⟨l, rfl, hl⟩ := exBn a0 _ h0
  refine Ev.rounds ?_
  unfold laws_FnExactFourGet.f
  by_cases hb : ((B l).size : Int) > 1048576
  · simp only [if_pos hb]; exact Ev.now _
  · simp only [if_neg hb]
    obtain ⟨r, r1, r2⟩ := four_eq l (by rw [B_size] at hb; omega)
    refine ev_bind r1 ?_
    refine ev_bind r2 ?_
    simp only [if_true, bne_self_eq_false, Bool.false_eq_true, if_false]
    exact Ev.now _

end Go.Proofs.YtafdpgdllmhhmaaDoor.Pure
