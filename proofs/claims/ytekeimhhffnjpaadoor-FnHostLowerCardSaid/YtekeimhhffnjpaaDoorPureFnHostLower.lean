/- The pure side of the law FnHostLower: what the printed functions tell is what the law says, for every input within the law's bounds. -/
import Derived.Test.YtekeimhhffnjpaaDoorPFnHostLowerx10
import Derived.Test.YtekeimhhffnjpaaDoorBase
import Derived.Test.YtekeimhhffnjpaaDoorHM
set_option linter.unusedVariables false
set_option linter.unusedSimpArgs false
namespace Go.Proofs.YtekeimhhffnjpaaDoor.Pure
open Go.RowKit Go.Proofs.YtekeimhhffnjpaaDoor.H Go.Proofs.YtekeimhhffnjpaaDoor.PFnHostLower Go.Proofs.YtekeimhhffnjpaaDoorW.PrintWords Go.Proofs.YtekeimhhffnjpaaDoorW.PrintLast Go.Proofs.YtekeimhhffnjpaaDoor.Base

theorem spec_hex (c : UInt8) : Ev (fun k => spec_l1Hex.f k ((c.toNat : Nat) : Int)) (hexI c) := by
  have h255 := lt256 c
  unfold spec_l1Hex.f
  have j1 : ∀ b : Bool, (b = decide (65 ≤ c.toNat ∧ c.toNat ≤ 70)) → ¬ (48 ≤ c.toNat ∧ c.toNat ≤ 57) → Ev (fun k => spec_l1Hex.j1 k ((c.toNat : Nat) : Int) b) (hexI c) := by
    intro b hb h0
    refine ev_1 fun k => ?_
    simp only [spec_l1Hex.j1]
    unfold hexI
    rw [if_neg h0]
    by_cases h1 : 65 ≤ c.toNat ∧ c.toNat ≤ 70
    · rw [hb, if_pos (by simpa using h1), if_neg (by omega), if_pos h1]; congr 1; omega
    · rw [hb, if_neg (by simpa using h1)]
      by_cases h2 : ((c.toNat : Nat) : Int) ≥ 97
      · rw [if_pos h2]
        by_cases h3 : ((c.toNat : Nat) : Int) ≤ 102
        · rw [if_pos h3, if_pos (by omega)]; congr 1; omega
        · rw [if_neg h3, if_neg (by omega), if_neg h1]
      · rw [if_neg h2, if_neg (by omega), if_neg h1]
  have j0 : ∀ b : Bool, (b = decide (48 ≤ c.toNat ∧ c.toNat ≤ 57)) → Ev (fun k => spec_l1Hex.j0 k ((c.toNat : Nat) : Int) b) (hexI c) := by
    intro b hb
    refine Ev.step (fun k => by rw [spec_l1Hex.j0]) ?_
    by_cases h0 : 48 ≤ c.toNat ∧ c.toNat ≤ 57
    · simp only [if_pos (show b = true by rw [hb]; simpa using h0)]
      have : (((c.toNat : Nat) : Int) - 48) % 256 = hexI c := by unfold hexI; rw [if_pos h0]; omega
      rw [this]; exact Ev.now _
    · simp only [if_neg (show ¬ b = true by rw [hb]; simpa using h0)]
      by_cases h1 : ((c.toNat : Nat) : Int) ≥ 65
      · simp only [if_pos h1]; exact j1 _ (by congr 1; simp; omega) h0
      · simp only [if_neg h1]; exact j1 _ (by symm; simp; omega) h0
  by_cases h1 : ((c.toNat : Nat) : Int) ≥ 48
  · simp only [if_pos h1]; exact j0 _ (by congr 1; simp; omega)
  · simp only [if_neg h1]; exact j0 _ (by symm; simp; omega)

theorem rd_parts (L : List Bs) (i : Nat) (h : i < L.length) : rdOf ByteArray.empty (L.map B) ((i : Nat) : Int) = B L[i] := by
  unfold rdOf
  rw [Int.toNat_natCast, List.getD_eq_getElem?_getD]
  simp [List.getElem?_map, List.getElem?_eq_getElem h]
theorem In_f (n a b : Int) : spec_l1In.f n a b = some (decide (a ≤ n ∧ n ≤ b)) := by
  unfold spec_l1In.f
  by_cases h : n ≥ a
  · rw [if_pos h]; congr 1; simp; omega
  · rw [if_neg h]; congr 1; symm; simp; omega

theorem spec_Cut_l0 (c : UInt8) (l : Bs) (hl : l.length ≤ 8796093022207) (d : Nat) : ∀ (f i : Nat) (X : List ByteArray), i + d = l.length → f ≤ i → X.length ≤ f → (∀ x ∈ (l.drop f).take (i - f), x ≠ c) → Ev (fun k => spec_l1Cut.l0 k (B l) ((c.toNat : Nat) : Int) X f i) (X ++ (splitC c (l.drop f)).map B) := by
  induction d with
  | zero =>
    intro f i X hi hf hX h
    refine ev_1 fun k => ?_
    simp only [spec_l1Cut.l0]
    rw [if_neg (by rw [B_size]; omega), if_pos (by omega), if_pos (by rw [B_size]; omega), if_pos (by omega)]
    rw [List.take_of_length_le (by simp; omega)] at h
    rw [splitC_plain c _ h, Int.toNat_natCast, B_extract, B_size, List.take_of_length_le (by simp)]
    rfl
  | succ d ih =>
    intro f i X hi hf hX h
    have hlt : i < l.length := by omega
    refine Ev.step (fun k => by rw [spec_l1Cut.l0]) ?_
    have hi0 : (0 : Int) ≤ (i : Int) := by omega
    have hi1 : (i : Int) < (l.length : Int) := by omega
    have hi2 : (i : Int) ≤ (l.length : Int) := by omega
    have hw : wrap64 ((i : Int) + 1) = ((i + 1 : Nat) : Int) := by rw [w64 (by omega) (by omega)]; rfl
    simp only [B_size, bt_B, Int.toNat_natCast, get_eq hlt, if_pos hi0, if_pos hi1, if_pos hi2, hw]
    have hcat : l.drop f = (l.drop f).take (i - f) ++ l[i] :: l.drop (i + 1) := by
      conv => lhs; rw [← List.take_append_drop (i - f) (l.drop f)]
      rw [List.drop_drop, show f + (i - f) = i by omega, List.drop_eq_getElem_cons hlt]
    by_cases e : l[i] = c
    · have e1 : ((l[i].toNat : Nat) : Int) = ((c.toNat : Nat) : Int) := by rw [e]
      simp only [if_pos e1, if_pos (show (0 : Int) ≤ (f : Int) by omega), if_pos (show (f : Int) ≤ (i : Int) by omega), if_pos (show X.length < 8796093022208 by omega)]
      have := ih (i + 1) (i + 1) (X ++ [B ((l.drop f).take (i - f))]) (by omega) (by omega) (by simp; omega) (by simp)
      have hs : splitC c (l.drop f) = (l.drop f).take (i - f) :: splitC c (l.drop (i + 1)) := by
        conv => lhs; rw [hcat, e, splitC_cut c _ _ h]
      rw [B_extract, hs]
      simpa using this
    · have e1 : ¬ ((l[i].toNat : Nat) : Int) = ((c.toNat : Nat) : Int) := fun h => e (UInt8.toNat_inj.1 (by omega))
      simp only [if_neg e1]
      refine ih f (i + 1) X (by omega) (by omega) hX ?_
      have ht : (l.drop f).take (i + 1 - f) = (l.drop f).take (i - f) ++ [l[i]] := by
        rw [show i + 1 - f = (i - f) + 1 by omega, List.take_succ_eq_append_getElem (by simp; omega)]
        simp [show f + (i - f) = i by omega]
      rw [ht]
      intro x hx
      rcases List.mem_append.1 hx with hx | hx
      · exact h x hx
      · rw [List.mem_singleton.1 hx]; exact e
theorem spec_Cut (c : UInt8) (n : Nat) (hn : c = UInt8.ofNat n) (hn' : n < 256) (l : Bs) (hl : l.length ≤ 8796093022207) : Ev (fun k => spec_l1Cut.f k (B l) ((n : Nat) : Int)) ((splitC c l).map B) := by
  have e : ((n : Nat) : Int) = ((c.toNat : Nat) : Int) := by subst hn; simp; omega
  rw [e]
  unfold spec_l1Cut.f
  exact spec_Cut_l0 c l hl l.length 0 0 [] (by omega) (by omega) (by simp) (by simp)

/-- The pieces at the dots, without an empty one at the end. -/
def parts (l : Bs) : List Bs := if 1 < (splitC 46 l).length ∧ (splitC 46 l).getLast? = some [] then (splitC 46 l).dropLast else splitC 46 l
theorem tail_some (t : List Bs) (h : t.length ≤ 8796093022208) :
    (if (((t.map B).length : Nat) : Int) > 1 then (if 0 ≤ (wrap64 (((t.map B).length : Int) - 1)) then (if (wrap64 (((t.map B).length : Int) - 1)) < ((t.map B).length : Int) then (if (rdOf ByteArray.empty (t.map B) (wrap64 (((t.map B).length : Int) - 1))).toList = ([] : List UInt8) then (if (wrap64 (((t.map B).length : Int) - 1)) ≤ ((t.map B).length : Int) then (some ((t.map B).take ((wrap64 (((t.map B).length : Int) - 1)) : Int).toNat)) else (none)) else (some (t.map B))) else (none)) else (none)) else (some (t.map B))) =
      some ((if 1 < t.length ∧ t.getLast? = some [] then t.dropLast else t).map B) := by
  rw [List.length_map]
  by_cases h1 : 1 < t.length
  · have hw : wrap64 ((t.length : Int) - 1) = ((t.length - 1 : Nat) : Int) := by rw [w64 (by omega) (by omega)]; omega
    rw [if_pos (by omega), hw, if_pos (by omega), if_pos (by omega)]
    have hr : rdOf ByteArray.empty (t.map B) ((t.length - 1 : Nat) : Int) = B (t[t.length - 1]'(by omega)) := by
      unfold rdOf
      rw [Int.toNat_natCast, List.getD_eq_getElem?_getD]
      simp [List.getElem?_map, List.getElem?_eq_getElem (show t.length - 1 < t.length by omega)]
    have hl : t.getLast? = some (t[t.length - 1]'(by omega)) := by rw [List.getLast?_eq_getElem?, List.getElem?_eq_getElem (by omega)]
    rw [hr, B_toList, hl]
    by_cases h2 : t[t.length - 1]'(by omega) = []
    · rw [if_pos h2, if_pos (by omega), if_pos ⟨h1, by rw [h2]⟩, Int.toNat_natCast, List.dropLast_eq_take, List.map_take]
    · rw [if_neg h2, if_neg (by simp [h2])]
  · rw [if_neg (by omega), if_neg (by omega)]
theorem splitC_len_le (c : UInt8) (l : Bs) : (splitC c l).length ≤ l.length + 1 := by
  rw [splitC_length]; have := List.count_le_length (a := c) (l := l); omega
theorem spec_Parts (l : Bs) (hl : l.length ≤ 8796093022207) : Ev (fun k => spec_l2Parts.f k (B l)) ((parts l).map B) := by
  unfold spec_l2Parts.f
  refine ev_bind (spec_Cut 46 46 rfl (by decide) l hl) ?_
  have := tail_some (splitC 46 l) (by have := splitC_len_le 46 l; omega)
  refine ev_of fun k => ?_
  exact this
theorem impl_Labels (l : Bs) (hl : l.length < 4294967281) : impl_labels.f (B l) = some ((parts l).map B) := by
  unfold impl_labels.f
  have e : strings_Split.f (B l) (⟨#[46]⟩ : ByteArray) = some ((splitC 46 l).map B) := by
    unfold strings_Split.f
    rw [if_pos (by rw [B_size]; exact hl)]
    simp
  rw [e, Option.bind_some]
  exact tail_some (splitC 46 l) (by have := splitC_len_le 46 l; omega)
theorem splitC_mem_len (c : UInt8) : ∀ (l : Bs), ∀ x ∈ splitC c l, x.length ≤ l.length
  | [], x, h => by simp [splitC] at h; subst h; simp
  | y :: t, x, h => by
    have ih := splitC_mem_len c t
    unfold splitC at h
    split at h
    · rcases List.mem_cons.1 h with rfl | h
      · simp
      · have := ih x h; simp; omega
    · split at h
      · rename_i h0; exact absurd h0 (splitC_ne c t)
      · rename_i a r h0
        rcases List.mem_cons.1 h with rfl | h
        · have := ih a (by rw [h0]; simp); simp; omega
        · have := ih x (by rw [h0]; simp [h]); simp; omega
theorem parts_mem_len (l : Bs) (x : Bs) (h : x ∈ parts l) : x.length ≤ l.length := by
  unfold parts at h
  split at h
  · exact splitC_mem_len 46 l x ((List.dropLast_sublist _).subset h)
  · exact splitC_mem_len 46 l x h
theorem parts_ne (l : Bs) : parts l ≠ [] := by
  unfold parts
  split
  · rename_i h; intro e; have := congrArg List.length e; simp at this; omega
  · exact splitC_ne 46 l
theorem parts_len (l : Bs) : (parts l).length ≤ l.length + 1 := by
  have := splitC_len_le 46 l
  unfold parts
  split
  · simp; omega
  · exact this

/-- The number of figures to a base. -/
def dig (base : Int) : Int → Bs → Option Int
  | n, [] => some n
  | n, c :: t => if hexI c < 0 ∨ hexI c ≥ base ∨ n > 4294967295 then none else dig base (n * base + hexI c) t
def partNum : Bs → Option Int
  | [] => none
  | [c] => dig 10 0 [c]
  | a :: b :: t => if a = 48 ∧ (b = 120 ∨ b = 88) then dig 16 0 t else if a = 48 then dig 8 0 (b :: t) else dig 10 0 (a :: b :: t)
theorem partNum_two (a b : UInt8) (t : Bs) : partNum (a :: b :: t) = if a = 48 ∧ (b = 120 ∨ b = 88) then dig 16 0 t else if a = 48 then dig 8 0 (b :: t) else dig 10 0 (a :: b :: t) := rfl
theorem partNum_one (c : UInt8) : partNum [c] = dig 10 0 [c] := rfl
theorem dig_rng (base : Int) (hb : 0 ≤ base) (hb' : base ≤ 16) : ∀ (l : Bs) (n r : Int), 0 ≤ n → n ≤ 68719476736 → dig base n l = some r → 0 ≤ r ∧ r ≤ 68719476736
  | [], n, r, h0, h1, h => by simp [dig] at h; omega
  | c :: t, n, r, h0, h1, h => by
    unfold dig at h
    split at h
    · cases h
    · rename_i hc
      have hr := hexI_rng c
      have p1 : 0 ≤ n * base := Int.mul_nonneg h0 hb
      have p2 : n * base ≤ 4294967295 * 16 := Int.mul_le_mul (by omega) hb' hb (by omega)
      exact dig_rng base hb hb' t _ r (by omega) (by omega) h
theorem partNum_rng (l : Bs) (r : Int) (h : partNum l = some r) : 0 ≤ r ∧ r ≤ 68719476736 := by
  match l, h with
  | [], h => simp [partNum] at h
  | [c], h => rw [partNum_one] at h; exact dig_rng 10 (by omega) (by omega) _ 0 r (by omega) (by omega) h
  | a :: b :: t, h =>
    rw [partNum_two] at h
    split at h
    · exact dig_rng 16 (by omega) (by omega) _ 0 r (by omega) (by omega) h
    · split at h
      · exact dig_rng 8 (by omega) (by omega) _ 0 r (by omega) (by omega) h
      · exact dig_rng 10 (by omega) (by omega) _ 0 r (by omega) (by omega) h
theorem mul_rng {n base : Int} (h0 : 0 ≤ n) (h1 : n ≤ 4294967295) (hb : 0 ≤ base) (hb' : base ≤ 16) : 0 ≤ n * base ∧ n * base ≤ 68719476720 := by
  have p1 : 0 ≤ n * base := Int.mul_nonneg h0 hb
  have p2 : n * base ≤ 4294967295 * 16 := Int.mul_le_mul h1 hb' hb (by omega)
  omega

theorem spec_Digits_l0 (base : Int) (hb : 0 ≤ base) (hb' : base ≤ 16) (l : Bs) (hl : l.length ≤ 140737488355328) (d : Nat) : ∀ (i : Nat) (n : Int), i + d = l.length → 0 ≤ n → Ev (fun k => spec_l2Digits.l0 k (B l) base n i) ((dig base n (l.drop i)).getD (-1)) := by
  induction d with
  | zero =>
    intro i n hi hn
    refine ev_1 fun k => ?_
    simp only [spec_l2Digits.l0]
    rw [if_neg (by rw [B_size]; omega), List.drop_eq_nil_of_le (by omega)]; rfl
  | succ d ih =>
    intro i n hi hn
    have hlt : i < l.length := by omega
    refine Ev.step (fun k => by rw [spec_l2Digits.l0]) ?_
    have hi0 : (0 : Int) ≤ (i : Int) := by omega
    have hi1 : (i : Int) < (l.length : Int) := by omega
    have hw : wrap64 ((i : Int) + 1) = ((i + 1 : Nat) : Int) := by rw [w64 (by omega) (by omega)]; rfl
    simp only [B_size, bt_B, Int.toNat_natCast, get_eq hlt, if_pos hi0, if_pos hi1, hw]
    refine ev_bind (spec_hex _) ?_
    have hr := hexI_rng l[i]
    rw [List.drop_eq_getElem_cons hlt]
    unfold dig
    by_cases c1 : hexI l[i] < 0
    · simp only [if_pos c1, if_pos (show hexI l[i] < 0 ∨ hexI l[i] ≥ base ∨ n > 4294967295 from Or.inl c1)]; exact Ev.now _
    by_cases c2 : hexI l[i] ≥ base
    · simp only [if_neg c1, if_pos c2, if_pos (show hexI l[i] < 0 ∨ hexI l[i] ≥ base ∨ n > 4294967295 from Or.inr (Or.inl c2))]; exact Ev.now _
    by_cases c3 : n > 4294967295
    · simp only [if_neg c1, if_neg c2, if_pos c3, if_pos (show hexI l[i] < 0 ∨ hexI l[i] ≥ base ∨ n > 4294967295 from Or.inr (Or.inr c3))]; exact Ev.now _
    have hm := mul_rng hn (show n ≤ 4294967295 by omega) hb hb'
    have hv : wrap64 (wrap64 (n * base) + hexI l[i]) = n * base + hexI l[i] := by
      rw [w64 (n := n * base) (by omega) (by omega), w64 (by omega) (by omega)]
    simp only [if_neg c1, if_neg c2, if_neg c3, if_neg (show ¬ (hexI l[i] < 0 ∨ hexI l[i] ≥ base ∨ n > 4294967295) by omega), hv]
    exact ih (i + 1) _ (by omega) (by omega)
theorem spec_Digits (base : Int) (hb : 0 ≤ base) (hb' : base ≤ 16) (l : Bs) (hl : l.length ≤ 140737488355328) : Ev (fun k => spec_l2Digits.f k (B l) base) ((dig base 0 l).getD (-1)) := by
  unfold spec_l2Digits.f
  exact spec_Digits_l0 base hb hb' l hl l.length 0 0 (by omega) (by omega)
theorem B_drop1 (a : UInt8) (t : Bs) : (B (a :: t)).extract 1 (a :: t).length = B t := by
  rw [B_extract]; simp
theorem B_drop2 (a b : UInt8) (t : Bs) : (B (a :: b :: t)).extract 2 (a :: b :: t).length = B t := by
  rw [B_extract]; simp
theorem bt_0 (a : UInt8) (t : Bs) : bt (B (a :: t)) 0 = ((a.toNat : Nat) : Int) := by rw [bt_B]; rfl
theorem bt_1 (a b : UInt8) (t : Bs) : bt (B (a :: b :: t)) 1 = ((b.toNat : Nat) : Int) := by rw [bt_B]; rfl
theorem spec_Part (l : Bs) (hl : l.length ≤ 140737488355328) : Ev (fun k => spec_l2Part.f k (B l)) ((partNum l).getD (-1)) := by
  unfold spec_l2Part.f
  match l, hl with
  | [], hl => simp only [B_toList, if_true]; exact Ev.now _
  | [c], hl =>
    have n2 : ¬ (([c].length : Nat) : Int) ≥ 2 := by simp
    simp only [B_toList, List.cons_ne_nil, if_false, B_size, if_neg n2]
    refine Ev.step (fun k => by rw [spec_l2Part.j0]) ?_
    simp only [Bool.false_eq_true, if_false, B_size, if_neg n2]
    refine Ev.step (fun k => by rw [spec_l2Part.j1]) ?_
    simp only [Bool.false_eq_true, if_false]
    refine ev_bind (spec_Digits 10 (by omega) (by omega) [c] hl) ?_
    exact Ev.now _
  | a :: b :: t, hl =>
    have n2 : (((a :: b :: t).length : Nat) : Int) ≥ 2 := by simp; omega
    have n0 : 0 < (((a :: b :: t).length : Nat) : Int) := by omega
    have n1 : 1 < (((a :: b :: t).length : Nat) : Int) := by omega
    have n3 : 1 ≤ (((a :: b :: t).length : Nat) : Int) := by omega
    have n4 : 2 ≤ (((a :: b :: t).length : Nat) : Int) := by omega
    have hlt : t.length ≤ 140737488355328 := by simp at hl; omega
    have hlt' : (b :: t).length ≤ 140737488355328 := by simp at hl ⊢; omega
    have j0 : ∀ x : Bool, (x = true ↔ (a = 48 ∧ (b = 120 ∨ b = 88))) → Ev (fun k => spec_l2Part.j0 k (B (a :: b :: t)) x) ((partNum (a :: b :: t)).getD (-1)) := by
      intro x hx
      refine Ev.step (fun k => by rw [spec_l2Part.j0]) ?_
      rw [partNum_two]
      by_cases h : x = true
      · simp only [if_pos h, B_drop2, if_pos (hx.1 h), B_size, if_pos n4]
        refine ev_bind (spec_Digits 16 (by omega) (by omega) t hlt) ?_
        exact Ev.now _
      · simp only [if_neg h, if_neg (fun q => h (hx.2 q)), B_size, if_pos n2, if_pos n0, bt_0]
        refine Ev.step (fun k => by rw [spec_l2Part.j1]) ?_
        by_cases e : a = 48
        · have e' : (((a.toNat : Nat) : Int) == 48) = true := by rw [beq_iff_eq]; exact (byte_eq a 48 (by decide)).2 e
          simp only [e', if_true, if_pos e, B_drop1, B_size, if_pos n3]
          refine ev_bind (spec_Digits 8 (by omega) (by omega) (b :: t) hlt') ?_
          exact Ev.now _
        · have e' : (((a.toNat : Nat) : Int) == 48) = false := by rw [beq_eq_false_iff_ne]; exact fun q => e ((byte_eq a 48 (by decide)).1 q)
          simp only [e', Bool.false_eq_true, if_false, if_neg e]
          refine ev_bind (spec_Digits 10 (by omega) (by omega) _ hl) ?_
          exact Ev.now _
    simp only [B_toList, List.cons_ne_nil, if_false, B_size, if_pos n2, if_pos n0, if_pos n1, bt_0, bt_1]
    by_cases e : a = 48
    · simp only [if_pos (show ((a.toNat : Nat) : Int) = 48 from (byte_eq a 48 (by decide)).2 e)]
      by_cases e2 : b = 120
      · simp only [if_pos (show ((b.toNat : Nat) : Int) = 120 from (byte_eq b 120 (by decide)).2 e2)]
        exact j0 true (by simp [e, e2])
      · simp only [if_neg (show ¬ ((b.toNat : Nat) : Int) = 120 from fun q => e2 ((byte_eq b 120 (by decide)).1 q))]
        refine j0 _ ?_
        rw [beq_iff_eq]
        have := byte_eq b 88 (by decide)
        constructor
        · intro q; exact ⟨e, Or.inr (this.1 q)⟩
        · rintro ⟨-, q | q⟩
          · exact absurd q e2
          · exact this.2 q
    · simp only [if_neg (show ¬ ((a.toNat : Nat) : Int) = 48 from fun q => e ((byte_eq a 48 (by decide)).1 q))]
      exact j0 false (by simp [e])

theorem impl_Hex (c : UInt8) : Ev (fun k => impl_hex.f k ((c.toNat : Nat) : Int)) (hexI c) := by
  have h255 := lt256 c
  unfold impl_hex.f
  have j1 : ∀ b : Bool, (b = decide (97 ≤ c.toNat ∧ c.toNat ≤ 102)) → ¬ (48 ≤ c.toNat ∧ c.toNat ≤ 57) → Ev (fun k => impl_hex.j1 k ((c.toNat : Nat) : Int) b) (hexI c) := by
    intro b hb h0
    refine ev_1 fun k => ?_
    simp only [impl_hex.j1]
    unfold hexI
    rw [if_neg h0]
    by_cases h1 : 97 ≤ c.toNat ∧ c.toNat ≤ 102
    · rw [hb, if_pos (by simpa using h1)]
      by_cases h2 : 65 ≤ c.toNat ∧ c.toNat ≤ 70
      · omega
      · first | (rw [if_pos h1]; congr 1; omega) | (rw [if_neg h2, if_pos h1]; congr 1; omega)
    · rw [hb, if_neg (by simpa using h1)]
      by_cases h2 : ((c.toNat : Nat) : Int) ≥ 65
      · rw [if_pos h2]
        by_cases h3 : ((c.toNat : Nat) : Int) ≤ 70
        · rw [if_pos h3]
          have h4 : 65 ≤ c.toNat ∧ c.toNat ≤ 70 := by omega
          first | (rw [if_pos h4]; congr 1; omega) | (rw [if_neg h1, if_pos h4]; congr 1; omega)
        · rw [if_neg h3]
          have h4 : ¬ (65 ≤ c.toNat ∧ c.toNat ≤ 70) := by omega
          first | rw [if_neg h4, if_neg h1] | rw [if_neg h1, if_neg h4]
      · rw [if_neg h2]
        have h4 : ¬ (65 ≤ c.toNat ∧ c.toNat ≤ 70) := by omega
        first | rw [if_neg h4, if_neg h1] | rw [if_neg h1, if_neg h4]
  have j0 : ∀ b : Bool, (b = decide (48 ≤ c.toNat ∧ c.toNat ≤ 57)) → Ev (fun k => impl_hex.j0 k ((c.toNat : Nat) : Int) b) (hexI c) := by
    intro b hb
    refine Ev.step (fun k => by rw [impl_hex.j0]) ?_
    by_cases h0 : 48 ≤ c.toNat ∧ c.toNat ≤ 57
    · simp only [if_pos (show b = true by rw [hb]; simpa using h0)]
      have : (((c.toNat : Nat) : Int) - 48) % 256 = hexI c := by unfold hexI; rw [if_pos h0]; omega
      rw [this]; exact Ev.now _
    · simp only [if_neg (show ¬ b = true by rw [hb]; simpa using h0)]
      by_cases h1 : ((c.toNat : Nat) : Int) ≥ 97
      · simp only [if_pos h1]; exact j1 _ (by congr 1; simp; omega) h0
      · simp only [if_neg h1]; exact j1 _ (by symm; simp; omega) h0
  by_cases h1 : ((c.toNat : Nat) : Int) ≥ 48
  · simp only [if_pos h1]; exact j0 _ (by congr 1; simp; omega)
  · simp only [if_neg h1]; exact j0 _ (by symm; simp; omega)
def ok (x : Option Int) : Int × Bool := match x with | some n => (n, true) | none => (0, false)
theorem impl_Digits_l0 (base : Int) (hb : 0 ≤ base) (hb' : base ≤ 16) (l : Bs) (hl : l.length ≤ 140737488355328) (d : Nat) : ∀ (i : Nat) (n : Int), i + d = l.length → 0 ≤ n → Ev (fun k => impl_labelNumber.l0 k (B l) base n (l.length : Int) i) (ok (dig base n (l.drop i))) := by
  induction d with
  | zero =>
    intro i n hi hn
    refine ev_1 fun k => ?_
    simp only [impl_labelNumber.l0]
    rw [if_neg (by omega), List.drop_eq_nil_of_le (by omega)]; rfl
  | succ d ih =>
    intro i n hi hn
    have hlt : i < l.length := by omega
    refine Ev.step (fun k => by rw [impl_labelNumber.l0]) ?_
    have hi0 : (0 : Int) ≤ (i : Int) := by omega
    have hi1 : (i : Int) < (l.length : Int) := by omega
    have hw : wrap64 ((i : Int) + 1) = ((i + 1 : Nat) : Int) := by rw [w64 (by omega) (by omega)]; rfl
    simp only [B_size, bt_B, Int.toNat_natCast, get_eq hlt, if_pos hi0, if_pos hi1, hw]
    refine ev_bind (impl_Hex _) ?_
    have hr := hexI_rng l[i]
    rw [List.drop_eq_getElem_cons hlt]
    unfold dig
    by_cases c1 : hexI l[i] < 0
    · simp only [if_pos c1, if_pos (show hexI l[i] < 0 ∨ hexI l[i] ≥ base ∨ n > 4294967295 from Or.inl c1)]; exact Ev.now _
    by_cases c2 : hexI l[i] ≥ base
    · simp only [if_neg c1, if_pos c2, if_pos (show hexI l[i] < 0 ∨ hexI l[i] ≥ base ∨ n > 4294967295 from Or.inr (Or.inl c2))]; exact Ev.now _
    by_cases c3 : n > 4294967295
    · simp only [if_neg c1, if_neg c2, if_pos c3, if_pos (show hexI l[i] < 0 ∨ hexI l[i] ≥ base ∨ n > 4294967295 from Or.inr (Or.inr c3))]; exact Ev.now _
    have hm := mul_rng hn (show n ≤ 4294967295 by omega) hb hb'
    have hv : wrap64 (wrap64 (base * n) + hexI l[i]) = n * base + hexI l[i] := by
      rw [Int.mul_comm base n, w64 (n := n * base) (by omega) (by omega), w64 (by omega) (by omega)]
    simp only [if_neg c1, if_neg c2, if_neg c3, if_neg (show ¬ (hexI l[i] < 0 ∨ hexI l[i] ≥ base ∨ n > 4294967295) by omega), hv]
    exact ih (i + 1) _ (by omega) (by omega)
theorem impl_Digits (base : Int) (hb : 0 ≤ base) (hb' : base ≤ 16) (l : Bs) (hl : l.length ≤ 140737488355328) : Ev (fun k => impl_labelNumber.j1 k (B l) base) (ok (dig base 0 l)) := by
  refine Ev.step (fun k => by rw [impl_labelNumber.j1]) ?_
  rw [B_size]
  exact impl_Digits_l0 base hb hb' l hl l.length 0 0 (by omega) (by omega)
theorem hasPrefix2 (x y : UInt8) (l : Bs) : strings_HasPrefix.f (B l) (B [x, y]) = some (l.take 2 == [x, y]) := by
  unfold strings_HasPrefix.f stringslite_HasPrefix.f
  simp only [B_size, B_toList, B_extract, List.length_cons, List.length_nil, List.drop_zero]
  by_cases h : 2 ≤ l.length
  · rw [if_pos (by omega), if_pos (by omega), if_pos (by omega)]
    simp
  · rw [if_neg (by omega)]
    simp only [Option.bind_some]
    congr 1
    symm
    rw [beq_eq_false_iff_ne]
    intro e
    have := congrArg List.length e
    simp at this
    omega
theorem impl_Number (l : Bs) (hl : l.length ≤ 140737488355328) : Ev (fun k => impl_labelNumber.f k (B l)) (ok (partNum l)) := by
  unfold impl_labelNumber.f
  match l, hl with
  | [], hl => simp only [B_toList, if_true]; exact Ev.now _
  | [c], hl =>
    have n0 : 0 < (([c].length : Nat) : Int) := by simp
    have n1 : ¬ (([c].length : Nat) : Int) > 1 := by simp
    have p1 : strings_HasPrefix.f (B [c]) (⟨#[48, 120]⟩ : ByteArray) = some false := by rw [lit_B [48, 120], hasPrefix2]; simp
    have p2 : strings_HasPrefix.f (B [c]) (⟨#[48, 88]⟩ : ByteArray) = some false := by rw [lit_B [48, 88], hasPrefix2]; simp
    simp only [B_toList, List.cons_ne_nil, if_false, p1, p2, Option.bind_some, Bool.false_eq_true]
    refine Ev.step (fun k => by rw [impl_labelNumber.j0]) ?_
    simp only [Bool.false_eq_true, if_false, B_size, if_pos n0, if_neg n1]
    have : Ev (fun k => impl_labelNumber.j1 k (B [c]) 10) (ok (partNum [c])) := impl_Digits 10 (by omega) (by omega) [c] hl
    by_cases e : bt (B [c]) 0 = 48
    · simp only [if_pos e]; exact this
    · simp only [if_neg e]; exact this
  | a :: b :: t, hl =>
    have n0 : 0 < (((a :: b :: t).length : Nat) : Int) := by simp; omega
    have n1 : (((a :: b :: t).length : Nat) : Int) > 1 := by simp; omega
    have n3 : 1 ≤ (((a :: b :: t).length : Nat) : Int) := by omega
    have n4 : 2 ≤ (((a :: b :: t).length : Nat) : Int) := by simp; omega
    have hlt : t.length ≤ 140737488355328 := by simp at hl; omega
    have hlt' : (b :: t).length ≤ 140737488355328 := by simp at hl ⊢; omega
    have p1 : strings_HasPrefix.f (B (a :: b :: t)) (⟨#[48, 120]⟩ : ByteArray) = some (decide (a = 48 ∧ b = 120)) := by rw [lit_B [48, 120], hasPrefix2]; congr 1; simp [Bool.beq_eq_decide_eq]
    have p2 : strings_HasPrefix.f (B (a :: b :: t)) (⟨#[48, 88]⟩ : ByteArray) = some (decide (a = 48 ∧ b = 88)) := by rw [lit_B [48, 88], hasPrefix2]; congr 1; simp [Bool.beq_eq_decide_eq]
    have j0 : ∀ x : Bool, (x = true ↔ (a = 48 ∧ (b = 120 ∨ b = 88))) → Ev (fun k => impl_labelNumber.j0 k (B (a :: b :: t)) 10 x) (ok (partNum (a :: b :: t))) := by
      intro x hx
      refine Ev.step (fun k => by rw [impl_labelNumber.j0]) ?_
      rw [partNum_two]
      by_cases h : x = true
      · simp only [if_pos h, B_drop2, if_pos (hx.1 h), B_size, if_pos n4]
        exact impl_Digits 16 (by omega) (by omega) t hlt
      · simp only [if_neg h, if_neg (fun q => h (hx.2 q)), B_size, if_pos n0, bt_0]
        by_cases e : a = 48
        · simp only [if_pos (show ((a.toNat : Nat) : Int) = 48 from (byte_eq a 48 (by decide)).2 e), if_pos e, B_drop1, B_size, if_pos n1, if_pos n3]
          exact impl_Digits 8 (by omega) (by omega) (b :: t) hlt'
        · simp only [if_neg (show ¬ ((a.toNat : Nat) : Int) = 48 from fun q => e ((byte_eq a 48 (by decide)).1 q)), if_neg e]
          exact impl_Digits 10 (by omega) (by omega) _ hl
    simp only [B_toList, List.cons_ne_nil, if_false, p1, p2, Option.bind_some]
    by_cases e1 : a = 48 ∧ b = 120
    · simp only [decide_eq_true e1, if_true]
      exact j0 true (by simp [e1.1, e1.2])
    · simp only [decide_eq_false e1, Bool.false_eq_true, if_false]
      refine j0 _ ?_
      rw [decide_eq_true_eq]
      constructor
      · rintro ⟨h1, h2⟩; exact ⟨h1, Or.inr h2⟩
      · rintro ⟨h1, h2 | h2⟩
        · exact absurd ⟨h1, h2⟩ e1
        · exact ⟨h1, h2⟩

/-- The greatest value of the last of n parts. -/
def most (i : Nat) : Int := 256 ^ (4 - i) - 1
theorem spec_l1_run (L : List ByteArray) (o : Int) (i : Nat) (hi : i < 4) (n : Int) (r : Int × Bool) (h : Ev (fun k => (spec_l1In.f n 0 (most i)).bind fun t126 => (if t126 = true then (spec_FourGet.l0 k L (wrap64 ((wrap64 (o * (wrap64 (most i + 1)))) + n)) (wrap64 ((i : Int) + 1))) else (some (0, false)))) r) : Ev (fun k => spec_FourGet.l1 k L o i n 255 i) r := by
  have s1 : ∀ (m : Int) (j : Int), ¬ j < 3 → m = most i → Ev (fun k => spec_FourGet.l1 k L o i n m j) r := by
    intro m j hj hm
    refine Ev.step (fun k => by rw [spec_FourGet.l1]) ?_
    simp only [if_neg hj]
    rw [hm]; exact h
  have st : ∀ (m m' : Int) (j j' : Int), j < 3 → m' = wrap64 ((wrap64 (m * 256)) + 255) → j' = wrap64 (j + 1) → Ev (fun k => spec_FourGet.l1 k L o i n m' j') r → Ev (fun k => spec_FourGet.l1 k L o i n m j) r := by
    intro m m' j j' hj hm hj' hh
    refine Ev.step (fun k => by rw [spec_FourGet.l1]) ?_
    simp only [if_pos hj]
    rw [← hm, ← hj']; exact hh
  match i, hi with
  | 0, _ => exact st 255 65535 _ 1 (by decide +kernel) (by decide +kernel) (by decide +kernel) (st 65535 16777215 _ 2 (by decide +kernel) (by decide +kernel) (by decide +kernel) (st 16777215 4294967295 _ 3 (by decide +kernel) (by decide +kernel) (by decide +kernel) (s1 _ _ (by decide +kernel) (by decide +kernel))))
  | 1, _ => exact st 255 65535 _ 2 (by decide +kernel) (by decide +kernel) (by decide +kernel) (st 65535 16777215 _ 3 (by decide +kernel) (by decide +kernel) (by decide +kernel) (s1 _ _ (by decide +kernel) (by decide +kernel)))
  | 2, _ => exact st 255 65535 _ 3 (by decide +kernel) (by decide +kernel) (by decide +kernel) (s1 _ _ (by decide +kernel) (by decide +kernel))
  | 3, _ => exact s1 _ _ (by decide +kernel) (by decide +kernel)
theorem four_last (i : Nat) (hi : i < 4) (o n a : Int) (ho : 0 ≤ o) (ho' : o < 256 ^ i) (ha : a = o * 256 ^ (4 - i)) (hn : 0 ≤ n) (hn' : n ≤ most i) :
    wrap64 ((wrap64 (o * (wrap64 (most i + 1)))) + n) = a + n ∧ wrap64 (a + n) = a + n := by
  unfold most at *
  match i, hi with
  | 0, _ => simp at *; subst ha; constructor <;> (unfold wrap64; omega)
  | 1, _ => simp at *; subst ha; constructor <;> (unfold wrap64; omega)
  | 2, _ => simp at *; subst ha; constructor <;> (unfold wrap64; omega)
  | 3, _ => simp at *; subst ha; constructor <;> (unfold wrap64; omega)
theorem four_next (i : Nat) (hi : i < 3) (o n a : Int) (ho : 0 ≤ o) (ho' : o < 256 ^ i) (ha : a = o * 256 ^ (4 - i)) (hn : 0 ≤ n) (hn' : n ≤ 255) :
    wrap64 ((wrap64 (o * 256)) + n) = o * 256 + n ∧ 0 ≤ wrap64 (8 * (wrap64 (3 - (i : Int)))) ∧ wrap64 (a + shl .i64 n (wrap64 (8 * (wrap64 (3 - (i : Int)))))) = (o * 256 + n) * 256 ^ (4 - (i + 1)) ∧ o * 256 + n < 256 ^ (i + 1) := by
  match i, hi with
  | 0, _ =>
    have hs : shl .i64 n (wrap64 (8 * (wrap64 (3 - ((0 : Nat) : Int))))) = n * 16777216 := by
      rw [show wrap64 (8 * (wrap64 (3 - ((0 : Nat) : Int)))) = 24 by decide +kernel]; unfold shl; rw [i64wrap, show (2 : Int) ^ min (24 : Int).toNat IntKind.i64.bits = 16777216 by decide +kernel]; unfold wrap64; omega
    rw [hs]; simp at *; subst ha; refine ⟨?_, ?_, ?_, ?_⟩ <;> first | (unfold wrap64; omega) | decide +kernel | omega
  | 1, _ =>
    have hs : shl .i64 n (wrap64 (8 * (wrap64 (3 - ((1 : Nat) : Int))))) = n * 65536 := by
      rw [show wrap64 (8 * (wrap64 (3 - ((1 : Nat) : Int)))) = 16 by decide +kernel]; unfold shl; rw [i64wrap, show (2 : Int) ^ min (16 : Int).toNat IntKind.i64.bits = 65536 by decide +kernel]; unfold wrap64; omega
    rw [hs]; simp at *; subst ha; refine ⟨?_, ?_, ?_, ?_⟩ <;> first | (unfold wrap64; omega) | decide +kernel | omega
  | 2, _ =>
    have hs : shl .i64 n (wrap64 (8 * (wrap64 (3 - ((2 : Nat) : Int))))) = n * 256 := by
      rw [show wrap64 (8 * (wrap64 (3 - ((2 : Nat) : Int)))) = 8 by decide +kernel]; unfold shl; rw [i64wrap, show (2 : Int) ^ min (8 : Int).toNat IntKind.i64.bits = 256 by decide +kernel]; unfold wrap64; omega
    rw [hs]; simp at *; subst ha; refine ⟨?_, ?_, ?_, ?_⟩ <;> first | (unfold wrap64; omega) | decide +kernel | omega
theorem most_impl (i : Nat) (hi : i < 4) : 0 ≤ (wrap64 (8 * (wrap64 (5 - ((i + 1 : Nat) : Int))))) ∧ (wrap64 ((shl .i64 1 (wrap64 (8 * (wrap64 (5 - ((i + 1 : Nat) : Int)))))) - 1)) = most i := by
  match i, hi with
  | 0, _ => decide +kernel
  | 1, _ => decide +kernel
  | 2, _ => decide +kernel
  | 3, _ => decide +kernel
/-- The address that some parts come to, from part i on. -/
def fourR : Nat → Int → List Bs → Int × Bool
  | i, o, [] => (o * 256 ^ (4 - i), true)
  | i, o, [q] => match partNum q with
    | some n => if n ≤ most i then (o * 256 ^ (4 - i) + n, true) else (0, false)
    | none => (0, false)
  | i, o, q :: r :: t => match partNum q with
    | some n => if n ≤ 255 then fourR (i + 1) (o * 256 + n) (r :: t) else (0, false)
    | none => (0, false)
theorem fourR_none (i : Nat) (o : Int) (q : Bs) (t : List Bs) (h : partNum q = none) : fourR i o (q :: t) = (0, false) := by
  cases t with
  | nil => show (match partNum q with | some n => _ | none => _) = _; rw [h]
  | cons r t => show (match partNum q with | some n => _ | none => _) = _; rw [h]
theorem fourR_last (i : Nat) (o n : Int) (q : Bs) (h : partNum q = some n) : fourR i o [q] = if n ≤ most i then (o * 256 ^ (4 - i) + n, true) else (0, false) := by
  show (match partNum q with | some n => _ | none => _) = _; rw [h]
theorem fourR_more (i : Nat) (o n : Int) (q : Bs) (t : List Bs) (ht : t ≠ []) (h : partNum q = some n) : fourR i o (q :: t) = if n ≤ 255 then fourR (i + 1) (o * 256 + n) t else (0, false) := by
  cases t with
  | nil => exact absurd rfl ht
  | cons r t => show (match partNum q with | some n => _ | none => _) = _; rw [h]
theorem four_run (L : List Bs) (hL : L.length ≤ 4) (hx : ∀ x ∈ L, x.length ≤ 140737488355328) (d : Nat) : ∀ (i : Nat) (o a : Int), i + d = L.length → 0 < d → 0 ≤ o → o < 256 ^ i → a = o * 256 ^ (4 - i) →
    Ev (fun k => spec_FourGet.l0 k (L.map B) o i) (fourR i o (L.drop i)) ∧ Ev (fun k => impl_FourGet.l0 k (L.map B) a (L.map B) (L.length : Int) i) (fourR i o (L.drop i)) := by
  induction d with
  | zero => intro i o a hi hd; omega
  | succ d ih =>
    intro i o a hi _ ho ho' ha
    have hlt : i < L.length := by omega
    have hi4 : i < 4 := by omega
    have hi0 : (0 : Int) ≤ (i : Int) := by omega
    have hi1 : (i : Int) < (L.length : Int) := by omega
    have hw : wrap64 ((i : Int) + 1) = ((i + 1 : Nat) : Int) := by rw [w64 (by omega) (by omega)]; rfl
    have hwl : wrap64 ((L.length : Int) - 1) = ((L.length - 1 : Nat) : Int) := by rw [w64 (by omega) (by omega)]; omega
    have hp := hx L[i] (List.getElem_mem hlt)
    have hdr : L.drop i = L[i] :: L.drop (i + 1) := List.drop_eq_getElem_cons hlt
    have sp := spec_Part L[i] hp
    have ip := impl_Number L[i] hp
    have s0 : ∀ r, Ev (fun k => (if (i : Int) = ((L.length - 1 : Nat) : Int) then (spec_FourGet.l1 k (L.map B) o i ((partNum L[i]).getD (-1)) 255 i) else (if decide (0 ≤ (partNum L[i]).getD (-1) ∧ (partNum L[i]).getD (-1) ≤ 255) = true then (spec_FourGet.l0 k (L.map B) (wrap64 ((wrap64 (o * 256)) + ((partNum L[i]).getD (-1)))) ((i + 1 : Nat) : Int)) else (some (0, false))))) r → Ev (fun k => spec_FourGet.l0 k (L.map B) o i) r := by
      intro r h
      refine Ev.step (fun k => by rw [spec_FourGet.l0]) ?_
      simp only [List.length_map, if_pos hi1, if_pos hi0, rd_parts L i hlt, hwl, hw]
      refine ev_bind sp ?_
      simp only [In_f, Option.bind_some]
      exact h
    have i0 : ∀ r, Ev (fun k => (if (i : Int) = ((L.length - 1 : Nat) : Int) then (impl_FourGet.j2 k (L.map B) a i (ok (partNum L[i])).1 (ok (partNum L[i])).2 (most i) (L.map B) (L.length : Int) i) else (impl_FourGet.j2 k (L.map B) a i (ok (partNum L[i])).1 (ok (partNum L[i])).2 255 (L.map B) (L.length : Int) i))) r → Ev (fun k => impl_FourGet.l0 k (L.map B) a (L.map B) (L.length : Int) i) r := by
      intro r h
      refine Ev.step (fun k => by rw [impl_FourGet.l0]) ?_
      simp only [List.length_map, if_pos hi1, if_pos hi0, rd_parts L i hlt, hwl, hw]
      refine ev_bind ip ?_
      by_cases e : (i : Int) = ((L.length - 1 : Nat) : Int)
      · have el : (L.length : Int) = ((i + 1 : Nat) : Int) := by omega
        have hm := most_impl i hi4
        rw [← el] at hm
        simp only [if_pos e, if_pos hm.1, hm.2] at h ⊢
        exact h
      · simp only [if_neg e] at h ⊢
        exact h
    have i3 : ∀ (n m : Int) (b : Bool) (r : Int × Bool), Ev (fun k => impl_FourGet.j3 k (L.map B) a i n (L.map B) (L.length : Int) i (if b = true then decide (n > m) else true)) r → Ev (fun k => impl_FourGet.j2 k (L.map B) a i n b m (L.map B) (L.length : Int) i) r := by
      intro n m b r h
      refine Ev.step (fun k => by rw [impl_FourGet.j2]) ?_
      cases b with
      | true => simpa using h
      | false => simpa using h
    have bad : ∀ (n : Int), Ev (fun k => impl_FourGet.j3 k (L.map B) a i n (L.map B) (L.length : Int) i true) (0, false) := by
      intro n
      refine ev_1 fun k => ?_
      simp only [impl_FourGet.j3, if_true]
    cases hn : partNum L[i] with
    | none =>
      rw [hn] at s0 i0
      rw [hdr, fourR_none _ _ _ _ hn]
      refine ⟨s0 _ ?_, i0 _ ?_⟩
      · simp only [Option.getD_none, show decide ((0 : Int) ≤ -1 ∧ (-1 : Int) ≤ 255) = false by decide +kernel, Bool.false_eq_true, if_false]
        by_cases e : (i : Int) = ((L.length - 1 : Nat) : Int)
        · simp only [if_pos e]
          refine spec_l1_run _ _ _ hi4 _ _ ?_
          simp only [In_f, Option.bind_some, show decide ((0 : Int) ≤ -1 ∧ (-1 : Int) ≤ most i) = false from decide_eq_false (by omega), Bool.false_eq_true, if_false]
          exact Ev.now _
        · simp only [if_neg e]; exact Ev.now _
      · simp only [ok]
        by_cases e : (i : Int) = ((L.length - 1 : Nat) : Int)
        · simp only [if_pos e]; exact i3 _ _ _ _ (bad 0)
        · simp only [if_neg e]; exact i3 _ _ _ _ (bad 0)
    | some n =>
      rw [hn] at s0 i0
      have hr := partNum_rng _ n hn
      by_cases e : (i : Int) = ((L.length - 1 : Nat) : Int)
      · have hde : L.drop (i + 1) = [] := List.drop_eq_nil_of_le (by omega)
        rw [hdr, hde, fourR_last _ _ _ _ hn, ← ha]
        by_cases hm : n ≤ most i
        · have hf := four_last i hi4 o n a ho ho' ha hr.1 hm
          rw [if_pos hm]
          refine ⟨s0 _ ?_, i0 _ ?_⟩
          · simp only [Option.getD_some, if_pos e]
            refine spec_l1_run _ _ _ hi4 _ _ ?_
            simp only [In_f, Option.bind_some, show decide ((0 : Int) ≤ n ∧ n ≤ most i) = true from decide_eq_true ⟨hr.1, hm⟩, if_true, hf.1, hw]
            refine ev_1 fun k => ?_
            simp only [spec_FourGet.l0, List.length_map]
            rw [if_neg (by omega)]
          · simp only [ok, if_pos e]
            refine i3 _ _ _ _ ?_
            simp only [if_true, show decide (n > most i) = false from decide_eq_false (by omega)]
            refine Ev.step (fun k => by rw [impl_FourGet.j3]) ?_
            simp only [Bool.false_eq_true, if_false, List.length_map, hwl, if_neg (show ¬ (i : Int) < ((L.length - 1 : Nat) : Int) by omega), hf.2, hw]
            refine ev_1 fun k => ?_
            simp only [impl_FourGet.l0]
            rw [if_neg (by omega)]
        · rw [if_neg hm]
          refine ⟨s0 _ ?_, i0 _ ?_⟩
          · simp only [Option.getD_some, if_pos e]
            refine spec_l1_run _ _ _ hi4 _ _ ?_
            simp only [In_f, Option.bind_some, show decide ((0 : Int) ≤ n ∧ n ≤ most i) = false from decide_eq_false (by omega), Bool.false_eq_true, if_false]
            exact Ev.now _
          · simp only [ok, if_pos e]
            refine i3 _ _ _ _ ?_
            simp only [if_true, show decide (n > most i) = true from decide_eq_true (by omega)]
            exact bad n
      · have hde : L.drop (i + 1) ≠ [] := by intro q; have := congrArg List.length q; simp at this; omega
        rw [hdr, fourR_more _ _ _ _ _ hde hn]
        by_cases hm : n ≤ 255
        · have hf := four_next i (by omega) o n a ho ho' ha hr.1 hm
          rw [if_pos hm]
          obtain ⟨r1, r2⟩ := ih (i + 1) (o * 256 + n) ((o * 256 + n) * 256 ^ (4 - (i + 1))) (by omega) (by omega) (by omega) hf.2.2.2 rfl
          refine ⟨s0 _ ?_, i0 _ ?_⟩
          · simp only [Option.getD_some, if_neg e, show decide ((0 : Int) ≤ n ∧ n ≤ 255) = true from decide_eq_true ⟨hr.1, hm⟩, if_true, hf.1]
            exact r1
          · simp only [ok, if_neg e]
            refine i3 _ _ _ _ ?_
            simp only [if_true, show decide (n > 255) = false from decide_eq_false (by omega)]
            refine Ev.step (fun k => by rw [impl_FourGet.j3]) ?_
            simp only [Bool.false_eq_true, if_false, List.length_map, hwl, if_pos (show (i : Int) < ((L.length - 1 : Nat) : Int) by omega), if_pos hf.2.1, hf.2.2.1, hw]
            exact r2
        · rw [if_neg hm]
          refine ⟨s0 _ ?_, i0 _ ?_⟩
          · simp only [Option.getD_some, if_neg e, show decide ((0 : Int) ≤ n ∧ n ≤ 255) = false from decide_eq_false (by omega), Bool.false_eq_true, if_false]
            exact Ev.now _
          · simp only [ok, if_neg e]
            refine i3 _ _ _ _ ?_
            simp only [if_true, show decide (n > 255) = true from decide_eq_true (by omega)]
            exact bad n
/-- What FourGet answers. -/
def fourGet (l : Bs) : Int × Bool := if (parts l).length ≤ 4 ∧ l.length ≤ 200 then fourR 0 0 (parts l) else (0, false)
theorem four_val (l : Bs) (hl : l.length ≤ 1048576) : Ev (fun k => spec_FourGet.f k (B l)) (fourGet l) ∧ Ev (fun k => impl_FourGet.f k (B l)) (fourGet l) := by
  unfold fourGet
  have hp := parts_len l
  have hx : ∀ x ∈ parts l, x.length ≤ 140737488355328 := fun x hx => by have := parts_mem_len l x hx; omega
  by_cases h : (parts l).length ≤ 4 ∧ l.length ≤ 200
  · rw [if_pos h]
    obtain ⟨r1, r2⟩ := four_run (parts l) h.1 hx (parts l).length 0 0 0 (by omega) (List.length_pos_iff.2 (parts_ne l)) (by omega) (by simp) (by simp)
    refine ⟨?_, ?_⟩
    · unfold spec_FourGet.f
      refine ev_bind (spec_Parts l (by omega)) ?_
      simp only [List.length_map, B_size, if_neg (show ¬ ((parts l).length : Int) > 4 by omega), show decide ((l.length : Int) > 200) = false from decide_eq_false (by omega)]
      refine Ev.step (fun k => by rw [spec_FourGet.j0]) ?_
      simp only [Bool.false_eq_true, if_false]
      exact r1
    · unfold impl_FourGet.f
      simp only [impl_Labels l (by omega), Option.bind_some, List.length_map, B_size, if_neg (show ¬ (l.length : Int) > 200 by omega), show decide (((parts l).length : Int) > 4) = false from decide_eq_false (by omega)]
      refine Ev.step (fun k => by rw [impl_FourGet.j0]) ?_
      simp only [Bool.false_eq_true, if_false, List.length_map]
      exact r2
  · rw [if_neg h]
    refine ⟨?_, ?_⟩
    · unfold spec_FourGet.f
      refine ev_bind (spec_Parts l (by omega)) ?_
      by_cases h1 : ((parts l).length : Int) > 4
      · simp only [List.length_map, B_size, if_pos h1]
        refine ev_1 fun k => ?_
        simp only [spec_FourGet.j0, if_true]
      · simp only [List.length_map, B_size, if_neg h1, show decide ((l.length : Int) > 200) = true from decide_eq_true (by omega)]
        refine ev_1 fun k => ?_
        simp only [spec_FourGet.j0, if_true]
    · unfold impl_FourGet.f
      simp only [impl_Labels l (by omega), Option.bind_some, List.length_map, B_size]
      by_cases h1 : (l.length : Int) > 200
      · simp only [if_pos h1]
        refine ev_1 fun k => ?_
        simp only [impl_FourGet.j0, if_true]
      · simp only [if_neg h1, show decide (((parts l).length : Int) > 4) = true from decide_eq_true (by omega)]
        refine ev_1 fun k => ?_
        simp only [impl_FourGet.j0, if_true]
/-- A letter, a figure or one of two signs. -/
def hc (c : UInt8) : Bool := decide ((97 ≤ c.toNat ∧ c.toNat ≤ 122) ∨ (48 ≤ c.toNat ∧ c.toNat ≤ 57) ∨ c.toNat = 45 ∨ c.toNat = 95)
theorem hc_iff (c : UInt8) : hc c = true ↔ ((97 ≤ c.toNat ∧ c.toNat ≤ 122) ∨ (48 ≤ c.toNat ∧ c.toNat ≤ 57) ∨ c.toNat = 45 ∨ c.toNat = 95) := by unfold hc; simp
def dg (c : UInt8) : Bool := decide (48 ≤ c.toNat ∧ c.toNat ≤ 57)
theorem dg_iff (c : UInt8) : dg c = true ↔ (48 ≤ c.toNat ∧ c.toNat ≤ 57) := by unfold dg; simp
theorem isDigit_f (c : UInt8) : impl_isDigit.f ((c.toNat : Nat) : Int) = some (dg c) := by
  unfold impl_isDigit.f
  by_cases h : ((c.toNat : Nat) : Int) ≥ 48
  · rw [if_pos h]; exact congrArg some (decide_eq_decide.2 (by omega))
  · rw [if_neg h]; exact congrArg some (decide_eq_false (by omega)).symm
theorem in_f (n a b : Int) : impl_in.f n a b = some (decide (a ≤ n ∧ n ≤ b)) := by
  unfold impl_in.f
  by_cases h : n ≥ a
  · rw [if_pos h]; congr 1; simp; omega
  · rw [if_neg h]; congr 1; symm; simp; omega
def goodFrom (n : Nat) : Nat → List Bs → Bool
  | _, [] => true
  | i, p :: r => !(p.isEmpty && (decide (i + 1 < n) || decide (i = 0))) && p.all hc && goodFrom n (i + 1) r
theorem ev_eq {α : Type} {g f : Nat → Option α} {r : α} (h : Ev f r) (e : ∀ k, g k = f k) : Ev g r := by
  obtain ⟨K, hK⟩ := h
  exact ⟨K, fun k hk => by rw [e k]; exact hK k hk⟩
set_option maxHeartbeats 1000000 in
theorem name_l1 (s : ByteArray) (P : List Bs) (i : Nat) (hi : i < P.length) (hP : P.length ≤ 140737488355328) (hp : P[i].length ≤ 140737488355328) (r : Bool) (next : Ev (fun k => spec_l2Name.l0 k s (P.map B) ((i + 1 : Nat) : Int)) r) (d : Nat) : ∀ j : Nat, j + d = P[i].length → Ev (fun k => spec_l2Name.l1 k s (P.map B) i j) ((P[i].drop j).all hc && r) := by
  have hi0 : (0 : Int) ≤ (i : Int) := by omega
  have hi1 : (i : Int) < (P.length : Int) := by omega
  have hw : wrap64 ((i : Int) + 1) = ((i + 1 : Nat) : Int) := by rw [w64 (by omega) (by omega)]; rfl
  induction d with
  | zero =>
    intro j hj
    refine Ev.step (fun k => by rw [spec_l2Name.l1]) ?_
    simp only [List.length_map, if_pos hi1, if_pos hi0, rd_parts P i hi, B_size, if_neg (show ¬ (j : Int) < (P[i].length : Int) by omega), hw]
    rw [List.drop_eq_nil_of_le (by omega)]
    simpa using next
  | succ d ih =>
    intro j hj
    have hlt : j < P[i].length := by omega
    have hj0 : (0 : Int) ≤ (j : Int) := by omega
    have hj1 : (j : Int) < (P[i].length : Int) := by omega
    have hwj : wrap64 ((j : Int) + 1) = ((j + 1 : Nat) : Int) := by rw [w64 (by omega) (by omega)]; rfl
    have e := ih (j + 1) (by omega)
    refine Ev.step (fun k => by rw [spec_l2Name.l1]) ?_
    simp only [List.length_map, if_pos hi1, if_pos hi0, rd_parts P i hi, B_size, if_pos hj1, if_pos hj0, hwj, bt_B, Int.toNat_natCast, get_eq hlt]
    rw [List.drop_eq_getElem_cons hlt, List.all_cons]
    by_cases h : hc P[i][j] = true
    · rw [h, Bool.true_and]
      rw [hc_iff] at h
      refine ev_eq e fun k => ?_
      revert h; generalize P[i][j].toNat = n; intro h
      repeat' (first | rfl | omega | split)
    · rw [Bool.not_eq_true _ |>.mp h, Bool.false_and, Bool.false_and]
      rw [hc_iff] at h
      refine ev_of fun k => ?_
      revert h; generalize P[i][j].toNat = n; intro h
      repeat' (first | rfl | omega | split)
theorem name_l0 (s : ByteArray) (P : List Bs) (hP : P.length ≤ 140737488355328) (hp : ∀ x ∈ P, x.length ≤ 140737488355328) (d : Nat) : ∀ i : Nat, i + d = P.length → Ev (fun k => spec_l2Name.l0 k s (P.map B) i) (goodFrom P.length i (P.drop i) && decide (1 ≤ s.size ∧ s.size ≤ 60)) := by
  induction d with
  | zero =>
    intro i hi
    refine ev_1 fun k => ?_
    simp only [spec_l2Name.l0, List.length_map]
    rw [if_neg (by omega), In_f, Option.bind_some, List.drop_eq_nil_of_le (by omega)]
    simp only [goodFrom, Bool.true_and]
    congr 1
    simp only [decide_eq_decide]
    omega
  | succ d ih =>
    intro i hi
    have hlt : i < P.length := by omega
    have hi0 : (0 : Int) ≤ (i : Int) := by omega
    have hi1 : (i : Int) < (P.length : Int) := by omega
    have hwl : wrap64 ((P.length : Int) - 1) = ((P.length - 1 : Nat) : Int) := by rw [w64 (by omega) (by omega)]; omega
    have e := ih (i + 1) (by omega)
    have e1 := name_l1 s P i hlt hP (hp _ (List.getElem_mem hlt)) _ e P[i].length 0 (by omega)
    refine Ev.step (fun k => by rw [spec_l2Name.l0]) ?_
    simp only [List.length_map, if_pos hi1, if_pos hi0, rd_parts P i hlt, B_toList, hwl]
    rw [List.drop_eq_getElem_cons hlt]
    simp only [goodFrom]
    have j1 : ∀ b : Bool, b = (P[i].isEmpty && (decide (i + 1 < P.length) || decide (i = 0))) → Ev (fun k => spec_l2Name.j1 k s (P.map B) i b) ((!(P[i].isEmpty && (decide (i + 1 < P.length) || decide (i = 0))) && P[i].all hc && goodFrom P.length (i + 1) (P.drop (i + 1))) && decide (1 ≤ s.size ∧ s.size ≤ 60)) := by
      intro b hb
      refine Ev.step (fun k => by rw [spec_l2Name.j1]) ?_
      rw [← hb]
      cases b with
      | true => simp only [if_true, Bool.not_true, Bool.false_and]; exact Ev.now _
      | false =>
        simp only [Bool.false_eq_true, if_false, Bool.not_false, Bool.true_and, Bool.and_assoc]
        simpa using e1
    by_cases h1 : P[i] = []
    · simp only [if_pos h1]
      by_cases h2 : (i : Int) < ((P.length - 1 : Nat) : Int)
      · simp only [if_pos h2]; exact j1 _ (by rw [h1]; simp; omega)
      · simp only [if_neg h2]
        refine j1 _ ?_
        rw [h1]
        apply bool_eq
        simp only [beq_iff_eq, List.isEmpty_nil, Bool.true_and, Bool.or_eq_true, decide_eq_true_eq]
        omega
    · simp only [if_neg h1]
      exact j1 _ (by simp [h1])
theorem emp_beq (p : Bs) : (([] : Bs) == p) = p.isEmpty := by cases p <;> rfl
theorem good_rest (n : Nat) : ∀ (r : List Bs) (i : Nat), 0 < i → i + r.length = n → goodFrom n i r = (!r.dropLast.contains [] && r.all (·.all hc))
  | [], i, h0, h => by simp [goodFrom]
  | [p], i, h0, h => by
    simp only [List.length_cons, List.length_nil] at h
    simp only [goodFrom, decide_eq_false (show ¬ i + 1 < n by omega), decide_eq_false (show ¬ i = 0 by omega)]
    simp
  | p :: q :: r, i, h0, h => by
    simp only [List.length_cons] at h
    have ih := good_rest n (q :: r) (i + 1) (by omega) (by simp only [List.length_cons]; omega)
    rw [goodFrom, ih, decide_eq_true (show i + 1 < n by omega), List.dropLast_cons_of_ne_nil (show q :: r ≠ [] by simp), List.contains_cons, emp_beq, List.all_cons (a := p)]
    generalize p.isEmpty = a, p.all hc = b, (q :: r).dropLast.contains [] = c, (q :: r).all (·.all hc) = e
    cases a <;> cases b <;> cases c <;> cases e <;> rfl
theorem good_parts (l : Bs) : goodFrom (splitC 46 l).length 0 (splitC 46 l) = (!(parts l).contains [] && (splitC 46 l).all (·.all hc)) := by
  unfold parts
  have hne := splitC_ne 46 l
  revert hne
  generalize splitC 46 l = P
  intro hne
  match P, hne with
  | [p], _ =>
    simp [goodFrom]
    cases p <;> simp
  | p :: q :: r, _ =>
    have ih := good_rest (p :: q :: r).length (q :: r) 1 (by omega) (by simp only [List.length_cons]; omega)
    rw [goodFrom, ih, decide_eq_true (show 0 + 1 < (p :: q :: r).length by simp only [List.length_cons]; omega)]
    have hl : (p :: q :: r).getLast? = (q :: r).getLast? := List.getLast?_cons_cons
    rw [hl]
    by_cases hz : (q :: r).getLast? = some []
    · rw [if_pos ⟨by simp, hz⟩, List.dropLast_cons_of_ne_nil (show q :: r ≠ [] by simp), List.contains_cons, emp_beq, List.all_cons (a := p)]
      generalize p.isEmpty = a, p.all hc = b, (q :: r).dropLast.contains [] = c, (q :: r).all (·.all hc) = e
      cases a <;> cases b <;> cases c <;> cases e <;> rfl
    · rw [if_neg (fun h => hz h.2)]
      have hd : (q :: r).contains [] = (q :: r).dropLast.contains [] := by
        obtain ⟨m, z, hmz⟩ : ∃ m z, q :: r = m ++ [z] := ⟨_, _, (List.dropLast_concat_getLast (show q :: r ≠ [] by simp)).symm⟩
        rw [hmz] at hz ⊢
        have hz' : ¬ z = [] := fun e => hz (by simp [e])
        apply bool_eq
        simp [List.dropLast_concat, Ne.symm hz']
      rw [show (p :: q :: r).contains [] = (([] : Bs) == p || (q :: r).contains []) from List.contains_cons, emp_beq, hd, List.all_cons (a := p)]
      generalize p.isEmpty = a, p.all hc = b, (q :: r).dropLast.contains [] = c, (q :: r).all (·.all hc) = e
      cases a <;> cases b <;> cases c <;> cases e <;> rfl
theorem splitC_all (Q : UInt8 → Bool) (c : UInt8) : ∀ l : Bs, ((splitC c l).all (·.all Q)) = l.all (fun x => Q x || decide (x = c))
  | [] => by simp [splitC]
  | y :: t => by
    have ih := splitC_all Q c t
    unfold splitC
    by_cases e : y = c
    · rw [if_pos e]; simp [ih, e]
    · rw [if_neg e]
      have hne := splitC_ne c t
      revert ih hne
      cases splitC c t with
      | nil => intro _ h; exact absurd rfl h
      | cons a r =>
        intro ih _
        simp only [List.all_cons] at ih ⊢
        rw [← ih]
        simp [e, Bool.and_assoc]
def isHost (l : Bs) : Bool := l.all (fun x => hc x || decide (x = 46)) && decide (1 ≤ l.length ∧ l.length ≤ 60) && !(parts l).contains []
theorem spec_Name (l : Bs) (hl : l.length ≤ 8796093022207) : Ev (fun k => spec_l2Name.f k (B l)) (isHost l) := by
  unfold spec_l2Name.f
  refine ev_bind (spec_Cut 46 46 rfl (by decide) l hl) ?_
  have h1 := splitC_len_le 46 l
  have := name_l0 (B l) (splitC 46 l) (by omega) (fun x hx => by have := splitC_mem_len 46 l x hx; omega) (splitC 46 l).length 0 (by omega)
  rw [List.drop_zero, good_parts, splitC_all, B_size] at this
  have e : isHost l = (!(parts l).contains [] && l.all (fun x => hc x || decide (x = 46)) && decide (1 ≤ l.length ∧ l.length ≤ 60)) := by
    unfold isHost
    cases (parts l).contains [] <;> cases l.all (fun x => hc x || decide (x = 46)) <;> cases decide (1 ≤ l.length ∧ l.length ≤ 60) <;> rfl
  rw [e]
  exact this
theorem impl_Index (P : List Bs) (x : Bs) (hP : P.length ≤ 140737488355328) (d : Nat) : ∀ i : Nat, i + d = P.length → ∃ n : Int, Ev (fun k => slices_Index_string_string.l0 k (P.map B) (B x) (P.length : Int) i) n ∧ (decide (n ≥ 0)) = (P.drop i).contains x := by
  induction d with
  | zero =>
    intro i hi
    refine ⟨-1, ev_1 fun k => ?_, ?_⟩
    · simp only [slices_Index_string_string.l0]
      rw [if_neg (by omega)]
    · rw [List.drop_eq_nil_of_le (by omega)]; rfl
  | succ d ih =>
    intro i hi
    have hlt : i < P.length := by omega
    have hi0 : (0 : Int) ≤ (i : Int) := by omega
    have hi1 : (i : Int) < (P.length : Int) := by omega
    have hw : wrap64 ((i : Int) + 1) = ((i + 1 : Nat) : Int) := by rw [w64 (by omega) (by omega)]; rfl
    by_cases e : x = P[i]
    · refine ⟨i, ?_, ?_⟩
      · refine Ev.step (fun k => by rw [slices_Index_string_string.l0]) ?_
        simp only [List.length_map, if_pos hi1, if_pos hi0, rd_parts P i hlt, B_toList, if_pos e]
        exact Ev.now _
      · rw [List.drop_eq_getElem_cons hlt, ← e]; simp
    · obtain ⟨n, h1, h2⟩ := ih (i + 1) (by omega)
      refine ⟨n, ?_, ?_⟩
      · refine Ev.step (fun k => by rw [slices_Index_string_string.l0]) ?_
        simp only [List.length_map, if_pos hi1, if_pos hi0, rd_parts P i hlt, B_toList, if_neg e, hw]
        exact h1
      · rw [h2, List.drop_eq_getElem_cons hlt, List.contains_cons, beq_eq_false_iff_ne.2 e, Bool.false_or]
theorem impl_Contains (P : List Bs) (x : Bs) (hP : P.length ≤ 140737488355328) : Ev (fun k => slices_Contains_string_string.f k (P.map B) (B x)) (P.contains x) := by
  obtain ⟨n, h1, h2⟩ := impl_Index P x hP P.length 0 (by omega)
  unfold slices_Contains_string_string.f slices_Index_string_string.f
  rw [List.length_map]
  refine ev_bind h1 ?_
  rw [h2, List.drop_zero]
  exact Ev.now _
set_option maxHeartbeats 1000000 in
theorem impl_Host (l : Bs) (hl : l.length < 4294967281) : Ev (fun k => impl_isHostName.f k (B l)) (isHost l) := by
  unfold impl_isHostName.f
  have go : ∀ (d i : Nat), i + d = l.length → Ev (fun k => impl_isHostName.l0 k (B l) (l.length : Int) i) ((l.drop i).all (fun x => hc x || decide (x = 46)) && (decide (1 ≤ l.length ∧ l.length ≤ 60) && !(parts l).contains [])) := by
    intro d
    induction d with
    | zero =>
      intro i hi
      refine Ev.step (fun k => by rw [impl_isHostName.l0]) ?_
      simp only [if_neg (show ¬ (i : Int) < (l.length : Int) by omega), in_f, Option.bind_some, B_size, impl_Labels l hl]
      rw [List.drop_eq_nil_of_le (by omega)]
      simp only [List.all_nil, Bool.true_and, decide_eq_true_eq]
      by_cases h : 1 ≤ l.length ∧ l.length ≤ 60
      · simp only [if_pos (show (1 : Int) ≤ (l.length : Int) ∧ (l.length : Int) ≤ 60 by omega), decide_eq_true h, Bool.true_and]
        refine ev_bind (impl_Contains (parts l) [] (by have := parts_len l; omega)) ?_
        exact Ev.now _
      · simp only [if_neg (show ¬ ((1 : Int) ≤ (l.length : Int) ∧ (l.length : Int) ≤ 60) by omega), decide_eq_false h, Bool.false_and]
        exact Ev.now _
    | succ d ih =>
      intro i hi
      have hlt : i < l.length := by omega
      have hi0 : (0 : Int) ≤ (i : Int) := by omega
      have hi1 : (i : Int) < (l.length : Int) := by omega
      have hw : wrap64 ((i : Int) + 1) = ((i + 1 : Nat) : Int) := by rw [w64 (by omega) (by omega)]; rfl
      have e := ih (i + 1) (by omega)
      refine Ev.step (fun k => by rw [impl_isHostName.l0]) ?_
      simp only [B_size, if_pos hi1, if_pos hi0, hw, bt_B, Int.toNat_natCast, get_eq hlt, isDigit_f, Option.bind_some, dg_iff]
      rw [List.drop_eq_getElem_cons hlt, List.all_cons]
      have hq : (hc l[i] || decide (l[i] = 46)) = true ↔ ((97 ≤ l[i].toNat ∧ l[i].toNat ≤ 122) ∨ (48 ≤ l[i].toNat ∧ l[i].toNat ≤ 57) ∨ l[i].toNat = 45 ∨ l[i].toNat = 95 ∨ l[i].toNat = 46) := by
        rw [Bool.or_eq_true, hc_iff, decide_eq_true_eq]
        have : l[i] = 46 ↔ l[i].toNat = 46 := by rw [← UInt8.toNat_inj]; rfl
        rw [this]; omega
      by_cases h : (hc l[i] || decide (l[i] = 46)) = true
      · rw [h, Bool.true_and]
        rw [hq] at h
        refine ev_eq e fun k => ?_
        clear hq
        revert h; generalize l[i].toNat = n; intro h
        repeat' (first | rfl | omega | split)
      · rw [Bool.not_eq_true _ |>.mp h, Bool.false_and, Bool.false_and]
        rw [hq] at h
        refine ev_of fun k => ?_
        clear hq
        revert h; generalize l[i].toNat = n; intro h
        repeat' (first | rfl | omega | split)
  have := go l.length 0 (by omega)
  rw [List.drop_zero, ← Bool.and_assoc] at this
  rw [B_size]
  exact this

/-- Whether the last part is a number. -/
def numEnd (q : Bs) : Bool := if q = [] then false else if q.take 2 = [48, 120] ∨ q.take 2 = [48, 88] then (partNum q).isSome else q.all dg
def lastOf (l : Bs) : Bs := (parts l).getLastD []
theorem last_rd (l : Bs) (hl : l.length ≤ 8796093022207) : wrap64 (((parts l).length : Int) - 1) = (((parts l).length - 1 : Nat) : Int) ∧ rdOf ByteArray.empty ((parts l).map B) (((parts l).length - 1 : Nat) : Int) = B (lastOf l) ∧ 0 < (parts l).length ∧ (lastOf l).length ≤ l.length := by
  have h1 := parts_len l
  have h2 := List.length_pos_iff.2 (parts_ne l)
  have e : lastOf l = (parts l)[(parts l).length - 1]'(by omega) := by
    unfold lastOf
    rw [List.getLastD_eq_getLast?, List.getLast?_eq_getElem?, List.getElem?_eq_getElem (by omega)]; rfl
  refine ⟨by rw [w64 (by omega) (by omega)]; omega, ?_, h2, ?_⟩
  · rw [rd_parts _ _ (by omega), e]
  · rw [e]; exact parts_mem_len l _ (List.getElem_mem _)
theorem take_two (x y : UInt8) (q : Bs) : q.take 2 = [x, y] ↔ ∃ t, q = x :: y :: t := by
  match q with
  | [] => simp
  | [a] => simp
  | a :: b :: t => simp
theorem numEnd_spec (q : Bs) (h : q ≠ []) : numEnd q = (q.all dg || (decide (q.take 2 = [48, 120] ∨ q.take 2 = [48, 88]) && (partNum q).isSome)) := by
  unfold numEnd
  rw [if_neg h]
  by_cases hp : q.take 2 = [48, 120] ∨ q.take 2 = [48, 88]
  · rw [if_pos hp, decide_eq_true hp, Bool.true_and]
    have : q.all dg = false := by
      rcases hp with hp | hp
      · obtain ⟨t, rfl⟩ := (take_two _ _ _).1 hp; simp [dg]
      · obtain ⟨t, rfl⟩ := (take_two _ _ _).1 hp; simp [dg]
    rw [this, Bool.false_or]
  · rw [if_neg hp, decide_eq_false hp, Bool.false_and, Bool.or_false]
theorem getD_ge (q : Bs) : decide ((partNum q).getD (-1) ≥ 0) = (partNum q).isSome := by
  cases h : partNum q with
  | none => rfl
  | some n => have := partNum_rng q n h; simp; omega
theorem spec_Ends_l0 (q : Bs) (hq : q ≠ []) (hl : q.length ≤ 140737488355328) (d : Nat) : ∀ (i : Nat) (b : Bool), i + d = q.length → Ev (fun k => spec_l2Ends.l0 k (B q) b i) ((b && (q.drop i).all dg) || (decide (q.take 2 = [48, 120] ∨ q.take 2 = [48, 88]) && (partNum q).isSome)) := by
  induction d with
  | zero =>
    intro i b hi
    refine Ev.step (fun k => by rw [spec_l2Ends.l0]) ?_
    simp only [B_size, if_neg (show ¬ (i : Int) < (q.length : Int) by omega)]
    rw [List.drop_eq_nil_of_le (by omega), List.all_nil, Bool.and_true]
    cases b with
    | true => simp only [if_true, Bool.true_or]; exact Ev.now _
    | false =>
      simp only [Bool.false_eq_true, if_false, Bool.false_or]
      match q, hq, hl with
      | [a], _, _ =>
        simp only [List.length_cons, List.length_nil, if_neg (show ¬ (((0 + 1 : Nat) : Nat) : Int) ≥ 2 by omega)]
        have : (decide ([a].take 2 = [48, 120] ∨ [a].take 2 = [48, 88]) && (partNum [a]).isSome) = false := by simp
        rw [this]; exact Ev.now _
      | a :: c :: t, _, hl =>
        have n2 : (((a :: c :: t).length : Nat) : Int) ≥ 2 := by simp only [List.length_cons]; omega
        have n0 : 0 < (((a :: c :: t).length : Nat) : Int) := by omega
        have n1 : 1 < (((a :: c :: t).length : Nat) : Int) := by omega
        simp only [if_pos n2, if_pos n0, if_pos n1, bt_0, bt_1]
        have ht : ((a :: c :: t).take 2 = [48, 120] ∨ (a :: c :: t).take 2 = [48, 88]) ↔ (a = 48 ∧ (c = 120 ∨ c = 88)) := by
          simp only [List.take, List.cons.injEq, and_true]
          constructor
          · rintro (⟨x, y⟩ | ⟨x, y⟩)
            · exact ⟨x, Or.inl y⟩
            · exact ⟨x, Or.inr y⟩
          · rintro ⟨x, y | y⟩
            · exact Or.inl ⟨x, y⟩
            · exact Or.inr ⟨x, y⟩
        have sp := spec_Part (a :: c :: t) hl
        by_cases e : a = 48
        · simp only [if_pos (show ((a.toNat : Nat) : Int) = 48 from (byte_eq a 48 (by decide)).2 e)]
          by_cases e2 : c = 120
          · simp only [if_pos (show ((c.toNat : Nat) : Int) = 120 from (byte_eq c 120 (by decide)).2 e2)]
            rw [decide_eq_true (ht.2 ⟨e, Or.inl e2⟩), Bool.true_and]
            refine ev_bind sp ?_
            rw [getD_ge]; exact Ev.now _
          · simp only [if_neg (show ¬ ((c.toNat : Nat) : Int) = 120 from fun z => e2 ((byte_eq c 120 (by decide)).1 z))]
            by_cases e3 : c = 88
            · simp only [if_pos (show ((c.toNat : Nat) : Int) = 88 from (byte_eq c 88 (by decide)).2 e3)]
              rw [decide_eq_true (ht.2 ⟨e, Or.inr e3⟩), Bool.true_and]
              refine ev_bind sp ?_
              rw [getD_ge]; exact Ev.now _
            · simp only [if_neg (show ¬ ((c.toNat : Nat) : Int) = 88 from fun z => e3 ((byte_eq c 88 (by decide)).1 z))]
              rw [decide_eq_false (fun z => (ht.1 z).2.elim e2 e3), Bool.false_and]; exact Ev.now _
        · simp only [if_neg (show ¬ ((a.toNat : Nat) : Int) = 48 from fun z => e ((byte_eq a 48 (by decide)).1 z))]
          rw [decide_eq_false (fun z => e (ht.1 z).1), Bool.false_and]; exact Ev.now _
  | succ d ih =>
    intro i b hi
    have hlt : i < q.length := by omega
    have hi0 : (0 : Int) ≤ (i : Int) := by omega
    have hi1 : (i : Int) < (q.length : Int) := by omega
    have hw : wrap64 ((i : Int) + 1) = ((i + 1 : Nat) : Int) := by rw [w64 (by omega) (by omega)]; rfl
    refine Ev.step (fun k => by rw [spec_l2Ends.l0]) ?_
    simp only [B_size, if_pos hi1, if_pos hi0, hw, bt_B, Int.toNat_natCast, get_eq hlt]
    rw [List.drop_eq_getElem_cons hlt, List.all_cons]
    cases b with
    | false =>
      simp only [Bool.false_eq_true, if_false, Bool.false_and]
      have := ih (i + 1) false (by omega)
      simpa using this
    | true =>
      simp only [if_true, Bool.true_and]
      have := ih (i + 1) (dg q[i]) (by omega)
      by_cases h : ((q[i].toNat : Nat) : Int) ≥ 48
      · simp only [if_pos h]
        rw [show decide (((q[i].toNat : Nat) : Int) ≤ 57) = dg q[i] by unfold dg; congr 1; simp; omega]
        exact this
      · simp only [if_neg h]
        rw [show dg q[i] = false by unfold dg; simp; omega] at this ⊢
        exact this
theorem spec_EndsNum (l : Bs) (hl : l.length ≤ 8796093022207) : Ev (fun k => spec_l2Ends.f k (B l)) (numEnd (lastOf l)) := by
  unfold spec_l2Ends.f
  obtain ⟨h1, h2, h3, h4⟩ := last_rd l hl
  refine ev_bind (spec_Parts l hl) ?_
  simp only [List.length_map, h1, h2, if_pos (show (0 : Int) ≤ (((parts l).length - 1 : Nat) : Int) by omega), if_pos (show (((parts l).length - 1 : Nat) : Int) < ((parts l).length : Int) by omega), B_toList]
  by_cases h : lastOf l = []
  · simp only [if_pos h]
    rw [show numEnd (lastOf l) = false by unfold numEnd; rw [if_pos h]]
    exact Ev.now _
  · simp only [if_neg h]
    rw [numEnd_spec _ h]
    have := spec_Ends_l0 (lastOf l) h (by omega) (lastOf l).length 0 true (by omega)
    simpa using this
theorem impl_EndsNum (l : Bs) (hl : l.length < 4294967281) : Ev (fun k => impl_endsInNumber.f k (B l)) (numEnd (lastOf l)) := by
  unfold impl_endsInNumber.f
  obtain ⟨h1, h2, h3, h4⟩ := last_rd l (by omega)
  simp only [impl_Labels l hl, Option.bind_some, List.length_map, h1, h2, if_pos (show (0 : Int) ≤ (((parts l).length - 1 : Nat) : Int) by omega), if_pos (show (((parts l).length - 1 : Nat) : Int) < ((parts l).length : Int) by omega), B_toList]
  revert h4
  generalize lastOf l = q
  intro h4
  by_cases h : q = []
  · simp only [if_pos h]
    rw [show numEnd q = false by unfold numEnd; rw [if_pos h]]
    exact Ev.now _
  simp only [if_neg h]
  have p1 : strings_HasPrefix.f (B q) (⟨#[48, 120]⟩ : ByteArray) = some (q.take 2 == [48, 120]) := hasPrefix2 48 120 q
  have p2 : strings_HasPrefix.f (B q) (⟨#[48, 88]⟩ : ByteArray) = some (q.take 2 == [48, 88]) := hasPrefix2 48 88 q
  simp only [p1, p2, Option.bind_some, beq_iff_eq]
  have j0 : ∀ b : Bool, (b = true ↔ (q.take 2 = [48, 120] ∨ q.take 2 = [48, 88])) → Ev (fun k => impl_endsInNumber.j0 k (B q) b) (numEnd q) := by
    intro b hb
    refine Ev.step (fun k => by rw [impl_endsInNumber.j0]) ?_
    unfold numEnd
    rw [if_neg h]
    by_cases hp : q.take 2 = [48, 120] ∨ q.take 2 = [48, 88]
    · simp only [if_pos (hb.2 hp), if_pos hp]
      refine ev_bind (impl_Number q (by omega)) ?_
      rw [show (ok (partNum q)).2 = (partNum q).isSome by unfold ok; cases partNum q <;> rfl]
      exact Ev.now _
    · simp only [if_neg (fun z => hp (hb.1 z)), if_neg hp]
      have go : ∀ (d i : Nat), i + d = q.length → Ev (fun k => impl_endsInNumber.l0 k (B q) (q.length : Int) i) ((q.drop i).all dg) := by
        intro d
        induction d with
        | zero =>
          intro i hi
          refine ev_1 fun k => ?_
          simp only [impl_endsInNumber.l0]
          rw [if_neg (by omega), List.drop_eq_nil_of_le (by omega)]; rfl
        | succ d ih =>
          intro i hi
          have hlt : i < q.length := by omega
          have hi0 : (0 : Int) ≤ (i : Int) := by omega
          have hi1 : (i : Int) < (q.length : Int) := by omega
          have hw : wrap64 ((i : Int) + 1) = ((i + 1 : Nat) : Int) := by rw [w64 (by omega) (by omega)]; rfl
          have e := ih (i + 1) (by omega)
          refine Ev.step (fun k => by rw [impl_endsInNumber.l0]) ?_
          simp only [B_size, if_pos hi1, if_pos hi0, hw, bt_B, Int.toNat_natCast, get_eq hlt, isDigit_f, Option.bind_some]
          rw [List.drop_eq_getElem_cons hlt, List.all_cons]
          cases hd : dg q[i] with
          | true => simp only [if_true, Bool.true_and]; exact e
          | false => simp only [Bool.false_eq_true, if_false, Bool.false_and]; exact Ev.now _
      have := go q.length 0 (by omega)
      rw [List.drop_zero] at this
      rw [B_size]; exact this
  by_cases c1 : q.take 2 = [48, 120]
  · simp only [if_pos c1]; exact j0 true (by simp [c1])
  · simp only [if_neg c1]
    refine j0 _ ?_
    rw [beq_iff_eq]
    constructor
    · exact Or.inr
    · rintro (z | z)
      · exact absurd z c1
      · exact z

theorem impl_Decode_some (l : Bs) : impl_Decode.f (B l) = some (B (decodeMax l)) := by
  unfold impl_Decode.f; rw [B_data]

theorem spec_Decode_l0 (l : Bs) (hl : l.length ≤ 600) (d : Nat) : ∀ (i : Nat) (D : Bs), i + d = l.length → D.length ≤ i → D ++ pctDec (l.drop i) = pctDec l → Ev (fun k => spec_Decode.l0 k (B l) (ns D) i) (B (pctDec l)) := by
  induction d using Nat.strongRecOn with
  | _ d ih =>
  intro i D hi hD hE
  refine Ev.step (fun k => by rw [spec_Decode.l0]) ?_
  simp only [B_size]
  by_cases hlt : i < l.length
  · simp only [if_pos (show (i : Int) < (l.length : Int) by omega), show decide ((l.length : Int) ≤ 600) = true from decide_eq_true (by omega)]
    refine Ev.step (fun k => by rw [spec_Decode.j1]) ?_
    have hi0 : (0 : Int) ≤ (i : Int) := by omega
    have hi1 : (i : Int) < (l.length : Int) := by omega
    have w1 : wrap64 ((i : Int) + 1) = ((i + 1 : Nat) : Int) := by rw [w64 (by omega) (by omega)]; rfl
    have w2 : wrap64 ((i : Int) + 2) = ((i + 2 : Nat) : Int) := by rw [w64 (by omega) (by omega)]; rfl
    have w3 : wrap64 (((i + 2 : Nat) : Int) + 1) = ((i + 3 : Nat) : Int) := by rw [w64 (by omega) (by omega)]; rfl
    have z1 : (0 : Int) ≤ ((i + 1 : Nat) : Int) := by omega
    have z2 : (0 : Int) ≤ ((i + 2 : Nat) : Int) := by omega
    have hln : (ns D).length < 140737488355328 := by simp; omega
    have hst := decode_at l i hlt
    have no : escAt l i = false → Ev (fun k => spec_Decode.j2 k (B l) (ns D) i false) (B (pctDec l)) := by
      intro he
      refine Ev.step (fun k => by rw [spec_Decode.j2]) ?_
      simp only [Bool.false_eq_true, if_false, B_size, bt_B, Int.toNat_natCast, get_eq hlt, if_pos hi0, if_pos hi1, if_pos hln, w1]
      rw [he, if_neg (by simp)] at hst
      have := ih (d - 1) (by omega) (i + 1) (D ++ [l[i]]) (by omega) (by simp; omega) (by rw [← hE, hst]; simp)
      rw [ns_append, ns_one] at this
      exact this
    simp only [if_true, B_size, bt_B, Int.toNat_natCast, get_eq hlt, if_pos hi0, if_pos hi1, w1, w2]
    by_cases c0 : l[i] = 37
    · simp only [if_pos (show ((l[i].toNat : Nat) : Int) = 37 from (byte_eq _ 37 (by decide)).2 c0)]
      by_cases c1 : i + 2 < l.length
      · have y1 : ((i + 1 : Nat) : Int) < (l.length : Int) := by omega
        have y2 : ((i + 2 : Nat) : Int) < (l.length : Int) := by omega
        simp only [if_pos y1, if_pos y2, if_pos z1, if_pos z2, get_eq c1, get_eq (show i + 1 < l.length by omega)]
        refine ev_bind (spec_hex _) ?_
        by_cases c2 : 0 ≤ hexI l[i + 1]
        · simp only [if_pos (show hexI l[i + 1] ≥ 0 from c2)]
          refine ev_bind (spec_hex _) ?_
          by_cases c3 : 0 ≤ hexI l[i + 2]
          · have he : escAt l i = true := by unfold escAt; rw [get_eq hlt, get_eq (show i + 1 < l.length by omega), get_eq c1]; simp [c0, c1, c2, c3]
            simp only [show decide (hexI l[i + 2] ≥ 0) = true from decide_eq_true c3]
            refine Ev.step (fun k => by rw [spec_Decode.j2]) ?_
            simp only [if_true, B_size, bt_B, w1, w2, w3, Int.toNat_natCast, if_pos y1, if_pos y2, if_pos z1, if_pos z2, get_eq c1, get_eq (show i + 1 < l.length by omega)]
            refine ev_bind (spec_hex _) ?_
            refine ev_bind (spec_hex _) ?_
            have r1 := hexI_rng l[i + 1]
            have r2 := hexI_rng l[i + 2]
            have hv : (wrap64 ((wrap64 (16 * hexI l[i + 1])) + hexI l[i + 2])) % 256 = ((escByte l[i + 1] l[i + 2]).toNat : Int) := by
              rw [w64 (n := 16 * hexI l[i + 1]) (by omega) (by omega), w64 (by omega) (by omega), escByte_val _ _ c2 c3]; omega
            simp only [if_pos hln, hv]
            rw [he, if_pos rfl, get_eq (show i + 1 < l.length by omega), get_eq c1] at hst
            have := ih (d - 3) (by omega) (i + 3) (D ++ [escByte l[i + 1] l[i + 2]]) (by omega) (by simp; omega) (by rw [← hE, hst]; simp)
            rw [ns_append, ns_one] at this
            exact this
          · simp only [show decide (hexI l[i + 2] ≥ 0) = false from decide_eq_false (by omega)]
            exact no (by unfold escAt; rw [get_eq hlt, get_eq (show i + 1 < l.length by omega), get_eq c1]; simp [c3])
        · simp only [if_neg (show ¬ hexI l[i + 1] ≥ 0 by omega)]
          exact no (by unfold escAt; rw [get_eq hlt, get_eq (show i + 1 < l.length by omega), get_eq c1]; simp [c2])
      · simp only [if_neg (show ¬ ((i + 2 : Nat) : Int) < (l.length : Int) by omega)]
        exact no (by unfold escAt; simp [c1])
    · simp only [if_neg (show ¬ ((l[i].toNat : Nat) : Int) = 37 from fun e => c0 ((byte_eq _ 37 (by decide)).1 e))]
      exact no (by unfold escAt; rw [get_eq hlt]; simp [c0])
  · simp only [if_neg (show ¬ (i : Int) < (l.length : Int) by omega)]
    refine ev_1 fun k => ?_
    simp only [spec_Decode.j1, Bool.false_eq_true, if_false, str_ns]
    have : l.drop i = [] := List.drop_eq_nil_of_le (by omega)
    rw [this, decode_nil, List.append_nil] at hE
    rw [hE]
theorem spec_Decode_ev (l : Bs) : Ev (fun k => spec_Decode.f k (B l)) (B (decodeMax l)) := by
  unfold spec_Decode.f decodeMax
  by_cases hl : l.length ≤ 600
  · rw [if_pos hl]
    exact spec_Decode_l0 l hl l.length 0 [] (by omega) (by simp) (by simp)
  · rw [if_neg hl]
    refine Ev.step (fun k => by rw [spec_Decode.l0]) ?_
    simp only [B_size, if_pos (show (0 : Int) < (l.length : Int) by omega), show decide ((l.length : Int) ≤ 600) = false from decide_eq_false (by omega)]
    refine ev_1 fun k => ?_
    simp only [spec_Decode.j1, Bool.false_eq_true, if_false]
    exact congrArg some (str_ns [])

theorem impl_Lower_some (l : Bs) (h : l.length ≤ 140737488355328) : impl_Lower.f (B l) = some (B (lower l)) := by
  unfold impl_Lower.f; rw [if_pos (by simpa using h), B_data]
theorem lower_length (l : Bs) : (lower l).length = l.length := by simp [lower]
theorem spec_Lower_l0 (l : Bs) (hl : l.length ≤ 140737488355327) (d : Nat) : ∀ i : Nat, i + d = l.length → Ev (fun k => spec_Lower.l0 k (B l) (ns ((l.take i).map lowB)) i) (B (lower l)) := by
  induction d with
  | zero =>
    intro i hi
    refine ev_1 fun k => ?_
    simp only [spec_Lower.l0]
    rw [if_neg (by rw [B_size]; omega), str_ns, List.take_of_length_le (by omega)]; rfl
  | succ d ih =>
    intro i hi
    have hlt : i < l.length := by omega
    have e := ih (i + 1) (by omega)
    rw [List.take_succ_eq_append_getElem hlt, List.map_append, List.map_singleton, ns_append, ns_one] at e
    refine Ev.step (fun k => by rw [spec_Lower.l0]) ?_
    have hi0 : (0 : Int) ≤ (i : Int) := by omega
    have hi1 : (i : Int) < (l.length : Int) := by omega
    have hln : (ns ((l.take i).map lowB)).length < 140737488355328 := by simp; omega
    have hw : wrap64 ((i : Int) + 1) = ((i + 1 : Nat) : Int) := by rw [w64 (by omega) (by omega)]; rfl
    simp only [B_size, bt_B, Int.toNat_natCast, get_eq hlt, if_pos hi0, if_pos hi1, if_pos hln, hw]
    have h1 := lt256 l[i]
    by_cases c1 : ((l[i].toNat : Nat) : Int) ≥ 65
    · by_cases c2 : ((l[i].toNat : Nat) : Int) ≤ 90
      · have : ((lowB l[i]).toNat : Int) = (((l[i].toNat : Nat) : Int) + 32) % 256 := by
          unfold lowB; rw [if_pos (by omega)]; simp
        simp only [if_pos c1, if_pos c2, ← this]; exact e
      · have : lowB l[i] = l[i] := by unfold lowB; rw [if_neg (by omega)]
        rw [this] at e
        simp only [if_pos c1, if_neg c2]; exact e
    · have : lowB l[i] = l[i] := by unfold lowB; rw [if_neg (by omega)]
      rw [this] at e
      simp only [if_neg c1]; exact e
theorem spec_Lower_ev (l : Bs) (hl : l.length ≤ 140737488355327) : Ev (fun k => spec_Lower.f k (B l)) (B (lower l)) := by
  unfold spec_Lower.f
  have := spec_Lower_l0 l hl l.length 0 (by omega)
  simpa [ns] using this

theorem isHost_nil : isHost [] = false := by decide
/-- What HostGet answers of a text in small letters. -/
def hostV (t : Bs) : Int × ByteArray × Int × Bool := if t = [] then (0, (⟨#[]⟩ : ByteArray), 0, false) else if numEnd (lastOf t) = true then (if (fourGet t).2 = true then (2, (⟨#[]⟩ : ByteArray), (fourGet t).1, true) else (0, (⟨#[]⟩ : ByteArray), 0, false)) else if isHost t = true then (1, B t, 0, true) else (0, (⟨#[]⟩ : ByteArray), 0, false)
theorem hostT (t : Bs) (ht : t.length ≤ 1048576) :
    Ev (fun k => if t = [] then impl_HostGet.j0 k (B t) false else (impl_endsInNumber.f k (B t)).bind fun t180 => (impl_HostGet.j0 k (B t) t180)) (hostV t) ∧ Ev (fun k => spec_HostGet.j0 k (B t) (t == [])) (hostV t) := by
  unfold hostV
  by_cases hz : t = []
  · subst hz
    rw [if_pos rfl]
    refine ⟨?_, ?_⟩
    · simp only [if_true]
      refine Ev.step (fun k => by rw [impl_HostGet.j0]) ?_
      simp only [Bool.false_eq_true, if_false]
      refine ev_bind (impl_Host [] (by simp)) ?_
      simp only [isHost_nil, Bool.false_eq_true, if_false]
      exact Ev.now _
    · refine ev_1 fun k => ?_
      simp only [spec_HostGet.j0, beq_self_eq_true, if_true]
  · have hb : (t == []) = false := by simpa using hz
    rw [if_neg hz]
    simp only [if_neg hz, hb]
    cases hn : numEnd (lastOf t) with
    | true =>
      obtain ⟨s4, i4⟩ := four_val t ht
      generalize fourGet t = r4 at s4 i4 ⊢
      rw [if_pos rfl]
      refine ⟨?_, ?_⟩
      · refine ev_bind (impl_EndsNum t (by omega)) ?_
        simp only [hn]
        refine Ev.step (fun k => by rw [impl_HostGet.j0]) ?_
        simp only [if_true]
        refine ev_bind i4 ?_
        cases r4.2 <;> simp only [Bool.false_eq_true, if_false, if_true] <;> exact Ev.now _
      · refine Ev.step (fun k => by rw [spec_HostGet.j0]) ?_
        simp only [Bool.false_eq_true, if_false]
        refine ev_bind (spec_EndsNum t (by omega)) ?_
        simp only [hn, if_true]
        refine ev_bind s4 ?_
        cases r4.2 <;> simp only [Bool.false_eq_true, if_false, if_true] <;> exact Ev.now _
    | false =>
      rw [if_neg (show ¬ false = true by simp)]
      refine ⟨?_, ?_⟩
      · refine ev_bind (impl_EndsNum t (by omega)) ?_
        simp only [hn]
        refine Ev.step (fun k => by rw [impl_HostGet.j0]) ?_
        simp only [Bool.false_eq_true, if_false]
        refine ev_bind (impl_Host t (by omega)) ?_
        cases isHost t <;> simp only [Bool.false_eq_true, if_false, if_true] <;> exact Ev.now _
      · refine Ev.step (fun k => by rw [spec_HostGet.j0]) ?_
        simp only [Bool.false_eq_true, if_false]
        refine ev_bind (spec_EndsNum t (by omega)) ?_
        simp only [hn, Bool.false_eq_true, if_false]
        refine ev_bind (spec_Name t (by omega)) ?_
        cases isHost t <;> simp only [Bool.false_eq_true, if_false, if_true] <;> exact Ev.now _
/-- A host's text, as it is read. -/
def hostT0 (l : Bs) : Bs := lower (decodeMax l)
theorem decMax_len (l : Bs) : (decodeMax l).length ≤ l.length := by
  unfold decodeMax; split
  · exact decode_length l
  · simp
theorem hostGet_of (l : Bs) (r : Int × ByteArray × Int × Bool) (hl : l.length ≤ 200)
    (h : Ev (fun k => if hostT0 l = [] then impl_HostGet.j0 k (B (hostT0 l)) false else (impl_endsInNumber.f k (B (hostT0 l))).bind fun t180 => (impl_HostGet.j0 k (B (hostT0 l)) t180)) r) : Ev (fun k => impl_HostGet.f k (B l)) r := by
  unfold impl_HostGet.f
  have hd := decMax_len l
  simp only [B_size, if_neg (show ¬ (l.length : Int) > 200 by omega), impl_Decode_some, impl_Lower_some (decodeMax l) (by omega), Option.bind_some, B_toList]
  exact h
/-- What HostGet answers. -/
def hostGV (l : Bs) : Int × ByteArray × Int × Bool := if l.length ≤ 200 then hostV (hostT0 l) else (0, (⟨#[]⟩ : ByteArray), 0, false)
theorem hostGet_val (l : Bs) (hl : l.length ≤ 1048576) : Ev (fun k => spec_HostGet.f k (B l)) (hostGV l) ∧ Ev (fun k => impl_HostGet.f k (B l)) (hostGV l) := by
  have hd := decMax_len l
  unfold hostGV
  by_cases c : l.length ≤ 200
  · obtain ⟨h1, h2⟩ := hostT (hostT0 l) (by unfold hostT0; rw [lower_length]; omega)
    rw [if_pos c]
    refine ⟨?_, hostGet_of l _ c h1⟩
    unfold spec_HostGet.f
    refine ev_bind (spec_Decode_ev l) ?_
    refine ev_bind (spec_Lower_ev (decodeMax l) (by omega)) ?_
    simp only [B_size, if_neg (show ¬ (l.length : Int) > 200 by omega), B_toList]
    exact h2
  · rw [if_neg c]
    refine ⟨?_, ?_⟩
    · unfold spec_HostGet.f
      refine ev_bind (spec_Decode_ev l) ?_
      refine ev_bind (spec_Lower_ev (decodeMax l) (by omega)) ?_
      simp only [B_size, if_pos (show (l.length : Int) > 200 by omega)]
      refine ev_1 fun k => ?_
      simp only [spec_HostGet.j0, if_true]
    · unfold impl_HostGet.f
      simp only [B_size, if_pos (show (l.length : Int) > 200 by omega)]
      exact Ev.now _

/-- A reader over these bytes may be asked some more times. -/
def RdOk (s : List Int) (p : Int) (n : Nat) : Prop := (∀ x ∈ s, 0 ≤ x ∧ x ≤ 255) ∧ s.length ≤ 2000 ∧ 0 ≤ p ∧ p + n ≤ 1000000000
theorem xor_nn (a b : Int) (ha : 0 ≤ a) (ha' : a < 4611686018427387904) (hb : 0 ≤ b) (hb' : b < 4611686018427387904) : 0 ≤ Go.bits .xor .i64 a b ∧ Go.bits .xor .i64 a b < 4611686018427387904 := by
  obtain ⟨a, rfl⟩ := Int.eq_ofNat_of_zero_le ha
  obtain ⟨b, rfl⟩ := Int.eq_ofNat_of_zero_le hb
  have hx : a ^^^ b < 2 ^ 62 := Nat.xor_lt_two_pow (by omega) (by omega)
  have h1 : (BitVec.ofInt 64 (a : Int)).toNat = a := by
    rw [BitVec.ofInt_natCast, BitVec.toNat_ofNat]; exact Nat.mod_eq_of_lt (by omega)
  have h2 : (BitVec.ofInt 64 (b : Int)).toNat = b := by
    rw [BitVec.ofInt_natCast, BitVec.toNat_ofNat]; exact Nat.mod_eq_of_lt (by omega)
  have e : Go.bits .xor .i64 (a : Int) (b : Int) = ((a ^^^ b : Nat) : Int) := by
    show IntKind.i64.wrap ((BitVec.ofInt 64 (a : Int) ^^^ BitVec.ofInt 64 (b : Int)).toNat : Int) = _
    rw [BitVec.toNat_xor, h1, h2, i64_w]
    exact w64 (by omega) (by omega)
  rw [e]; omega
theorem tmod_rng (a n : Int) (ha : 0 ≤ a) (hn : 0 < n) : 0 ≤ Int.tmod a n ∧ Int.tmod a n < n := by
  rw [Int.tmod_eq_emod_of_nonneg ha]; exact ⟨Int.emod_nonneg _ (by omega), Int.emod_lt_of_pos _ hn⟩
theorem tdiv_rng (a n : Int) (ha : 0 ≤ a) (hn : 0 < n) : 0 ≤ Int.tdiv a n ∧ Int.tdiv a n ≤ a := by
  rw [Int.tdiv_eq_ediv_of_nonneg ha]; exact ⟨Int.ediv_nonneg ha (by omega), Int.ediv_le_self _ ha⟩
theorem rd_rng {s : List Int} (h : ∀ x ∈ s, 0 ≤ x ∧ x ≤ 255) (i : Int) : 0 ≤ rd s i ∧ rd s i ≤ 255 := by
  unfold rd
  by_cases hi : i.toNat < s.length
  · rw [List.getD_eq_getElem?_getD, List.getElem?_eq_getElem hi]; exact h _ (List.getElem_mem hi)
  · rw [List.getD_eq_getElem?_getD, List.getElem?_eq_none (by omega)]; simp
theorem pick_some (k : Nat) (s : List Int) (p n : Int) {m : Nat} (h : RdOk s p (m + 1)) (hn : 1 ≤ n) (hn' : n ≤ 1000000) : ∃ r, spec_l1Rd_pick.f (k + 1) s p n = some (r, p + 1) ∧ 0 ≤ r ∧ r < n := by
  obtain ⟨hs, hl, hp, hp'⟩ := h
  unfold spec_l1Rd_pick.f
  rw [if_neg (by omega), w64 (n := p + 1) (by omega) (by omega)]
  simp only [spec_l1Rd_pick.j0]
  by_cases hz : s.length = 0
  · rw [if_pos (by simp [hz])]; exact ⟨0, rfl, by omega, by omega⟩
  · rw [if_neg (by simp; exact fun e => hz (by simp [e])), w64 (n := p + 1 - 1) (by omega) (by omega)]
    have e1 : p + 1 - 1 = p := by omega
    rw [e1]
    have hlen : (0 : Int) < s.length := by omega
    by_cases hlt : p < s.length
    · rw [if_pos hlt, if_pos hp, if_neg (by omega)]
      have hr := rd_rng hs p
      rw [w64 (n := rd s p) (by omega) (by omega)]
      obtain ⟨h1, h2⟩ := tmod_rng (rd s p) n hr.1 (by omega)
      exact ⟨_, rfl, h1, h2⟩
    · rw [if_neg hlt, if_neg (by omega)]
      rw [w64 (n := p * 7) (by omega) (by omega), w64 (n := p * 7 + 3) (by omega) (by omega)]
      obtain ⟨a1, a2⟩ := tmod_rng p s.length hp hlen
      obtain ⟨b1, b2⟩ := tmod_rng (p * 7 + 3) s.length (by omega) hlen
      rw [if_pos a1, if_pos a2, if_pos b1, if_pos b2, if_neg (by omega)]
      have ra := rd_rng hs (Int.tmod p s.length)
      have rb := rd_rng hs (Int.tmod (p * 7 + 3) s.length)
      generalize rd s (Int.tmod p s.length) = x at ra ⊢
      generalize rd s (Int.tmod (p * 7 + 3) s.length) = y at rb ⊢
      obtain ⟨d1, d2⟩ := tdiv_rng p s.length hp hlen
      generalize Int.tdiv p s.length = q at d1 d2 ⊢
      rw [w64 (n := x) (by omega) (by omega), w64 (n := y) (by omega) (by omega), w64 (n := x * 131) (by omega) (by omega), w64 (n := y * 1117) (by omega) (by omega), w64 (n := q) (by omega) (by omega), w64 (n := q * 53) (by omega) (by omega), w64 (n := p * 29) (by omega) (by omega),
        w64 (n := x * 131 + y * 1117) (by omega) (by omega), w64 (n := x * 131 + y * 1117 + p * 29) (by omega) (by omega), w64 (n := x * 131 + y * 1117 + p * 29 + q * 53) (by omega) (by omega)]
      have hz0 : 0 ≤ x * 131 + y * 1117 + p * 29 + q * 53 := by omega
      have hz1 : x * 131 + y * 1117 + p * 29 + q * 53 < 4611686018427387904 := by omega
      generalize x * 131 + y * 1117 + p * 29 + q * 53 = z at hz0 hz1 ⊢
      obtain ⟨t1, t2⟩ := tdiv_rng z 64 hz0 (by omega)
      rw [w64 (n := Int.tdiv z 64) (by omega) (by omega)]
      obtain ⟨x1, x2⟩ := xor_nn z (Int.tdiv z 64) hz0 hz1 t1 (by omega)
      obtain ⟨h1, h2⟩ := tmod_rng _ n x1 (by omega)
      exact ⟨_, rfl, h1, h2⟩
theorem RdOk.step {s : List Int} {p : Int} {m : Nat} (h : RdOk s p (m + 1)) : RdOk s (p + 1) m := ⟨h.1, h.2.1, by have := h.2.2.1; omega, by have := h.2.2.2; omega⟩
theorem l1Open_ok (l0 : List Int) (h : ∀ x ∈ l0, (Lit.int .u8 x).wf = true) (m : Nat) (hm : m ≤ 1000000000) : ∃ s, spec_l1Open.f l0 = some (s, 0) ∧ RdOk s 0 m := by
  have h' : ∀ x ∈ l0, 0 ≤ x ∧ x ≤ 255 := by
    intro x hx
    have := h x hx
    simp [Lit.wf, IntKind.min, IntKind.max, IntKind.bits, IntKind.signed] at this
    omega
  unfold spec_l1Open.f
  by_cases hl : (l0.length : Int) > 2000
  · rw [if_pos hl, if_pos (by omega)]
    exact ⟨_, rfl, fun x hx => h' x (List.mem_of_mem_take hx), by simp; omega, by omega, by omega⟩
  · rw [if_neg hl]
    exact ⟨_, rfl, h', by omega, by omega, by omega⟩
theorem pick_ev (s : List Int) (p n : Int) {m : Nat} (h : RdOk s p (m + 1)) (hn : 1 ≤ n) (hn' : n ≤ 1000000) : ∃ r, Ev (fun k => spec_l1Rd_pick.f k s p n) (r, p + 1) ∧ 0 ≤ r ∧ r < n := by
  obtain ⟨r, hr, h0, h1⟩ := pick_some 0 s p n h hn hn'
  exact ⟨r, Ev.of (fun k => spec_l1Rd_pick.mono _ _ _ k) hr, h0, h1⟩
theorem RdOk.less {s : List Int} {p : Int} {m n : Nat} (h : RdOk s p n) (hm : m ≤ n) : RdOk s p m := ⟨h.1, h.2.1, h.2.2.1, by have := h.2.2.2; omega⟩
theorem RdOk.skip {s : List Int} {p : Int} {m n : Nat} (h : RdOk s p (n + m)) : RdOk s (p + n) m := ⟨h.1, h.2.1, by have := h.2.2.1; omega, by have := h.2.2.2; omega⟩

theorem of_some (k : Nat) (s : List Int) (p : Int) {m : Nat} (h : RdOk s p (m + 1)) (l : List ByteArray) (hl : l ≠ []) (hl' : l.length ≤ 1000000) : ∃ x ∈ l, spec_l1Rd_of.f (k + 1) s p l = some (x, p + 1) := by
  have hpos : 0 < l.length := List.length_pos_iff.2 hl
  obtain ⟨r, hr, h0, h1⟩ := pick_some k s p l.length h (by omega) (by omega)
  refine ⟨rdOf ByteArray.empty l r, ?_, ?_⟩
  · unfold rdOf
    rw [List.getD_eq_getElem?_getD, List.getElem?_eq_getElem (show r.toNat < l.length by omega)]
    exact List.getElem_mem _
  · unfold spec_l1Rd_of.f
    rw [hr]
    simp only [Option.bind_some]
    rw [if_pos h0, if_pos h1]
theorem of_ev (s : List Int) (p : Int) {m : Nat} (h : RdOk s p (m + 1)) (l : List ByteArray) (hl : l ≠ []) (hl' : l.length ≤ 1000000) : ∃ x ∈ l, Ev (fun k => spec_l1Rd_of.f k s p l) (x, p + 1) := by
  obtain ⟨x, hx, e⟩ := of_some 0 s p h l hl hl'
  exact ⟨x, hx, Ev.of (fun k => spec_l1Rd_of.mono _ _ _ k) e⟩

theorem one_ev (s : List Int) (p : Int) {m : Nat} (h : RdOk s p (m + 1)) (l : List Int) (hl : l ≠ []) (hl' : l.length ≤ 1000000) : ∃ x ∈ l, Ev (fun k => spec_l1Rd_one.f k s p l) (x, p + 1) := by
  have hpos : 0 < l.length := List.length_pos_iff.2 hl
  obtain ⟨r, hr, h0, h1⟩ := pick_ev s p l.length h (by omega) (by omega)
  refine ⟨rd l r, ?_, ?_⟩
  · unfold rd
    rw [List.getD_eq_getElem?_getD, List.getElem?_eq_getElem (show r.toNat < l.length by omega)]
    exact List.getElem_mem _
  · unfold spec_l1Rd_one.f
    refine ev_bind hr ?_
    simp only [if_pos h0, if_pos h1]
    exact Ev.now _
theorem mod_byte (x : Int) : ∃ c : UInt8, x % 256 = ((c.toNat : Nat) : Int) := by
  refine ⟨UInt8.ofNat (x % 256).toNat, ?_⟩
  have h0 : 0 ≤ x % 256 := Int.emod_nonneg _ (by decide)
  have h1 : x % 256 < 256 := Int.emod_lt_of_pos _ (by decide)
  simp; omega
theorem bytes_l0 (s : List Int) : ∀ (n : Nat) (b : Bs) (p : Int) (m : Nat), b.length + n ≤ 100000 → RdOk s p (2 * n + m) → ∃ b' : Bs, b'.length = b.length + n ∧ Ev (fun k => spec_l11Bytes.l0 k n (ns b) s p) (B b', p + 2 * n) := by
  intro n
  induction n with
  | zero =>
    intro b p m hb h
    refine ⟨b, rfl, ev_1 fun k => ?_⟩
    simp only [spec_l11Bytes.l0]
    rw [if_neg (by omega), str_ns]; simp
  | succ n ih =>
    intro b p m hb h
    have h' : RdOk s p (2 * n + m + 1 + 1) := h.less (by omega)
    obtain ⟨r, hr, r0, r1⟩ := pick_ev s p 256 h' (by omega) (by omega)
    obtain ⟨x, _, hx⟩ := one_ev s _ h'.step [97, 98, 37, 47, 63, 35, 32, 43, 38, 61, 50, 70, 64, 58, 92, 46, 255, 0, 195, r] (by simp) (by simp)
    obtain ⟨c, hc⟩ := mod_byte x
    obtain ⟨b', hl, e⟩ := ih (b ++ [c]) (p + 1 + 1) m (by simp; omega) h'.step.step
    refine ⟨b', by simp at hl; omega, ?_⟩
    refine Ev.step (fun k => by rw [spec_l11Bytes.l0]) ?_
    simp only [if_pos (show ((n + 1 : Nat) : Int) > 0 by omega)]
    refine ev_bind hr ?_
    refine ev_bind hx ?_
    have hlen : (ns b).length < 140737488355328 := by simp; omega
    have hw : wrap64 (((n + 1 : Nat) : Int) - 1) = (n : Int) := by rw [w64 (by omega) (by omega)]; omega
    simp only [if_pos hlen, hc, hw]
    rw [ns_append, ns_one] at e
    have hp : p + 1 + 1 + 2 * (n : Int) = p + 2 * ((n + 1 : Nat) : Int) := by omega
    rw [hp] at e
    exact e
theorem bytes_ev (s : List Int) (n : Nat) (p : Int) (m : Nat) (hn : n ≤ 100000) (h : RdOk s p (2 * n + m)) : ∃ b : Bs, b.length = n ∧ Ev (fun k => spec_l11Bytes.f k s p n) (B b, p + 2 * n) := by
  obtain ⟨b, hb, e⟩ := bytes_l0 s n [] p m (by simpa using hn) h
  exact ⟨b, by simpa using hb, e⟩

theorem l11Host_ev (s : List Int) (p : Int) {m : Nat} (h : RdOk s p (m + 1)) : ∃ t : Bs, t.length ≤ 1000 ∧ Ev (fun k => spec_l11Host.f k s p) (B t, p + 1) := by
  unfold spec_l11Host.f
  obtain ⟨x, hx, ex⟩ := of_ev s p h ([(⟨#[97, 46, 99, 111, 109]⟩ : ByteArray), (⟨#[98, 46, 97, 46, 99, 111, 109]⟩ : ByteArray), (⟨#[65, 46, 67, 111, 109]⟩ : ByteArray), (⟨#[120]⟩ : ByteArray), (⟨#[49, 46, 50, 46, 51, 46, 52]⟩ : ByteArray), (⟨#[48, 120, 55, 102, 46, 49]⟩ : ByteArray), (⟨#[49, 48, 46, 48]⟩ : ByteArray), (⟨#[48, 49, 55, 46, 49]⟩ : ByteArray), (⟨#[50, 53, 54, 46, 49]⟩ : ByteArray), (⟨#[49, 46, 50, 46, 51, 46, 52, 46, 53]⟩ : ByteArray), (⟨#[97, 95, 98, 45, 99, 46, 100]⟩ : ByteArray), (⟨#[97, 46, 46, 98]⟩ : ByteArray), (⟨#[]⟩ : ByteArray), (⟨#[97, 46, 99, 111, 109, 46]⟩ : ByteArray), (⟨#[52, 50, 57, 52, 57, 54, 55, 50, 57, 53]⟩ : ByteArray), (⟨#[52, 50, 57, 52, 57, 54, 55, 50, 57, 54]⟩ : ByteArray), (⟨#[97, 46, 48, 120, 49]⟩ : ByteArray), (⟨#[37, 54, 49, 46, 99, 111, 109]⟩ : ByteArray), (⟨#[97, 32, 98]⟩ : ByteArray), (⟨#[49, 46, 50, 46, 51, 46]⟩ : ByteArray), (⟨#[46]⟩ : ByteArray), (⟨#[97, 46, 49, 120]⟩ : ByteArray)] : List ByteArray) (by simp) (by simp)
  have sx : x.size ≤ 1000 := by
    simp only [List.mem_cons, List.not_mem_nil, or_false] at hx
    rcases hx with rfl | rfl | rfl | rfl | rfl | rfl | rfl | rfl | rfl | rfl | rfl | rfl | rfl | rfl | rfl | rfl | rfl | rfl | rfl | rfl | rfl | rfl <;> decide
  obtain ⟨t, rfl, ht⟩ := exBn x _ sx
  refine ⟨t, ht, ev_bind ex ?_⟩
  exact Ev.now _

theorem up_facts (c : UInt8) : hexI (upB1 c) = hexI c ∧ (upB1 c = 37 ↔ c = 37) ∧ lowB (upB1 c) = lowB c := by
  have : ∀ m : Nat, m < 256 → hexI (upB1 (UInt8.ofNat m)) = hexI (UInt8.ofNat m) ∧ (upB1 (UInt8.ofNat m) = 37 ↔ UInt8.ofNat m = 37) ∧ lowB (upB1 (UInt8.ofNat m)) = lowB (UInt8.ofNat m) := by decide +kernel
  have e := this c.toNat c.toNat_lt
  rwa [UInt8.ofNat_toNat] at e
theorem upper_length (l : Bs) : (upper l).length = l.length := by simp [upper]
theorem lower_dec_up (l : Bs) : lower (pctDec (upper l)) = lower (pctDec l) := by
  induction l using pctDec.induct with
  | case1 c a b t h ih =>
    have e : upper (c :: a :: b :: t) = upB1 c :: upB1 a :: upB1 b :: upper t := rfl
    have h' : upB1 c = 37 ∧ 0 ≤ hexI (upB1 a) ∧ 0 ≤ hexI (upB1 b) := ⟨(up_facts c).2.1.2 h.1, by rw [(up_facts a).1]; exact h.2.1, by rw [(up_facts b).1]; exact h.2.2⟩
    have hx : escByte (upB1 a) (upB1 b) = escByte a b := by unfold escByte; rw [(up_facts a).1, (up_facts b).1]
    rw [e, pctDec, if_pos h', pctDec, if_pos h, hx]
    unfold lower at ih ⊢
    rw [List.map_cons, List.map_cons, ih]
  | case2 c a b t h ih =>
    have e : upper (c :: a :: b :: t) = upB1 c :: upB1 a :: upB1 b :: upper t := rfl
    have e2 : upper (a :: b :: t) = upB1 a :: upB1 b :: upper t := rfl
    have h' : ¬ (upB1 c = 37 ∧ 0 ≤ hexI (upB1 a) ∧ 0 ≤ hexI (upB1 b)) := by
      rw [(up_facts a).1, (up_facts b).1]
      exact fun q => h ⟨(up_facts c).2.1.1 q.1, q.2⟩
    rw [e2] at ih
    rw [e, pctDec, if_neg h']
    conv => rhs; rw [pctDec, if_neg h]
    unfold lower at ih ⊢
    rw [List.map_cons, List.map_cons, ih, (up_facts c).2.2]
  | case3 c t h ih =>
    have ht : t.length < 2 := by
      match t, h with
      | [], _ => simp
      | [a], _ => simp
      | a :: b :: r, h => exact absurd rfl (h a b r)
    have e : upper (c :: t) = upB1 c :: upper t := rfl
    rw [e, decode_short _ _ (by rw [upper_length]; exact ht), decode_short c t ht]
    unfold lower at ih ⊢
    rw [List.map_cons, List.map_cons, ih, (up_facts c).2.2]
  | case4 => rfl
theorem hostGV_up (l : Bs) : hostGV (upper l) = hostGV l := by
  have : hostT0 (upper l) = hostT0 l := by
    unfold hostT0 decodeMax
    rw [upper_length]
    split
    · exact lower_dec_up l
    · rfl
  unfold hostGV
  rw [upper_length, this]
theorem FnHostLower : laws_FnHostLower.Pure := by
  intro l0 _ _ hb
  refine Ev.rounds ?_
  unfold laws_FnHostLower.f
  by_cases hl : (l0.length : Int) > 1048576
  · simp only [if_pos hl]; exact Ev.now _
  simp only [if_neg hl]
  obtain ⟨s, hs, hok⟩ := l1Open_ok l0 hb 40 (by omega)
  have hd : ∃ t : Bs, t.length ≤ 1000 ∧ Ev (fun k => spec_DrawHostGet.f k l0) (B t) := by
    unfold spec_DrawHostGet.f
    simp only [hs, Option.bind_some]
    obtain ⟨r, hr, r0, r1⟩ := pick_ev s 0 5 hok (by omega) (by omega)
    by_cases c : r = 0
    · obtain ⟨q, hq, q0, q1⟩ := pick_ev s _ 6 hok.step (by omega) (by omega)
      obtain ⟨n, rfl⟩ := Int.eq_ofNat_of_zero_le q0
      have hb2 : RdOk s ((0 : Int) + 1 + 1) (2 * n + 0) := hok.step.step.less (by omega)
      obtain ⟨y, hy, ey⟩ := bytes_ev s n _ 0 (by omega) hb2
      refine ⟨y, by omega, ev_bind hr ?_⟩
      simp only [if_pos c]
      refine ev_bind hq ?_
      refine ev_bind ey ?_
      exact Ev.now _
    · obtain ⟨t, ht, et⟩ := l11Host_ev s _ hok.step
      refine ⟨t, ht, ev_bind hr ?_⟩
      simp only [if_neg c]
      refine ev_bind et ?_
      exact Ev.now _
  obtain ⟨t, ht, hd⟩ := hd
  refine ev_bind hd ?_
  refine ev_bind (hostGet_val t (by omega)).2 ?_
  refine ev_bind (hostGet_val t (by omega)).1 ?_
  simp only [beq_self_eq_true, Bool.not_true, Bool.or_self, Bool.false_eq_true, if_false, bne_self_eq_false]
  have hu : Ev (fun k => hostUp k (B t)) (hostGV t) := by
    have h2 := (hostGet_val (upper t) (by rw [upper_length]; omega)).2
    rw [hostGV_up] at h2
    refine ev_eq h2 (fun k => ?_)
    unfold hostUp
    rw [if_pos (by rw [B_size]; omega), B_data]
  refine ev_bind hu ?_
  simp only [beq_self_eq_true, if_true, Bool.and_self]
  exact Ev.now _

end Go.Proofs.YtekeimhhffnjpaaDoor.Pure
