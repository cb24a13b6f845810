/- The pure side of the law FnExactOriginPut: what the printed functions tell is what the law says, for every input within the law's bounds. -/
import Derived.Test.YtocgaicnfahkeaaDoorPFnExactOriginPutx9
import Derived.Test.YtocgaicnfahkeaaDoorBase
import Derived.Test.YtocgaicnfahkeaaDoorHM
set_option linter.unusedVariables false
set_option linter.unusedSimpArgs false
namespace Go.Proofs.YtocgaicnfahkeaaDoor.Pure
open Go.RowKit Go.Proofs.YtocgaicnfahkeaaDoor.H Go.Proofs.YtocgaicnfahkeaaDoor.PFnExactOriginPut Go.Proofs.YtocgaicnfahkeaaDoorW.PrintWords Go.Proofs.YtocgaicnfahkeaaDoorW.PrintLast Go.Proofs.YtocgaicnfahkeaaDoor.Base

theorem spec_hex (c : UInt8) : Ev (fun k => spec_l1Hex.f k ((c.toNat : Nat) : Int)) (hexI c) := by
  have h255 := lt256 c
  unfold spec_l1Hex.f
  have j1 : ∀ b : Bool, (b = decide (65 ≤ c.toNat ∧ c.toNat ≤ 70)) → ¬ (48 ≤ c.toNat ∧ c.toNat ≤ 57) → Ev (fun k => spec_l1Hex.j1 k ((c.toNat : Nat) : Int) b) (hexI c) := by
    intro b hb h0
    refine ev_1 fun k => ?_
    simp only [spec_l1Hex.j1]
    unfold hexI
    rw [if_neg h0]
    by_cases h1 : 65 ≤ c.toNat ∧ c.toNat ≤ 70
    · rw [hb, if_pos (by simpa using h1), if_neg (by omega), if_pos h1]; congr 1; omega
    · rw [hb, if_neg (by simpa using h1)]
      by_cases h2 : ((c.toNat : Nat) : Int) ≥ 97
      · rw [if_pos h2]
        by_cases h3 : ((c.toNat : Nat) : Int) ≤ 102
        · rw [if_pos h3, if_pos (by omega)]; congr 1; omega
        · rw [if_neg h3, if_neg (by omega), if_neg h1]
      · rw [if_neg h2, if_neg (by omega), if_neg h1]
  have j0 : ∀ b : Bool, (b = decide (48 ≤ c.toNat ∧ c.toNat ≤ 57)) → Ev (fun k => spec_l1Hex.j0 k ((c.toNat : Nat) : Int) b) (hexI c) := by
    intro b hb
    refine Ev.step (fun k => by rw [spec_l1Hex.j0]) ?_
    by_cases h0 : 48 ≤ c.toNat ∧ c.toNat ≤ 57
    · simp only [if_pos (show b = true by rw [hb]; simpa using h0)]
      have : (((c.toNat : Nat) : Int) - 48) % 256 = hexI c := by unfold hexI; rw [if_pos h0]; omega
      rw [this]; exact Ev.now _
    · simp only [if_neg (show ¬ b = true by rw [hb]; simpa using h0)]
      by_cases h1 : ((c.toNat : Nat) : Int) ≥ 65
      · simp only [if_pos h1]; exact j1 _ (by congr 1; simp; omega) h0
      · simp only [if_neg h1]; exact j1 _ (by symm; simp; omega) h0
  by_cases h1 : ((c.toNat : Nat) : Int) ≥ 48
  · simp only [if_pos h1]; exact j0 _ (by congr 1; simp; omega)
  · simp only [if_neg h1]; exact j0 _ (by symm; simp; omega)

theorem rd_parts (L : List Bs) (i : Nat) (h : i < L.length) : rdOf ByteArray.empty (L.map B) ((i : Nat) : Int) = B L[i] := by
  unfold rdOf
  rw [Int.toNat_natCast, List.getD_eq_getElem?_getD]
  simp [List.getElem?_map, List.getElem?_eq_getElem h]
theorem In_f (n a b : Int) : spec_l1In.f n a b = some (decide (a ≤ n ∧ n ≤ b)) := by
  unfold spec_l1In.f
  by_cases h : n ≥ a
  · rw [if_pos h]; congr 1; simp; omega
  · rw [if_neg h]; congr 1; symm; simp; omega

theorem spec_Cut_l0 (c : UInt8) (l : Bs) (hl : l.length ≤ 8796093022207) (d : Nat) : ∀ (f i : Nat) (X : List ByteArray), i + d = l.length → f ≤ i → X.length ≤ f → (∀ x ∈ (l.drop f).take (i - f), x ≠ c) → Ev (fun k => spec_l1Cut.l0 k (B l) ((c.toNat : Nat) : Int) X f i) (X ++ (splitC c (l.drop f)).map B) := by
  induction d with
  | zero =>
    intro f i X hi hf hX h
    refine ev_1 fun k => ?_
    simp only [spec_l1Cut.l0]
    rw [if_neg (by rw [B_size]; omega), if_pos (by omega), if_pos (by rw [B_size]; omega), if_pos (by omega)]
    rw [List.take_of_length_le (by simp; omega)] at h
    rw [splitC_plain c _ h, Int.toNat_natCast, B_extract, B_size, List.take_of_length_le (by simp)]
    rfl
  | succ d ih =>
    intro f i X hi hf hX h
    have hlt : i < l.length := by omega
    refine Ev.step (fun k => by rw [spec_l1Cut.l0]) ?_
    have hi0 : (0 : Int) ≤ (i : Int) := by omega
    have hi1 : (i : Int) < (l.length : Int) := by omega
    have hi2 : (i : Int) ≤ (l.length : Int) := by omega
    have hw : wrap64 ((i : Int) + 1) = ((i + 1 : Nat) : Int) := by rw [w64 (by omega) (by omega)]; rfl
    simp only [B_size, bt_B, Int.toNat_natCast, get_eq hlt, if_pos hi0, if_pos hi1, if_pos hi2, hw]
    have hcat : l.drop f = (l.drop f).take (i - f) ++ l[i] :: l.drop (i + 1) := by
      conv => lhs; rw [← List.take_append_drop (i - f) (l.drop f)]
      rw [List.drop_drop, show f + (i - f) = i by omega, List.drop_eq_getElem_cons hlt]
    by_cases e : l[i] = c
    · have e1 : ((l[i].toNat : Nat) : Int) = ((c.toNat : Nat) : Int) := by rw [e]
      simp only [if_pos e1, if_pos (show (0 : Int) ≤ (f : Int) by omega), if_pos (show (f : Int) ≤ (i : Int) by omega), if_pos (show X.length < 8796093022208 by omega)]
      have := ih (i + 1) (i + 1) (X ++ [B ((l.drop f).take (i - f))]) (by omega) (by omega) (by simp; omega) (by simp)
      have hs : splitC c (l.drop f) = (l.drop f).take (i - f) :: splitC c (l.drop (i + 1)) := by
        conv => lhs; rw [hcat, e, splitC_cut c _ _ h]
      rw [B_extract, hs]
      simpa using this
    · have e1 : ¬ ((l[i].toNat : Nat) : Int) = ((c.toNat : Nat) : Int) := fun h => e (UInt8.toNat_inj.1 (by omega))
      simp only [if_neg e1]
      refine ih f (i + 1) X (by omega) (by omega) hX ?_
      have ht : (l.drop f).take (i + 1 - f) = (l.drop f).take (i - f) ++ [l[i]] := by
        rw [show i + 1 - f = (i - f) + 1 by omega, List.take_succ_eq_append_getElem (by simp; omega)]
        simp [show f + (i - f) = i by omega]
      rw [ht]
      intro x hx
      rcases List.mem_append.1 hx with hx | hx
      · exact h x hx
      · rw [List.mem_singleton.1 hx]; exact e
theorem spec_Cut (c : UInt8) (n : Nat) (hn : c = UInt8.ofNat n) (hn' : n < 256) (l : Bs) (hl : l.length ≤ 8796093022207) : Ev (fun k => spec_l1Cut.f k (B l) ((n : Nat) : Int)) ((splitC c l).map B) := by
  have e : ((n : Nat) : Int) = ((c.toNat : Nat) : Int) := by subst hn; simp; omega
  rw [e]
  unfold spec_l1Cut.f
  exact spec_Cut_l0 c l hl l.length 0 0 [] (by omega) (by omega) (by simp) (by simp)

/-- The pieces at the dots, without an empty one at the end. -/
def parts (l : Bs) : List Bs := if 1 < (splitC 46 l).length ∧ (splitC 46 l).getLast? = some [] then (splitC 46 l).dropLast else splitC 46 l
theorem tail_some (t : List Bs) (h : t.length ≤ 8796093022208) :
    (if (((t.map B).length : Nat) : Int) > 1 then (if 0 ≤ (wrap64 (((t.map B).length : Int) - 1)) then (if (wrap64 (((t.map B).length : Int) - 1)) < ((t.map B).length : Int) then (if (rdOf ByteArray.empty (t.map B) (wrap64 (((t.map B).length : Int) - 1))).toList = ([] : List UInt8) then (if (wrap64 (((t.map B).length : Int) - 1)) ≤ ((t.map B).length : Int) then (some ((t.map B).take ((wrap64 (((t.map B).length : Int) - 1)) : Int).toNat)) else (none)) else (some (t.map B))) else (none)) else (none)) else (some (t.map B))) =
      some ((if 1 < t.length ∧ t.getLast? = some [] then t.dropLast else t).map B) := by
  rw [List.length_map]
  by_cases h1 : 1 < t.length
  · have hw : wrap64 ((t.length : Int) - 1) = ((t.length - 1 : Nat) : Int) := by rw [w64 (by omega) (by omega)]; omega
    rw [if_pos (by omega), hw, if_pos (by omega), if_pos (by omega)]
    have hr : rdOf ByteArray.empty (t.map B) ((t.length - 1 : Nat) : Int) = B (t[t.length - 1]'(by omega)) := by
      unfold rdOf
      rw [Int.toNat_natCast, List.getD_eq_getElem?_getD]
      simp [List.getElem?_map, List.getElem?_eq_getElem (show t.length - 1 < t.length by omega)]
    have hl : t.getLast? = some (t[t.length - 1]'(by omega)) := by rw [List.getLast?_eq_getElem?, List.getElem?_eq_getElem (by omega)]
    rw [hr, B_toList, hl]
    by_cases h2 : t[t.length - 1]'(by omega) = []
    · rw [if_pos h2, if_pos (by omega), if_pos ⟨h1, by rw [h2]⟩, Int.toNat_natCast, List.dropLast_eq_take, List.map_take]
    · rw [if_neg h2, if_neg (by simp [h2])]
  · rw [if_neg (by omega), if_neg (by omega)]
theorem splitC_len_le (c : UInt8) (l : Bs) : (splitC c l).length ≤ l.length + 1 := by
  rw [splitC_length]; have := List.count_le_length (a := c) (l := l); omega
theorem spec_Parts (l : Bs) (hl : l.length ≤ 8796093022207) : Ev (fun k => spec_l2Parts.f k (B l)) ((parts l).map B) := by
  unfold spec_l2Parts.f
  refine ev_bind (spec_Cut 46 46 rfl (by decide) l hl) ?_
  have := tail_some (splitC 46 l) (by have := splitC_len_le 46 l; omega)
  refine ev_of fun k => ?_
  exact this
theorem impl_Labels (l : Bs) (hl : l.length < 4294967281) : impl_labels.f (B l) = some ((parts l).map B) := by
  unfold impl_labels.f
  have e : strings_Split.f (B l) (⟨#[46]⟩ : ByteArray) = some ((splitC 46 l).map B) := by
    unfold strings_Split.f
    rw [if_pos (by rw [B_size]; exact hl)]
    simp
  rw [e, Option.bind_some]
  exact tail_some (splitC 46 l) (by have := splitC_len_le 46 l; omega)
theorem splitC_mem_len (c : UInt8) : ∀ (l : Bs), ∀ x ∈ splitC c l, x.length ≤ l.length
  | [], x, h => by simp [splitC] at h; subst h; simp
  | y :: t, x, h => by
    have ih := splitC_mem_len c t
    unfold splitC at h
    split at h
    · rcases List.mem_cons.1 h with rfl | h
      · simp
      · have := ih x h; simp; omega
    · split at h
      · rename_i h0; exact absurd h0 (splitC_ne c t)
      · rename_i a r h0
        rcases List.mem_cons.1 h with rfl | h
        · have := ih a (by rw [h0]; simp); simp; omega
        · have := ih x (by rw [h0]; simp [h]); simp; omega
theorem parts_mem_len (l : Bs) (x : Bs) (h : x ∈ parts l) : x.length ≤ l.length := by
  unfold parts at h
  split at h
  · exact splitC_mem_len 46 l x ((List.dropLast_sublist _).subset h)
  · exact splitC_mem_len 46 l x h
theorem parts_ne (l : Bs) : parts l ≠ [] := by
  unfold parts
  split
  · rename_i h; intro e; have := congrArg List.length e; simp at this; omega
  · exact splitC_ne 46 l
theorem parts_len (l : Bs) : (parts l).length ≤ l.length + 1 := by
  have := splitC_len_le 46 l
  unfold parts
  split
  · simp; omega
  · exact this

/-- The number of figures to a base. -/
def dig (base : Int) : Int → Bs → Option Int
  | n, [] => some n
  | n, c :: t => if hexI c < 0 ∨ hexI c ≥ base ∨ n > 4294967295 then none else dig base (n * base + hexI c) t
def partNum : Bs → Option Int
  | [] => none
  | [c] => dig 10 0 [c]
  | a :: b :: t => if a = 48 ∧ (b = 120 ∨ b = 88) then dig 16 0 t else if a = 48 then dig 8 0 (b :: t) else dig 10 0 (a :: b :: t)
theorem partNum_two (a b : UInt8) (t : Bs) : partNum (a :: b :: t) = if a = 48 ∧ (b = 120 ∨ b = 88) then dig 16 0 t else if a = 48 then dig 8 0 (b :: t) else dig 10 0 (a :: b :: t) := rfl
theorem partNum_one (c : UInt8) : partNum [c] = dig 10 0 [c] := rfl
theorem dig_rng (base : Int) (hb : 0 ≤ base) (hb' : base ≤ 16) : ∀ (l : Bs) (n r : Int), 0 ≤ n → n ≤ 68719476736 → dig base n l = some r → 0 ≤ r ∧ r ≤ 68719476736
  | [], n, r, h0, h1, h => by simp [dig] at h; omega
  | c :: t, n, r, h0, h1, h => by
    unfold dig at h
    split at h
    · cases h
    · rename_i hc
      have hr := hexI_rng c
      have p1 : 0 ≤ n * base := Int.mul_nonneg h0 hb
      have p2 : n * base ≤ 4294967295 * 16 := Int.mul_le_mul (by omega) hb' hb (by omega)
      exact dig_rng base hb hb' t _ r (by omega) (by omega) h
theorem partNum_rng (l : Bs) (r : Int) (h : partNum l = some r) : 0 ≤ r ∧ r ≤ 68719476736 := by
  match l, h with
  | [], h => simp [partNum] at h
  | [c], h => rw [partNum_one] at h; exact dig_rng 10 (by omega) (by omega) _ 0 r (by omega) (by omega) h
  | a :: b :: t, h =>
    rw [partNum_two] at h
    split at h
    · exact dig_rng 16 (by omega) (by omega) _ 0 r (by omega) (by omega) h
    · split at h
      · exact dig_rng 8 (by omega) (by omega) _ 0 r (by omega) (by omega) h
      · exact dig_rng 10 (by omega) (by omega) _ 0 r (by omega) (by omega) h
theorem mul_rng {n base : Int} (h0 : 0 ≤ n) (h1 : n ≤ 4294967295) (hb : 0 ≤ base) (hb' : base ≤ 16) : 0 ≤ n * base ∧ n * base ≤ 68719476720 := by
  have p1 : 0 ≤ n * base := Int.mul_nonneg h0 hb
  have p2 : n * base ≤ 4294967295 * 16 := Int.mul_le_mul h1 hb' hb (by omega)
  omega

theorem spec_Digits_l0 (base : Int) (hb : 0 ≤ base) (hb' : base ≤ 16) (l : Bs) (hl : l.length ≤ 140737488355328) (d : Nat) : ∀ (i : Nat) (n : Int), i + d = l.length → 0 ≤ n → Ev (fun k => spec_l2Digits.l0 k (B l) base n i) ((dig base n (l.drop i)).getD (-1)) := by
  induction d with
  | zero =>
    intro i n hi hn
    refine ev_1 fun k => ?_
    simp only [spec_l2Digits.l0]
    rw [if_neg (by rw [B_size]; omega), List.drop_eq_nil_of_le (by omega)]; rfl
  | succ d ih =>
    intro i n hi hn
    have hlt : i < l.length := by omega
    refine Ev.step (fun k => by rw [spec_l2Digits.l0]) ?_
    have hi0 : (0 : Int) ≤ (i : Int) := by omega
    have hi1 : (i : Int) < (l.length : Int) := by omega
    have hw : wrap64 ((i : Int) + 1) = ((i + 1 : Nat) : Int) := by rw [w64 (by omega) (by omega)]; rfl
    simp only [B_size, bt_B, Int.toNat_natCast, get_eq hlt, if_pos hi0, if_pos hi1, hw]
    refine ev_bind (spec_hex _) ?_
    have hr := hexI_rng l[i]
    rw [List.drop_eq_getElem_cons hlt]
    unfold dig
    by_cases c1 : hexI l[i] < 0
    · simp only [if_pos c1, if_pos (show hexI l[i] < 0 ∨ hexI l[i] ≥ base ∨ n > 4294967295 from Or.inl c1)]; exact Ev.now _
    by_cases c2 : hexI l[i] ≥ base
    · simp only [if_neg c1, if_pos c2, if_pos (show hexI l[i] < 0 ∨ hexI l[i] ≥ base ∨ n > 4294967295 from Or.inr (Or.inl c2))]; exact Ev.now _
    by_cases c3 : n > 4294967295
    · simp only [if_neg c1, if_neg c2, if_pos c3, if_pos (show hexI l[i] < 0 ∨ hexI l[i] ≥ base ∨ n > 4294967295 from Or.inr (Or.inr c3))]; exact Ev.now _
    have hm := mul_rng hn (show n ≤ 4294967295 by omega) hb hb'
    have hv : wrap64 (wrap64 (n * base) + hexI l[i]) = n * base + hexI l[i] := by
      rw [w64 (n := n * base) (by omega) (by omega), w64 (by omega) (by omega)]
    simp only [if_neg c1, if_neg c2, if_neg c3, if_neg (show ¬ (hexI l[i] < 0 ∨ hexI l[i] ≥ base ∨ n > 4294967295) by omega), hv]
    exact ih (i + 1) _ (by omega) (by omega)
theorem spec_Digits (base : Int) (hb : 0 ≤ base) (hb' : base ≤ 16) (l : Bs) (hl : l.length ≤ 140737488355328) : Ev (fun k => spec_l2Digits.f k (B l) base) ((dig base 0 l).getD (-1)) := by
  unfold spec_l2Digits.f
  exact spec_Digits_l0 base hb hb' l hl l.length 0 0 (by omega) (by omega)
theorem B_drop1 (a : UInt8) (t : Bs) : (B (a :: t)).extract 1 (a :: t).length = B t := by
  rw [B_extract]; simp
theorem B_drop2 (a b : UInt8) (t : Bs) : (B (a :: b :: t)).extract 2 (a :: b :: t).length = B t := by
  rw [B_extract]; simp
theorem bt_0 (a : UInt8) (t : Bs) : bt (B (a :: t)) 0 = ((a.toNat : Nat) : Int) := by rw [bt_B]; rfl
theorem bt_1 (a b : UInt8) (t : Bs) : bt (B (a :: b :: t)) 1 = ((b.toNat : Nat) : Int) := by rw [bt_B]; rfl
theorem spec_Part (l : Bs) (hl : l.length ≤ 140737488355328) : Ev (fun k => spec_l2Part.f k (B l)) ((partNum l).getD (-1)) := by
  unfold spec_l2Part.f
  match l, hl with
  | [], hl => simp only [B_toList, if_true]; exact Ev.now _
  | [c], hl =>
    have n2 : ¬ (([c].length : Nat) : Int) ≥ 2 := by simp
    simp only [B_toList, List.cons_ne_nil, if_false, B_size, if_neg n2]
    refine Ev.step (fun k => by rw [spec_l2Part.j0]) ?_
    simp only [Bool.false_eq_true, if_false, B_size, if_neg n2]
    refine Ev.step (fun k => by rw [spec_l2Part.j1]) ?_
    simp only [Bool.false_eq_true, if_false]
    refine ev_bind (spec_Digits 10 (by omega) (by omega) [c] hl) ?_
    exact Ev.now _
  | a :: b :: t, hl =>
    have n2 : (((a :: b :: t).length : Nat) : Int) ≥ 2 := by simp; omega
    have n0 : 0 < (((a :: b :: t).length : Nat) : Int) := by omega
    have n1 : 1 < (((a :: b :: t).length : Nat) : Int) := by omega
    have n3 : 1 ≤ (((a :: b :: t).length : Nat) : Int) := by omega
    have n4 : 2 ≤ (((a :: b :: t).length : Nat) : Int) := by omega
    have hlt : t.length ≤ 140737488355328 := by simp at hl; omega
    have hlt' : (b :: t).length ≤ 140737488355328 := by simp at hl ⊢; omega
    have j0 : ∀ x : Bool, (x = true ↔ (a = 48 ∧ (b = 120 ∨ b = 88))) → Ev (fun k => spec_l2Part.j0 k (B (a :: b :: t)) x) ((partNum (a :: b :: t)).getD (-1)) := by
      intro x hx
      refine Ev.step (fun k => by rw [spec_l2Part.j0]) ?_
      rw [partNum_two]
      by_cases h : x = true
      · simp only [if_pos h, B_drop2, if_pos (hx.1 h), B_size, if_pos n4]
        refine ev_bind (spec_Digits 16 (by omega) (by omega) t hlt) ?_
        exact Ev.now _
      · simp only [if_neg h, if_neg (fun q => h (hx.2 q)), B_size, if_pos n2, if_pos n0, bt_0]
        refine Ev.step (fun k => by rw [spec_l2Part.j1]) ?_
        by_cases e : a = 48
        · have e' : (((a.toNat : Nat) : Int) == 48) = true := by rw [beq_iff_eq]; exact (byte_eq a 48 (by decide)).2 e
          simp only [e', if_true, if_pos e, B_drop1, B_size, if_pos n3]
          refine ev_bind (spec_Digits 8 (by omega) (by omega) (b :: t) hlt') ?_
          exact Ev.now _
        · have e' : (((a.toNat : Nat) : Int) == 48) = false := by rw [beq_eq_false_iff_ne]; exact fun q => e ((byte_eq a 48 (by decide)).1 q)
          simp only [e', Bool.false_eq_true, if_false, if_neg e]
          refine ev_bind (spec_Digits 10 (by omega) (by omega) _ hl) ?_
          exact Ev.now _
    simp only [B_toList, List.cons_ne_nil, if_false, B_size, if_pos n2, if_pos n0, if_pos n1, bt_0, bt_1]
    by_cases e : a = 48
    · simp only [if_pos (show ((a.toNat : Nat) : Int) = 48 from (byte_eq a 48 (by decide)).2 e)]
      by_cases e2 : b = 120
      · simp only [if_pos (show ((b.toNat : Nat) : Int) = 120 from (byte_eq b 120 (by decide)).2 e2)]
        exact j0 true (by simp [e, e2])
      · simp only [if_neg (show ¬ ((b.toNat : Nat) : Int) = 120 from fun q => e2 ((byte_eq b 120 (by decide)).1 q))]
        refine j0 _ ?_
        rw [beq_iff_eq]
        have := byte_eq b 88 (by decide)
        constructor
        · intro q; exact ⟨e, Or.inr (this.1 q)⟩
        · rintro ⟨-, q | q⟩
          · exact absurd q e2
          · exact this.2 q
    · simp only [if_neg (show ¬ ((a.toNat : Nat) : Int) = 48 from fun q => e ((byte_eq a 48 (by decide)).1 q))]
      exact j0 false (by simp [e])

theorem impl_Hex (c : UInt8) : Ev (fun k => impl_hex.f k ((c.toNat : Nat) : Int)) (hexI c) := by
  have h255 := lt256 c
  unfold impl_hex.f
  have j1 : ∀ b : Bool, (b = decide (97 ≤ c.toNat ∧ c.toNat ≤ 102)) → ¬ (48 ≤ c.toNat ∧ c.toNat ≤ 57) → Ev (fun k => impl_hex.j1 k ((c.toNat : Nat) : Int) b) (hexI c) := by
    intro b hb h0
    refine ev_1 fun k => ?_
    simp only [impl_hex.j1]
    unfold hexI
    rw [if_neg h0]
    by_cases h1 : 97 ≤ c.toNat ∧ c.toNat ≤ 102
    · rw [hb, if_pos (by simpa using h1)]
      by_cases h2 : 65 ≤ c.toNat ∧ c.toNat ≤ 70
      · omega
      · first | (rw [if_pos h1]; congr 1; omega) | (rw [if_neg h2, if_pos h1]; congr 1; omega)
    · rw [hb, if_neg (by simpa using h1)]
      by_cases h2 : ((c.toNat : Nat) : Int) ≥ 65
      · rw [if_pos h2]
        by_cases h3 : ((c.toNat : Nat) : Int) ≤ 70
        · rw [if_pos h3]
          have h4 : 65 ≤ c.toNat ∧ c.toNat ≤ 70 := by omega
          first | (rw [if_pos h4]; congr 1; omega) | (rw [if_neg h1, if_pos h4]; congr 1; omega)
        · rw [if_neg h3]
          have h4 : ¬ (65 ≤ c.toNat ∧ c.toNat ≤ 70) := by omega
          first | rw [if_neg h4, if_neg h1] | rw [if_neg h1, if_neg h4]
      · rw [if_neg h2]
        have h4 : ¬ (65 ≤ c.toNat ∧ c.toNat ≤ 70) := by omega
        first | rw [if_neg h4, if_neg h1] | rw [if_neg h1, if_neg h4]
  have j0 : ∀ b : Bool, (b = decide (48 ≤ c.toNat ∧ c.toNat ≤ 57)) → Ev (fun k => impl_hex.j0 k ((c.toNat : Nat) : Int) b) (hexI c) := by
    intro b hb
    refine Ev.step (fun k => by rw [impl_hex.j0]) ?_
    by_cases h0 : 48 ≤ c.toNat ∧ c.toNat ≤ 57
    · simp only [if_pos (show b = true by rw [hb]; simpa using h0)]
      have : (((c.toNat : Nat) : Int) - 48) % 256 = hexI c := by unfold hexI; rw [if_pos h0]; omega
      rw [this]; exact Ev.now _
    · simp only [if_neg (show ¬ b = true by rw [hb]; simpa using h0)]
      by_cases h1 : ((c.toNat : Nat) : Int) ≥ 97
      · simp only [if_pos h1]; exact j1 _ (by congr 1; simp; omega) h0
      · simp only [if_neg h1]; exact j1 _ (by symm; simp; omega) h0
  by_cases h1 : ((c.toNat : Nat) : Int) ≥ 48
  · simp only [if_pos h1]; exact j0 _ (by congr 1; simp; omega)
  · simp only [if_neg h1]; exact j0 _ (by symm; simp; omega)
def ok (x : Option Int) : Int × Bool := match x with | some n => (n, true) | none => (0, false)
theorem impl_Digits_l0 (base : Int) (hb : 0 ≤ base) (hb' : base ≤ 16) (l : Bs) (hl : l.length ≤ 140737488355328) (d : Nat) : ∀ (i : Nat) (n : Int), i + d = l.length → 0 ≤ n → Ev (fun k => impl_labelNumber.l0 k (B l) base n (l.length : Int) i) (ok (dig base n (l.drop i))) := by
  induction d with
  | zero =>
    intro i n hi hn
    refine ev_1 fun k => ?_
    simp only [impl_labelNumber.l0]
    rw [if_neg (by omega), List.drop_eq_nil_of_le (by omega)]; rfl
  | succ d ih =>
    intro i n hi hn
    have hlt : i < l.length := by omega
    refine Ev.step (fun k => by rw [impl_labelNumber.l0]) ?_
    have hi0 : (0 : Int) ≤ (i : Int) := by omega
    have hi1 : (i : Int) < (l.length : Int) := by omega
    have hw : wrap64 ((i : Int) + 1) = ((i + 1 : Nat) : Int) := by rw [w64 (by omega) (by omega)]; rfl
    simp only [B_size, bt_B, Int.toNat_natCast, get_eq hlt, if_pos hi0, if_pos hi1, hw]
    refine ev_bind (impl_Hex _) ?_
    have hr := hexI_rng l[i]
    rw [List.drop_eq_getElem_cons hlt]
    unfold dig
    by_cases c1 : hexI l[i] < 0
    · simp only [if_pos c1, if_pos (show hexI l[i] < 0 ∨ hexI l[i] ≥ base ∨ n > 4294967295 from Or.inl c1)]; exact Ev.now _
    by_cases c2 : hexI l[i] ≥ base
    · simp only [if_neg c1, if_pos c2, if_pos (show hexI l[i] < 0 ∨ hexI l[i] ≥ base ∨ n > 4294967295 from Or.inr (Or.inl c2))]; exact Ev.now _
    by_cases c3 : n > 4294967295
    · simp only [if_neg c1, if_neg c2, if_pos c3, if_pos (show hexI l[i] < 0 ∨ hexI l[i] ≥ base ∨ n > 4294967295 from Or.inr (Or.inr c3))]; exact Ev.now _
    have hm := mul_rng hn (show n ≤ 4294967295 by omega) hb hb'
    have hv : wrap64 (wrap64 (base * n) + hexI l[i]) = n * base + hexI l[i] := by
      rw [Int.mul_comm base n, w64 (n := n * base) (by omega) (by omega), w64 (by omega) (by omega)]
    simp only [if_neg c1, if_neg c2, if_neg c3, if_neg (show ¬ (hexI l[i] < 0 ∨ hexI l[i] ≥ base ∨ n > 4294967295) by omega), hv]
    exact ih (i + 1) _ (by omega) (by omega)
theorem impl_Digits (base : Int) (hb : 0 ≤ base) (hb' : base ≤ 16) (l : Bs) (hl : l.length ≤ 140737488355328) : Ev (fun k => impl_labelNumber.j1 k (B l) base) (ok (dig base 0 l)) := by
  refine Ev.step (fun k => by rw [impl_labelNumber.j1]) ?_
  rw [B_size]
  exact impl_Digits_l0 base hb hb' l hl l.length 0 0 (by omega) (by omega)
theorem hasPrefix2 (x y : UInt8) (l : Bs) : strings_HasPrefix.f (B l) (B [x, y]) = some (l.take 2 == [x, y]) := by
  unfold strings_HasPrefix.f stringslite_HasPrefix.f
  simp only [B_size, B_toList, B_extract, List.length_cons, List.length_nil, List.drop_zero]
  by_cases h : 2 ≤ l.length
  · rw [if_pos (by omega), if_pos (by omega), if_pos (by omega)]
    simp
  · rw [if_neg (by omega)]
    simp only [Option.bind_some]
    congr 1
    symm
    rw [beq_eq_false_iff_ne]
    intro e
    have := congrArg List.length e
    simp at this
    omega
theorem impl_Number (l : Bs) (hl : l.length ≤ 140737488355328) : Ev (fun k => impl_labelNumber.f k (B l)) (ok (partNum l)) := by
  unfold impl_labelNumber.f
  match l, hl with
  | [], hl => simp only [B_toList, if_true]; exact Ev.now _
  | [c], hl =>
    have n0 : 0 < (([c].length : Nat) : Int) := by simp
    have n1 : ¬ (([c].length : Nat) : Int) > 1 := by simp
    have p1 : strings_HasPrefix.f (B [c]) (⟨#[48, 120]⟩ : ByteArray) = some false := by rw [lit_B [48, 120], hasPrefix2]; simp
    have p2 : strings_HasPrefix.f (B [c]) (⟨#[48, 88]⟩ : ByteArray) = some false := by rw [lit_B [48, 88], hasPrefix2]; simp
    simp only [B_toList, List.cons_ne_nil, if_false, p1, p2, Option.bind_some, Bool.false_eq_true]
    refine Ev.step (fun k => by rw [impl_labelNumber.j0]) ?_
    simp only [Bool.false_eq_true, if_false, B_size, if_pos n0, if_neg n1]
    have : Ev (fun k => impl_labelNumber.j1 k (B [c]) 10) (ok (partNum [c])) := impl_Digits 10 (by omega) (by omega) [c] hl
    by_cases e : bt (B [c]) 0 = 48
    · simp only [if_pos e]; exact this
    · simp only [if_neg e]; exact this
  | a :: b :: t, hl =>
    have n0 : 0 < (((a :: b :: t).length : Nat) : Int) := by simp; omega
    have n1 : (((a :: b :: t).length : Nat) : Int) > 1 := by simp; omega
    have n3 : 1 ≤ (((a :: b :: t).length : Nat) : Int) := by omega
    have n4 : 2 ≤ (((a :: b :: t).length : Nat) : Int) := by simp; omega
    have hlt : t.length ≤ 140737488355328 := by simp at hl; omega
    have hlt' : (b :: t).length ≤ 140737488355328 := by simp at hl ⊢; omega
    have p1 : strings_HasPrefix.f (B (a :: b :: t)) (⟨#[48, 120]⟩ : ByteArray) = some (decide (a = 48 ∧ b = 120)) := by rw [lit_B [48, 120], hasPrefix2]; congr 1; simp [Bool.beq_eq_decide_eq]
    have p2 : strings_HasPrefix.f (B (a :: b :: t)) (⟨#[48, 88]⟩ : ByteArray) = some (decide (a = 48 ∧ b = 88)) := by rw [lit_B [48, 88], hasPrefix2]; congr 1; simp [Bool.beq_eq_decide_eq]
    have j0 : ∀ x : Bool, (x = true ↔ (a = 48 ∧ (b = 120 ∨ b = 88))) → Ev (fun k => impl_labelNumber.j0 k (B (a :: b :: t)) 10 x) (ok (partNum (a :: b :: t))) := by
      intro x hx
      refine Ev.step (fun k => by rw [impl_labelNumber.j0]) ?_
      rw [partNum_two]
      by_cases h : x = true
      · simp only [if_pos h, B_drop2, if_pos (hx.1 h), B_size, if_pos n4]
        exact impl_Digits 16 (by omega) (by omega) t hlt
      · simp only [if_neg h, if_neg (fun q => h (hx.2 q)), B_size, if_pos n0, bt_0]
        by_cases e : a = 48
        · simp only [if_pos (show ((a.toNat : Nat) : Int) = 48 from (byte_eq a 48 (by decide)).2 e), if_pos e, B_drop1, B_size, if_pos n1, if_pos n3]
          exact impl_Digits 8 (by omega) (by omega) (b :: t) hlt'
        · simp only [if_neg (show ¬ ((a.toNat : Nat) : Int) = 48 from fun q => e ((byte_eq a 48 (by decide)).1 q)), if_neg e]
          exact impl_Digits 10 (by omega) (by omega) _ hl
    simp only [B_toList, List.cons_ne_nil, if_false, p1, p2, Option.bind_some]
    by_cases e1 : a = 48 ∧ b = 120
    · simp only [decide_eq_true e1, if_true]
      exact j0 true (by simp [e1.1, e1.2])
    · simp only [decide_eq_false e1, Bool.false_eq_true, if_false]
      refine j0 _ ?_
      rw [decide_eq_true_eq]
      constructor
      · rintro ⟨h1, h2⟩; exact ⟨h1, Or.inr h2⟩
      · rintro ⟨h1, h2 | h2⟩
        · exact absurd ⟨h1, h2⟩ e1
        · exact ⟨h1, h2⟩

/-- A letter, a figure or one of two signs. -/
def hc (c : UInt8) : Bool := decide ((97 ≤ c.toNat ∧ c.toNat ≤ 122) ∨ (48 ≤ c.toNat ∧ c.toNat ≤ 57) ∨ c.toNat = 45 ∨ c.toNat = 95)
theorem hc_iff (c : UInt8) : hc c = true ↔ ((97 ≤ c.toNat ∧ c.toNat ≤ 122) ∨ (48 ≤ c.toNat ∧ c.toNat ≤ 57) ∨ c.toNat = 45 ∨ c.toNat = 95) := by unfold hc; simp
def dg (c : UInt8) : Bool := decide (48 ≤ c.toNat ∧ c.toNat ≤ 57)
theorem dg_iff (c : UInt8) : dg c = true ↔ (48 ≤ c.toNat ∧ c.toNat ≤ 57) := by unfold dg; simp
theorem isDigit_f (c : UInt8) : impl_isDigit.f ((c.toNat : Nat) : Int) = some (dg c) := by
  unfold impl_isDigit.f
  by_cases h : ((c.toNat : Nat) : Int) ≥ 48
  · rw [if_pos h]; exact congrArg some (decide_eq_decide.2 (by omega))
  · rw [if_neg h]; exact congrArg some (decide_eq_false (by omega)).symm
theorem in_f (n a b : Int) : impl_in.f n a b = some (decide (a ≤ n ∧ n ≤ b)) := by
  unfold impl_in.f
  by_cases h : n ≥ a
  · rw [if_pos h]; congr 1; simp; omega
  · rw [if_neg h]; congr 1; symm; simp; omega
def goodFrom (n : Nat) : Nat → List Bs → Bool
  | _, [] => true
  | i, p :: r => !(p.isEmpty && (decide (i + 1 < n) || decide (i = 0))) && p.all hc && goodFrom n (i + 1) r
theorem ev_eq {α : Type} {g f : Nat → Option α} {r : α} (h : Ev f r) (e : ∀ k, g k = f k) : Ev g r := by
  obtain ⟨K, hK⟩ := h
  exact ⟨K, fun k hk => by rw [e k]; exact hK k hk⟩
set_option maxHeartbeats 1000000 in
theorem name_l1 (s : ByteArray) (P : List Bs) (i : Nat) (hi : i < P.length) (hP : P.length ≤ 140737488355328) (hp : P[i].length ≤ 140737488355328) (r : Bool) (next : Ev (fun k => spec_l2Name.l0 k s (P.map B) ((i + 1 : Nat) : Int)) r) (d : Nat) : ∀ j : Nat, j + d = P[i].length → Ev (fun k => spec_l2Name.l1 k s (P.map B) i j) ((P[i].drop j).all hc && r) := by
  have hi0 : (0 : Int) ≤ (i : Int) := by omega
  have hi1 : (i : Int) < (P.length : Int) := by omega
  have hw : wrap64 ((i : Int) + 1) = ((i + 1 : Nat) : Int) := by rw [w64 (by omega) (by omega)]; rfl
  induction d with
  | zero =>
    intro j hj
    refine Ev.step (fun k => by rw [spec_l2Name.l1]) ?_
    simp only [List.length_map, if_pos hi1, if_pos hi0, rd_parts P i hi, B_size, if_neg (show ¬ (j : Int) < (P[i].length : Int) by omega), hw]
    rw [List.drop_eq_nil_of_le (by omega)]
    simpa using next
  | succ d ih =>
    intro j hj
    have hlt : j < P[i].length := by omega
    have hj0 : (0 : Int) ≤ (j : Int) := by omega
    have hj1 : (j : Int) < (P[i].length : Int) := by omega
    have hwj : wrap64 ((j : Int) + 1) = ((j + 1 : Nat) : Int) := by rw [w64 (by omega) (by omega)]; rfl
    have e := ih (j + 1) (by omega)
    refine Ev.step (fun k => by rw [spec_l2Name.l1]) ?_
    simp only [List.length_map, if_pos hi1, if_pos hi0, rd_parts P i hi, B_size, if_pos hj1, if_pos hj0, hwj, bt_B, Int.toNat_natCast, get_eq hlt]
    rw [List.drop_eq_getElem_cons hlt, List.all_cons]
    by_cases h : hc P[i][j] = true
    · rw [h, Bool.true_and]
      rw [hc_iff] at h
      refine ev_eq e fun k => ?_
      revert h; generalize P[i][j].toNat = n; intro h
      repeat' (first | rfl | omega | split)
    · rw [Bool.not_eq_true _ |>.mp h, Bool.false_and, Bool.false_and]
      rw [hc_iff] at h
      refine ev_of fun k => ?_
      revert h; generalize P[i][j].toNat = n; intro h
      repeat' (first | rfl | omega | split)
theorem name_l0 (s : ByteArray) (P : List Bs) (hP : P.length ≤ 140737488355328) (hp : ∀ x ∈ P, x.length ≤ 140737488355328) (d : Nat) : ∀ i : Nat, i + d = P.length → Ev (fun k => spec_l2Name.l0 k s (P.map B) i) (goodFrom P.length i (P.drop i) && decide (1 ≤ s.size ∧ s.size ≤ 60)) := by
  induction d with
  | zero =>
    intro i hi
    refine ev_1 fun k => ?_
    simp only [spec_l2Name.l0, List.length_map]
    rw [if_neg (by omega), In_f, Option.bind_some, List.drop_eq_nil_of_le (by omega)]
    simp only [goodFrom, Bool.true_and]
    congr 1
    simp only [decide_eq_decide]
    omega
  | succ d ih =>
    intro i hi
    have hlt : i < P.length := by omega
    have hi0 : (0 : Int) ≤ (i : Int) := by omega
    have hi1 : (i : Int) < (P.length : Int) := by omega
    have hwl : wrap64 ((P.length : Int) - 1) = ((P.length - 1 : Nat) : Int) := by rw [w64 (by omega) (by omega)]; omega
    have e := ih (i + 1) (by omega)
    have e1 := name_l1 s P i hlt hP (hp _ (List.getElem_mem hlt)) _ e P[i].length 0 (by omega)
    refine Ev.step (fun k => by rw [spec_l2Name.l0]) ?_
    simp only [List.length_map, if_pos hi1, if_pos hi0, rd_parts P i hlt, B_toList, hwl]
    rw [List.drop_eq_getElem_cons hlt]
    simp only [goodFrom]
    have j1 : ∀ b : Bool, b = (P[i].isEmpty && (decide (i + 1 < P.length) || decide (i = 0))) → Ev (fun k => spec_l2Name.j1 k s (P.map B) i b) ((!(P[i].isEmpty && (decide (i + 1 < P.length) || decide (i = 0))) && P[i].all hc && goodFrom P.length (i + 1) (P.drop (i + 1))) && decide (1 ≤ s.size ∧ s.size ≤ 60)) := by
      intro b hb
      refine Ev.step (fun k => by rw [spec_l2Name.j1]) ?_
      rw [← hb]
      cases b with
      | true => simp only [if_true, Bool.not_true, Bool.false_and]; exact Ev.now _
      | false =>
        simp only [Bool.false_eq_true, if_false, Bool.not_false, Bool.true_and, Bool.and_assoc]
        simpa using e1
    by_cases h1 : P[i] = []
    · simp only [if_pos h1]
      by_cases h2 : (i : Int) < ((P.length - 1 : Nat) : Int)
      · simp only [if_pos h2]; exact j1 _ (by rw [h1]; simp; omega)
      · simp only [if_neg h2]
        refine j1 _ ?_
        rw [h1]
        apply bool_eq
        simp only [beq_iff_eq, List.isEmpty_nil, Bool.true_and, Bool.or_eq_true, decide_eq_true_eq]
        omega
    · simp only [if_neg h1]
      exact j1 _ (by simp [h1])
theorem emp_beq (p : Bs) : (([] : Bs) == p) = p.isEmpty := by cases p <;> rfl
theorem good_rest (n : Nat) : ∀ (r : List Bs) (i : Nat), 0 < i → i + r.length = n → goodFrom n i r = (!r.dropLast.contains [] && r.all (·.all hc))
  | [], i, h0, h => by simp [goodFrom]
  | [p], i, h0, h => by
    simp only [List.length_cons, List.length_nil] at h
    simp only [goodFrom, decide_eq_false (show ¬ i + 1 < n by omega), decide_eq_false (show ¬ i = 0 by omega)]
    simp
  | p :: q :: r, i, h0, h => by
    simp only [List.length_cons] at h
    have ih := good_rest n (q :: r) (i + 1) (by omega) (by simp only [List.length_cons]; omega)
    rw [goodFrom, ih, decide_eq_true (show i + 1 < n by omega), List.dropLast_cons_of_ne_nil (show q :: r ≠ [] by simp), List.contains_cons, emp_beq, List.all_cons (a := p)]
    generalize p.isEmpty = a, p.all hc = b, (q :: r).dropLast.contains [] = c, (q :: r).all (·.all hc) = e
    cases a <;> cases b <;> cases c <;> cases e <;> rfl
theorem good_parts (l : Bs) : goodFrom (splitC 46 l).length 0 (splitC 46 l) = (!(parts l).contains [] && (splitC 46 l).all (·.all hc)) := by
  unfold parts
  have hne := splitC_ne 46 l
  revert hne
  generalize splitC 46 l = P
  intro hne
  match P, hne with
  | [p], _ =>
    simp [goodFrom]
    cases p <;> simp
  | p :: q :: r, _ =>
    have ih := good_rest (p :: q :: r).length (q :: r) 1 (by omega) (by simp only [List.length_cons]; omega)
    rw [goodFrom, ih, decide_eq_true (show 0 + 1 < (p :: q :: r).length by simp only [List.length_cons]; omega)]
    have hl : (p :: q :: r).getLast? = (q :: r).getLast? := List.getLast?_cons_cons
    rw [hl]
    by_cases hz : (q :: r).getLast? = some []
    · rw [if_pos ⟨by simp, hz⟩, List.dropLast_cons_of_ne_nil (show q :: r ≠ [] by simp), List.contains_cons, emp_beq, List.all_cons (a := p)]
      generalize p.isEmpty = a, p.all hc = b, (q :: r).dropLast.contains [] = c, (q :: r).all (·.all hc) = e
      cases a <;> cases b <;> cases c <;> cases e <;> rfl
    · rw [if_neg (fun h => hz h.2)]
      have hd : (q :: r).contains [] = (q :: r).dropLast.contains [] := by
        obtain ⟨m, z, hmz⟩ : ∃ m z, q :: r = m ++ [z] := ⟨_, _, (List.dropLast_concat_getLast (show q :: r ≠ [] by simp)).symm⟩
        rw [hmz] at hz ⊢
        have hz' : ¬ z = [] := fun e => hz (by simp [e])
        apply bool_eq
        simp [List.dropLast_concat, Ne.symm hz']
      rw [show (p :: q :: r).contains [] = (([] : Bs) == p || (q :: r).contains []) from List.contains_cons, emp_beq, hd, List.all_cons (a := p)]
      generalize p.isEmpty = a, p.all hc = b, (q :: r).dropLast.contains [] = c, (q :: r).all (·.all hc) = e
      cases a <;> cases b <;> cases c <;> cases e <;> rfl
theorem splitC_all (Q : UInt8 → Bool) (c : UInt8) : ∀ l : Bs, ((splitC c l).all (·.all Q)) = l.all (fun x => Q x || decide (x = c))
  | [] => by simp [splitC]
  | y :: t => by
    have ih := splitC_all Q c t
    unfold splitC
    by_cases e : y = c
    · rw [if_pos e]; simp [ih, e]
    · rw [if_neg e]
      have hne := splitC_ne c t
      revert ih hne
      cases splitC c t with
      | nil => intro _ h; exact absurd rfl h
      | cons a r =>
        intro ih _
        simp only [List.all_cons] at ih ⊢
        rw [← ih]
        simp [e, Bool.and_assoc]
def isHost (l : Bs) : Bool := l.all (fun x => hc x || decide (x = 46)) && decide (1 ≤ l.length ∧ l.length ≤ 60) && !(parts l).contains []
theorem spec_Name (l : Bs) (hl : l.length ≤ 8796093022207) : Ev (fun k => spec_l2Name.f k (B l)) (isHost l) := by
  unfold spec_l2Name.f
  refine ev_bind (spec_Cut 46 46 rfl (by decide) l hl) ?_
  have h1 := splitC_len_le 46 l
  have := name_l0 (B l) (splitC 46 l) (by omega) (fun x hx => by have := splitC_mem_len 46 l x hx; omega) (splitC 46 l).length 0 (by omega)
  rw [List.drop_zero, good_parts, splitC_all, B_size] at this
  have e : isHost l = (!(parts l).contains [] && l.all (fun x => hc x || decide (x = 46)) && decide (1 ≤ l.length ∧ l.length ≤ 60)) := by
    unfold isHost
    cases (parts l).contains [] <;> cases l.all (fun x => hc x || decide (x = 46)) <;> cases decide (1 ≤ l.length ∧ l.length ≤ 60) <;> rfl
  rw [e]
  exact this
theorem impl_Index (P : List Bs) (x : Bs) (hP : P.length ≤ 140737488355328) (d : Nat) : ∀ i : Nat, i + d = P.length → ∃ n : Int, Ev (fun k => slices_Index_string_string.l0 k (P.map B) (B x) (P.length : Int) i) n ∧ (decide (n ≥ 0)) = (P.drop i).contains x := by
  induction d with
  | zero =>
    intro i hi
    refine ⟨-1, ev_1 fun k => ?_, ?_⟩
    · simp only [slices_Index_string_string.l0]
      rw [if_neg (by omega)]
    · rw [List.drop_eq_nil_of_le (by omega)]; rfl
  | succ d ih =>
    intro i hi
    have hlt : i < P.length := by omega
    have hi0 : (0 : Int) ≤ (i : Int) := by omega
    have hi1 : (i : Int) < (P.length : Int) := by omega
    have hw : wrap64 ((i : Int) + 1) = ((i + 1 : Nat) : Int) := by rw [w64 (by omega) (by omega)]; rfl
    by_cases e : x = P[i]
    · refine ⟨i, ?_, ?_⟩
      · refine Ev.step (fun k => by rw [slices_Index_string_string.l0]) ?_
        simp only [List.length_map, if_pos hi1, if_pos hi0, rd_parts P i hlt, B_toList, if_pos e]
        exact Ev.now _
      · rw [List.drop_eq_getElem_cons hlt, ← e]; simp
    · obtain ⟨n, h1, h2⟩ := ih (i + 1) (by omega)
      refine ⟨n, ?_, ?_⟩
      · refine Ev.step (fun k => by rw [slices_Index_string_string.l0]) ?_
        simp only [List.length_map, if_pos hi1, if_pos hi0, rd_parts P i hlt, B_toList, if_neg e, hw]
        exact h1
      · rw [h2, List.drop_eq_getElem_cons hlt, List.contains_cons, beq_eq_false_iff_ne.2 e, Bool.false_or]
theorem impl_Contains (P : List Bs) (x : Bs) (hP : P.length ≤ 140737488355328) : Ev (fun k => slices_Contains_string_string.f k (P.map B) (B x)) (P.contains x) := by
  obtain ⟨n, h1, h2⟩ := impl_Index P x hP P.length 0 (by omega)
  unfold slices_Contains_string_string.f slices_Index_string_string.f
  rw [List.length_map]
  refine ev_bind h1 ?_
  rw [h2, List.drop_zero]
  exact Ev.now _
set_option maxHeartbeats 1000000 in
theorem impl_Host (l : Bs) (hl : l.length < 4294967281) : Ev (fun k => impl_isHostName.f k (B l)) (isHost l) := by
  unfold impl_isHostName.f
  have go : ∀ (d i : Nat), i + d = l.length → Ev (fun k => impl_isHostName.l0 k (B l) (l.length : Int) i) ((l.drop i).all (fun x => hc x || decide (x = 46)) && (decide (1 ≤ l.length ∧ l.length ≤ 60) && !(parts l).contains [])) := by
    intro d
    induction d with
    | zero =>
      intro i hi
      refine Ev.step (fun k => by rw [impl_isHostName.l0]) ?_
      simp only [if_neg (show ¬ (i : Int) < (l.length : Int) by omega), in_f, Option.bind_some, B_size, impl_Labels l hl]
      rw [List.drop_eq_nil_of_le (by omega)]
      simp only [List.all_nil, Bool.true_and, decide_eq_true_eq]
      by_cases h : 1 ≤ l.length ∧ l.length ≤ 60
      · simp only [if_pos (show (1 : Int) ≤ (l.length : Int) ∧ (l.length : Int) ≤ 60 by omega), decide_eq_true h, Bool.true_and]
        refine ev_bind (impl_Contains (parts l) [] (by have := parts_len l; omega)) ?_
        exact Ev.now _
      · simp only [if_neg (show ¬ ((1 : Int) ≤ (l.length : Int) ∧ (l.length : Int) ≤ 60) by omega), decide_eq_false h, Bool.false_and]
        exact Ev.now _
    | succ d ih =>
      intro i hi
      have hlt : i < l.length := by omega
      have hi0 : (0 : Int) ≤ (i : Int) := by omega
      have hi1 : (i : Int) < (l.length : Int) := by omega
      have hw : wrap64 ((i : Int) + 1) = ((i + 1 : Nat) : Int) := by rw [w64 (by omega) (by omega)]; rfl
      have e := ih (i + 1) (by omega)
      refine Ev.step (fun k => by rw [impl_isHostName.l0]) ?_
      simp only [B_size, if_pos hi1, if_pos hi0, hw, bt_B, Int.toNat_natCast, get_eq hlt, isDigit_f, Option.bind_some, dg_iff]
      rw [List.drop_eq_getElem_cons hlt, List.all_cons]
      have hq : (hc l[i] || decide (l[i] = 46)) = true ↔ ((97 ≤ l[i].toNat ∧ l[i].toNat ≤ 122) ∨ (48 ≤ l[i].toNat ∧ l[i].toNat ≤ 57) ∨ l[i].toNat = 45 ∨ l[i].toNat = 95 ∨ l[i].toNat = 46) := by
        rw [Bool.or_eq_true, hc_iff, decide_eq_true_eq]
        have : l[i] = 46 ↔ l[i].toNat = 46 := by rw [← UInt8.toNat_inj]; rfl
        rw [this]; omega
      by_cases h : (hc l[i] || decide (l[i] = 46)) = true
      · rw [h, Bool.true_and]
        rw [hq] at h
        refine ev_eq e fun k => ?_
        clear hq
        revert h; generalize l[i].toNat = n; intro h
        repeat' (first | rfl | omega | split)
      · rw [Bool.not_eq_true _ |>.mp h, Bool.false_and, Bool.false_and]
        rw [hq] at h
        refine ev_of fun k => ?_
        clear hq
        revert h; generalize l[i].toNat = n; intro h
        repeat' (first | rfl | omega | split)
  have := go l.length 0 (by omega)
  rw [List.drop_zero, ← Bool.and_assoc] at this
  rw [B_size]
  exact this

/-- Whether the last part is a number. -/
def numEnd (q : Bs) : Bool := if q = [] then false else if q.take 2 = [48, 120] ∨ q.take 2 = [48, 88] then (partNum q).isSome else q.all dg
def lastOf (l : Bs) : Bs := (parts l).getLastD []
theorem last_rd (l : Bs) (hl : l.length ≤ 8796093022207) : wrap64 (((parts l).length : Int) - 1) = (((parts l).length - 1 : Nat) : Int) ∧ rdOf ByteArray.empty ((parts l).map B) (((parts l).length - 1 : Nat) : Int) = B (lastOf l) ∧ 0 < (parts l).length ∧ (lastOf l).length ≤ l.length := by
  have h1 := parts_len l
  have h2 := List.length_pos_iff.2 (parts_ne l)
  have e : lastOf l = (parts l)[(parts l).length - 1]'(by omega) := by
    unfold lastOf
    rw [List.getLastD_eq_getLast?, List.getLast?_eq_getElem?, List.getElem?_eq_getElem (by omega)]; rfl
  refine ⟨by rw [w64 (by omega) (by omega)]; omega, ?_, h2, ?_⟩
  · rw [rd_parts _ _ (by omega), e]
  · rw [e]; exact parts_mem_len l _ (List.getElem_mem _)
theorem take_two (x y : UInt8) (q : Bs) : q.take 2 = [x, y] ↔ ∃ t, q = x :: y :: t := by
  match q with
  | [] => simp
  | [a] => simp
  | a :: b :: t => simp
theorem numEnd_spec (q : Bs) (h : q ≠ []) : numEnd q = (q.all dg || (decide (q.take 2 = [48, 120] ∨ q.take 2 = [48, 88]) && (partNum q).isSome)) := by
  unfold numEnd
  rw [if_neg h]
  by_cases hp : q.take 2 = [48, 120] ∨ q.take 2 = [48, 88]
  · rw [if_pos hp, decide_eq_true hp, Bool.true_and]
    have : q.all dg = false := by
      rcases hp with hp | hp
      · obtain ⟨t, rfl⟩ := (take_two _ _ _).1 hp; simp [dg]
      · obtain ⟨t, rfl⟩ := (take_two _ _ _).1 hp; simp [dg]
    rw [this, Bool.false_or]
  · rw [if_neg hp, decide_eq_false hp, Bool.false_and, Bool.or_false]
theorem getD_ge (q : Bs) : decide ((partNum q).getD (-1) ≥ 0) = (partNum q).isSome := by
  cases h : partNum q with
  | none => rfl
  | some n => have := partNum_rng q n h; simp; omega
theorem spec_Ends_l0 (q : Bs) (hq : q ≠ []) (hl : q.length ≤ 140737488355328) (d : Nat) : ∀ (i : Nat) (b : Bool), i + d = q.length → Ev (fun k => spec_l2Ends.l0 k (B q) b i) ((b && (q.drop i).all dg) || (decide (q.take 2 = [48, 120] ∨ q.take 2 = [48, 88]) && (partNum q).isSome)) := by
  induction d with
  | zero =>
    intro i b hi
    refine Ev.step (fun k => by rw [spec_l2Ends.l0]) ?_
    simp only [B_size, if_neg (show ¬ (i : Int) < (q.length : Int) by omega)]
    rw [List.drop_eq_nil_of_le (by omega), List.all_nil, Bool.and_true]
    cases b with
    | true => simp only [if_true, Bool.true_or]; exact Ev.now _
    | false =>
      simp only [Bool.false_eq_true, if_false, Bool.false_or]
      match q, hq, hl with
      | [a], _, _ =>
        simp only [List.length_cons, List.length_nil, if_neg (show ¬ (((0 + 1 : Nat) : Nat) : Int) ≥ 2 by omega)]
        have : (decide ([a].take 2 = [48, 120] ∨ [a].take 2 = [48, 88]) && (partNum [a]).isSome) = false := by simp
        rw [this]; exact Ev.now _
      | a :: c :: t, _, hl =>
        have n2 : (((a :: c :: t).length : Nat) : Int) ≥ 2 := by simp only [List.length_cons]; omega
        have n0 : 0 < (((a :: c :: t).length : Nat) : Int) := by omega
        have n1 : 1 < (((a :: c :: t).length : Nat) : Int) := by omega
        simp only [if_pos n2, if_pos n0, if_pos n1, bt_0, bt_1]
        have ht : ((a :: c :: t).take 2 = [48, 120] ∨ (a :: c :: t).take 2 = [48, 88]) ↔ (a = 48 ∧ (c = 120 ∨ c = 88)) := by
          simp only [List.take, List.cons.injEq, and_true]
          constructor
          · rintro (⟨x, y⟩ | ⟨x, y⟩)
            · exact ⟨x, Or.inl y⟩
            · exact ⟨x, Or.inr y⟩
          · rintro ⟨x, y | y⟩
            · exact Or.inl ⟨x, y⟩
            · exact Or.inr ⟨x, y⟩
        have sp := spec_Part (a :: c :: t) hl
        by_cases e : a = 48
        · simp only [if_pos (show ((a.toNat : Nat) : Int) = 48 from (byte_eq a 48 (by decide)).2 e)]
          by_cases e2 : c = 120
          · simp only [if_pos (show ((c.toNat : Nat) : Int) = 120 from (byte_eq c 120 (by decide)).2 e2)]
            rw [decide_eq_true (ht.2 ⟨e, Or.inl e2⟩), Bool.true_and]
            refine ev_bind sp ?_
            rw [getD_ge]; exact Ev.now _
          · simp only [if_neg (show ¬ ((c.toNat : Nat) : Int) = 120 from fun z => e2 ((byte_eq c 120 (by decide)).1 z))]
            by_cases e3 : c = 88
            · simp only [if_pos (show ((c.toNat : Nat) : Int) = 88 from (byte_eq c 88 (by decide)).2 e3)]
              rw [decide_eq_true (ht.2 ⟨e, Or.inr e3⟩), Bool.true_and]
              refine ev_bind sp ?_
              rw [getD_ge]; exact Ev.now _
            · simp only [if_neg (show ¬ ((c.toNat : Nat) : Int) = 88 from fun z => e3 ((byte_eq c 88 (by decide)).1 z))]
              rw [decide_eq_false (fun z => (ht.1 z).2.elim e2 e3), Bool.false_and]; exact Ev.now _
        · simp only [if_neg (show ¬ ((a.toNat : Nat) : Int) = 48 from fun z => e ((byte_eq a 48 (by decide)).1 z))]
          rw [decide_eq_false (fun z => e (ht.1 z).1), Bool.false_and]; exact Ev.now _
  | succ d ih =>
    intro i b hi
    have hlt : i < q.length := by omega
    have hi0 : (0 : Int) ≤ (i : Int) := by omega
    have hi1 : (i : Int) < (q.length : Int) := by omega
    have hw : wrap64 ((i : Int) + 1) = ((i + 1 : Nat) : Int) := by rw [w64 (by omega) (by omega)]; rfl
    refine Ev.step (fun k => by rw [spec_l2Ends.l0]) ?_
    simp only [B_size, if_pos hi1, if_pos hi0, hw, bt_B, Int.toNat_natCast, get_eq hlt]
    rw [List.drop_eq_getElem_cons hlt, List.all_cons]
    cases b with
    | false =>
      simp only [Bool.false_eq_true, if_false, Bool.false_and]
      have := ih (i + 1) false (by omega)
      simpa using this
    | true =>
      simp only [if_true, Bool.true_and]
      have := ih (i + 1) (dg q[i]) (by omega)
      by_cases h : ((q[i].toNat : Nat) : Int) ≥ 48
      · simp only [if_pos h]
        rw [show decide (((q[i].toNat : Nat) : Int) ≤ 57) = dg q[i] by unfold dg; congr 1; simp; omega]
        exact this
      · simp only [if_neg h]
        rw [show dg q[i] = false by unfold dg; simp; omega] at this ⊢
        exact this
theorem spec_EndsNum (l : Bs) (hl : l.length ≤ 8796093022207) : Ev (fun k => spec_l2Ends.f k (B l)) (numEnd (lastOf l)) := by
  unfold spec_l2Ends.f
  obtain ⟨h1, h2, h3, h4⟩ := last_rd l hl
  refine ev_bind (spec_Parts l hl) ?_
  simp only [List.length_map, h1, h2, if_pos (show (0 : Int) ≤ (((parts l).length - 1 : Nat) : Int) by omega), if_pos (show (((parts l).length - 1 : Nat) : Int) < ((parts l).length : Int) by omega), B_toList]
  by_cases h : lastOf l = []
  · simp only [if_pos h]
    rw [show numEnd (lastOf l) = false by unfold numEnd; rw [if_pos h]]
    exact Ev.now _
  · simp only [if_neg h]
    rw [numEnd_spec _ h]
    have := spec_Ends_l0 (lastOf l) h (by omega) (lastOf l).length 0 true (by omega)
    simpa using this
theorem impl_EndsNum (l : Bs) (hl : l.length < 4294967281) : Ev (fun k => impl_endsInNumber.f k (B l)) (numEnd (lastOf l)) := by
  unfold impl_endsInNumber.f
  obtain ⟨h1, h2, h3, h4⟩ := last_rd l (by omega)
  simp only [impl_Labels l hl, Option.bind_some, List.length_map, h1, h2, if_pos (show (0 : Int) ≤ (((parts l).length - 1 : Nat) : Int) by omega), if_pos (show (((parts l).length - 1 : Nat) : Int) < ((parts l).length : Int) by omega), B_toList]
  revert h4
  generalize lastOf l = q
  intro h4
  by_cases h : q = []
  · simp only [if_pos h]
    rw [show numEnd q = false by unfold numEnd; rw [if_pos h]]
    exact Ev.now _
  simp only [if_neg h]
  have p1 : strings_HasPrefix.f (B q) (⟨#[48, 120]⟩ : ByteArray) = some (q.take 2 == [48, 120]) := hasPrefix2 48 120 q
  have p2 : strings_HasPrefix.f (B q) (⟨#[48, 88]⟩ : ByteArray) = some (q.take 2 == [48, 88]) := hasPrefix2 48 88 q
  simp only [p1, p2, Option.bind_some, beq_iff_eq]
  have j0 : ∀ b : Bool, (b = true ↔ (q.take 2 = [48, 120] ∨ q.take 2 = [48, 88])) → Ev (fun k => impl_endsInNumber.j0 k (B q) b) (numEnd q) := by
    intro b hb
    refine Ev.step (fun k => by rw [impl_endsInNumber.j0]) ?_
    unfold numEnd
    rw [if_neg h]
    by_cases hp : q.take 2 = [48, 120] ∨ q.take 2 = [48, 88]
    · simp only [if_pos (hb.2 hp), if_pos hp]
      refine ev_bind (impl_Number q (by omega)) ?_
      rw [show (ok (partNum q)).2 = (partNum q).isSome by unfold ok; cases partNum q <;> rfl]
      exact Ev.now _
    · simp only [if_neg (fun z => hp (hb.1 z)), if_neg hp]
      have go : ∀ (d i : Nat), i + d = q.length → Ev (fun k => impl_endsInNumber.l0 k (B q) (q.length : Int) i) ((q.drop i).all dg) := by
        intro d
        induction d with
        | zero =>
          intro i hi
          refine ev_1 fun k => ?_
          simp only [impl_endsInNumber.l0]
          rw [if_neg (by omega), List.drop_eq_nil_of_le (by omega)]; rfl
        | succ d ih =>
          intro i hi
          have hlt : i < q.length := by omega
          have hi0 : (0 : Int) ≤ (i : Int) := by omega
          have hi1 : (i : Int) < (q.length : Int) := by omega
          have hw : wrap64 ((i : Int) + 1) = ((i + 1 : Nat) : Int) := by rw [w64 (by omega) (by omega)]; rfl
          have e := ih (i + 1) (by omega)
          refine Ev.step (fun k => by rw [impl_endsInNumber.l0]) ?_
          simp only [B_size, if_pos hi1, if_pos hi0, hw, bt_B, Int.toNat_natCast, get_eq hlt, isDigit_f, Option.bind_some]
          rw [List.drop_eq_getElem_cons hlt, List.all_cons]
          cases hd : dg q[i] with
          | true => simp only [if_true, Bool.true_and]; exact e
          | false => simp only [Bool.false_eq_true, if_false, Bool.false_and]; exact Ev.now _
      have := go q.length 0 (by omega)
      rw [List.drop_zero] at this
      rw [B_size]; exact this
  by_cases c1 : q.take 2 = [48, 120]
  · simp only [if_pos c1]; exact j0 true (by simp [c1])
  · simp only [if_neg c1]
    refine j0 _ ?_
    rw [beq_iff_eq]
    constructor
    · exact Or.inr
    · rintro (z | z)
      · exact absurd z c1
      · exact z

def plain (l : Bs) : Bool := isHost l && !numEnd (lastOf l)

theorem impl_HostOk_name (l : Bs) (n : Int) (hl : l.length < 4294967281) : Ev (fun k => impl_HostOk.f k 1 (B l) n) (decide (n = 0) && plain l) := by
  unfold impl_HostOk.f plain
  simp only [if_neg (show ¬ (1 : Int) = 0 by decide), if_true]
  by_cases h : n = 0
  · simp only [if_pos h, decide_eq_true h, Bool.true_and]
    refine ev_bind (impl_Host l hl) ?_
    cases isHost l with
    | false => simp only [Bool.false_eq_true, if_false, Bool.false_and]; exact Ev.now _
    | true =>
      simp only [if_true, Bool.true_and]
      exact ev_bind (impl_EndsNum l hl) (Ev.now _)
  · simp only [if_neg h, decide_eq_false h, Bool.false_and]; exact Ev.now _
theorem spec_HostOk_any (l : Bs) (n : Int) (hl : l.length ≤ 8796093022207) : Ev (fun k => spec_HostOk.f k 1 (B l) n) (decide (n = 0) && plain l) := by
  unfold spec_HostOk.f plain
  simp only [if_neg (show ¬ (1 : Int) = 0 by decide), if_true]
  refine ev_bind (spec_Name l hl) ?_
  cases isHost l with
  | false => simp only [Bool.false_eq_true, if_false, Bool.false_and, Bool.and_false]; exact Ev.now _
  | true =>
    simp only [if_true, Bool.true_and]
    refine ev_bind (spec_EndsNum l hl) ?_
    cases numEnd (lastOf l) with
    | true => simp only [if_true, Bool.not_true, Bool.and_false]; exact Ev.now _
    | false =>
      simp only [Bool.false_eq_true, if_false, Bool.not_false, Bool.and_true]
      rw [show (n == 0) = decide (n = 0) from rfl]; exact Ev.now _
/-- Is a host valid? -/
def hostOkV (n0 : Int) (l : Bs) (n2 : Int) : Bool := if n0 = 0 then decide (l = []) && (n2 == 0) else if n0 = 1 then decide (n2 = 0) && plain l else if n0 = 2 then decide (l = []) && decide (0 ≤ n2 ∧ n2 ≤ 4294967295) else false
theorem hostOk_val (n0 n2 : Int) (l : Bs) (hl : l.length ≤ 1048576) : Ev (fun k => spec_HostOk.f k n0 (B l) n2) (hostOkV n0 l n2) ∧ Ev (fun k => impl_HostOk.f k n0 (B l) n2) (hostOkV n0 l n2) := by
  unfold hostOkV
  by_cases h0 : n0 = 0
  · rw [if_pos h0]
    refine ⟨?_, ?_⟩
    · unfold spec_HostOk.f
      simp only [if_pos h0, B_toList]
      by_cases h : l = []
      · simp only [if_pos h, decide_eq_true h, Bool.true_and]; exact Ev.now _
      · simp only [if_neg h, decide_eq_false h, Bool.false_and]; exact Ev.now _
    · unfold impl_HostOk.f
      simp only [if_pos h0, B_toList]
      have e : (n0 == 0 && (l == ([] : List UInt8) && (n2 == 0))) = (decide (l = []) && (n2 == 0)) := by
        rw [h0]; cases l <;> simp
      rw [e]; exact Ev.now _
  by_cases h1 : n0 = 1
  · subst h1
    rw [if_neg (by decide), if_pos rfl]
    exact ⟨spec_HostOk_any l n2 (by omega), impl_HostOk_name l n2 (by omega)⟩
  by_cases h2 : n0 = 2
  · rw [if_neg h0, if_neg h1, if_pos h2]
    refine ⟨?_, ?_⟩
    · unfold spec_HostOk.f
      simp only [if_neg h0, if_neg h1, if_pos h2, B_toList, In_f, Option.bind_some]
      by_cases h : l = []
      · simp only [if_pos h, decide_eq_true h, Bool.true_and]; exact Ev.now _
      · simp only [if_neg h, decide_eq_false h, Bool.false_and]; exact Ev.now _
    · unfold impl_HostOk.f
      simp only [if_neg h0, if_neg h1, if_pos h2, B_toList, in_f, Option.bind_some]
      by_cases h : l = []
      · simp only [if_pos h, decide_eq_true h, Bool.true_and]; exact Ev.now _
      · simp only [if_neg h, decide_eq_false h, Bool.false_and]; exact Ev.now _
  · rw [if_neg h0, if_neg h1, if_neg h2]
    refine ⟨?_, ?_⟩
    · unfold spec_HostOk.f
      simp only [if_neg h0, if_neg h1, if_neg h2]; exact Ev.now _
    · unfold impl_HostOk.f
      simp only [if_neg h0, if_neg h1, if_neg h2]; exact Ev.now _
theorem hostOk_eq (n0 n2 : Int) (l : Bs) (hl : l.length ≤ 1048576) : ∃ b : Bool, Ev (fun k => spec_HostOk.f k n0 (B l) n2) b ∧ Ev (fun k => impl_HostOk.f k n0 (B l) n2) b ∧ (b = true → n0 = 2 → 0 ≤ n2 ∧ n2 ≤ 4294967295) ∧ (b = true → n0 = 1 → plain l = true) := by
  obtain ⟨h1, h2⟩ := hostOk_val n0 n2 l hl
  refine ⟨_, h1, h2, ?_, ?_⟩
  · intro e e2; unfold hostOkV at e; rw [e2] at e; simp at e; omega
  · intro e e2; unfold hostOkV at e; rw [e2] at e; simp at e; exact e.2

theorem dec_small {n : Nat} (h : n < 10) : Lib.decDigits n = [UInt8.ofNat (48 + n)] := by rw [Lib.decDigits, dif_pos h]
theorem dec_big {n : Nat} (h : ¬ n < 10) : Lib.decDigits n = Lib.decDigits (n / 10) ++ [UInt8.ofNat (48 + n % 10)] := by rw [Lib.decDigits, dif_neg h]
theorem dec_len (n : Nat) : (Lib.decDigits n).length ≤ n + 1 := by
  induction n using Nat.strongRecOn with
  | _ n ih =>
    by_cases h : n < 10
    · rw [dec_small h]; simp
    · rw [dec_big h]; have := ih (n / 10) (by omega); simp; omega
theorem digit_str (m : Nat) (h : m < 10) : strOfNums [wrap64 (48 + (m : Int)) % 256] = B [UInt8.ofNat (48 + m)] := by
  have e : wrap64 (48 + (m : Int)) % 256 = (((UInt8.ofNat (48 + m)).toNat : Nat) : Int) := by
    rw [w64 (by omega) (by omega)]; simp
  rw [e]
  exact str_ns [UInt8.ofNat (48 + m)]
theorem spec_Dec (n : Nat) (hn : n ≤ 4294967296) : Ev (fun k => spec_l1Dec.f k (n : Int)) (B (Lib.decDigits n)) := by
  induction n using Nat.strongRecOn with
  | _ n ih =>
    refine Ev.step (fun k => by rw [spec_l1Dec.f]) ?_
    simp only [if_neg (show ¬ (n : Int) < -9223372036854775807 by omega), if_neg (show ¬ (n : Int) < 0 by omega)]
    by_cases h : n < 10
    · simp only [if_pos (show (n : Int) < 10 by omega)]
      rw [dec_small h, ← digit_str n h]
      exact Ev.now _
    · have e1 : wrap64 (Int.tdiv (n : Int) 10) = ((n / 10 : Nat) : Int) := by
        rw [Int.tdiv_eq_ediv_of_nonneg (by omega), w64 (by omega) (by omega)]; rfl
      have e2 : Int.tmod (n : Int) 10 = ((n % 10 : Nat) : Int) := by rw [Int.tmod_eq_emod_of_nonneg (by omega)]; rfl
      have hl := dec_len (n / 10)
      simp only [if_neg (show ¬ (n : Int) < 10 by omega), e1, e2]
      refine ev_bind (ih (n / 10) (by omega) (by omega)) ?_
      simp only [Option.bind_some, digit_str (n % 10) (by omega), B_size, List.length_singleton]
      simp only [if_pos (show (Lib.decDigits (n / 10)).length + 1 ≤ 9223372036854775807 by omega), B_append]
      rw [dec_big h]
      exact Ev.now _
/-- An address as it is written. -/
def fourB (a : Nat) : Bs := Lib.decDigits (a / 16777216 % 256) ++ 46 :: (Lib.decDigits (a / 65536 % 256) ++ 46 :: (Lib.decDigits (a / 256 % 256) ++ 46 :: Lib.decDigits (a % 256)))
theorem spec_Four4 (a : Nat) (ha : a ≤ 4294967295) : Ev (fun k => spec_l2Four.f k (a : Int)) (B (fourB a)) := by
  unfold spec_l2Four.f
  have e1 : wrap64 (Int.tdiv (a : Int) 16777216) = ((a / 16777216 % 256 : Nat) : Int) := by
    rw [Int.tdiv_eq_ediv_of_nonneg (by omega), w64 (by omega) (by omega)]; omega
  have e2 : Int.tmod (wrap64 (Int.tdiv (a : Int) 65536)) 256 = ((a / 65536 % 256 : Nat) : Int) := by
    rw [Int.tdiv_eq_ediv_of_nonneg (by omega), w64 (by omega) (by omega), Int.tmod_eq_emod_of_nonneg (by omega)]; rfl
  have e3 : Int.tmod (wrap64 (Int.tdiv (a : Int) 256)) 256 = ((a / 256 % 256 : Nat) : Int) := by
    rw [Int.tdiv_eq_ediv_of_nonneg (by omega), w64 (by omega) (by omega), Int.tmod_eq_emod_of_nonneg (by omega)]; rfl
  have e4 : Int.tmod (a : Int) 256 = ((a % 256 : Nat) : Int) := by rw [Int.tmod_eq_emod_of_nonneg (by omega)]; rfl
  have k46 : (⟨#[46]⟩ : ByteArray) = B [46] := rfl
  have l1 := dec_len (a / 16777216 % 256)
  have l2 := dec_len (a / 65536 % 256)
  have l3 := dec_len (a / 256 % 256)
  have l4 := dec_len (a % 256)
  have d1 := spec_Dec (a / 16777216 % 256) (by omega)
  have d2 := spec_Dec (a / 65536 % 256) (by omega)
  have d3 := spec_Dec (a / 256 % 256) (by omega)
  have d4 := spec_Dec (a % 256) (by omega)
  have hf : fourB a = (((((Lib.decDigits (a / 16777216 % 256) ++ [46]) ++ Lib.decDigits (a / 65536 % 256)) ++ [46]) ++ Lib.decDigits (a / 256 % 256)) ++ [46]) ++ Lib.decDigits (a % 256) := by unfold fourB; simp
  rw [hf]
  have b1 : a / 16777216 % 256 < 256 := by omega
  have b2 : a / 65536 % 256 < 256 := by omega
  have b3 : a / 256 % 256 < 256 := by omega
  have b4 : a % 256 < 256 := by omega
  simp only [e1, e2, e3, e4, k46]
  clear e1 e2 e3 e4 hf
  generalize a / 16777216 % 256 = q1 at *
  generalize a / 65536 % 256 = q2 at *
  generalize a / 256 % 256 = q3 at *
  generalize a % 256 = q4 at *
  refine ev_bind d1 ?_
  simp only [B_size, B_append, if_pos (show (Lib.decDigits q1).length + 1 ≤ 9223372036854775807 by omega)]
  refine ev_bind d2 ?_
  simp only [B_size, B_append, List.length_append, List.length_singleton, if_pos (show (Lib.decDigits q1).length + 1 + (Lib.decDigits q2).length ≤ 9223372036854775807 by omega), if_pos (show (Lib.decDigits q1).length + 1 + (Lib.decDigits q2).length + 1 ≤ 9223372036854775807 by omega)]
  refine ev_bind d3 ?_
  simp only [B_size, B_append, List.length_append, List.length_singleton, if_pos (show (Lib.decDigits q1).length + 1 + (Lib.decDigits q2).length + 1 + (Lib.decDigits q3).length ≤ 9223372036854775807 by omega), if_pos (show (Lib.decDigits q1).length + 1 + (Lib.decDigits q2).length + 1 + (Lib.decDigits q3).length + 1 ≤ 9223372036854775807 by omega)]
  refine ev_bind d4 ?_
  simp only [B_size, B_append, List.length_append, List.length_singleton, if_pos (show (Lib.decDigits q1).length + 1 + (Lib.decDigits q2).length + 1 + (Lib.decDigits q3).length + 1 + (Lib.decDigits q4).length ≤ 9223372036854775807 by omega)]
  exact Ev.now _
theorem and255 (x : Nat) (h : x ≤ 4294967295) : Go.bits .and .i64 (x : Int) 255 = ((x % 256 : Nat) : Int) := by
  have h1 : (BitVec.ofInt 64 (x : Int)).toNat = x := by
    rw [BitVec.ofInt_natCast, BitVec.toNat_ofNat]; exact Nat.mod_eq_of_lt (by omega)
  have h2 : (BitVec.ofInt 64 (255 : Int)).toNat = 255 := by decide
  show IntKind.i64.wrap ((BitVec.ofInt 64 (x : Int) &&& BitVec.ofInt 64 255).toNat : Int) = _
  rw [BitVec.toNat_and, h1, h2, i64wrap]
  have : x &&& 255 = x % 256 := Nat.and_two_pow_sub_one_eq_mod x 8
  rw [this]
  exact w64 (by omega) (by omega)
theorem itoa_nat (n : Nat) : Lib.itoa (n : Int) = Lib.decDigits n := by
  unfold Lib.itoa; rw [if_neg (by omega), Int.toNat_natCast]
theorem itoa_part (a s : Nat) (ha : a ≤ 4294967295) (hs : s ≤ 64) : strconv_Itoa.f (Go.bits .and .i64 (shr .i64 (a : Int) (s : Int)) 255) = some (B (Lib.decDigits (a / 2 ^ s % 256))) := by
  have hle : a / 2 ^ s ≤ a := Nat.div_le_self _ _
  have e : shr .i64 (a : Int) (s : Int) = ((a / 2 ^ s : Nat) : Int) := by
    unfold shr
    have : min (s : Int).toNat IntKind.i64.bits = s := by rw [Int.toNat_natCast]; exact Nat.min_eq_left hs
    rw [this]
    show (a : Int) / ((2 : Int) ^ s) = _
    rw [Int.natCast_ediv, Int.natCast_pow]; rfl
  rw [e, and255 _ (by omega)]
  unfold strconv_Itoa.f
  rw [if_pos (by omega), itoa_nat]
theorem impl_Put4 (n0 : Int) (t : ByteArray) (a : Nat) (ha : a ≤ 4294967295) : Ev (fun k => impl_HostPut.l0 k [] 24 n0 t (a : Int)) (B (fourB a)) := by
  have st : ∀ (L : List ByteArray) (s : Nat) (r : ByteArray), L.length ≤ 10 → s ≤ 24 → Ev (fun k => impl_HostPut.l0 k (L ++ [B (Lib.decDigits (a / 2 ^ s % 256))]) ((s : Int) - 8) n0 t (a : Int)) r → Ev (fun k => impl_HostPut.l0 k L (s : Int) n0 t (a : Int)) r := by
    intro L s r hL hs h
    refine Ev.step (fun k => by rw [impl_HostPut.l0]) ?_
    have hw : wrap64 ((s : Int) - 8) = (s : Int) - 8 := w64 (by omega) (by omega)
    simp only [if_pos (show (s : Int) ≥ 0 by omega), if_pos (show 0 ≤ (s : Int) by omega), itoa_part a s ha (by omega), Option.bind_some, if_pos (show L.length < 8796093022208 by omega), hw]
    exact h
  refine st [] 24 _ (by simp) (by omega) ?_
  refine st _ 16 _ (by simp) (by omega) ?_
  refine st _ 8 _ (by simp) (by omega) ?_
  refine st _ 0 _ (by simp) (by omega) ?_
  refine Ev.step (fun k => by rw [impl_HostPut.l0]) ?_
  simp only [if_neg (show ¬ (((0 : Nat) : Int) - 8) ≥ 0 by omega)]
  have k46 : (⟨#[46]⟩ : ByteArray) = B [46] := rfl
  have hj : joinB [46] (bss ([] ++ [B (Lib.decDigits (a / 2 ^ 24 % 256))] ++ [B (Lib.decDigits (a / 2 ^ 16 % 256))] ++ [B (Lib.decDigits (a / 2 ^ 8 % 256))] ++ [B (Lib.decDigits (a / 2 ^ 0 % 256))])) = fourB a := by
    have h0 : a / 2 ^ 0 = a := by simp
    rw [h0]
    simp [bss, joinB, fourB]
  have l1 := dec_len (a / 16777216 % 256)
  have l2 := dec_len (a / 65536 % 256)
  have l3 := dec_len (a / 256 % 256)
  have l4 := dec_len (a % 256)
  have hfl : (fourB a).length ≤ 2000 := by unfold fourB; simp; omega
  have hf : strings_Join.f ([] ++ [B (Lib.decDigits (a / 2 ^ 24 % 256))] ++ [B (Lib.decDigits (a / 2 ^ 16 % 256))] ++ [B (Lib.decDigits (a / 2 ^ 8 % 256))] ++ [B (Lib.decDigits (a / 2 ^ 0 % 256))]) (B [46]) = some (B (fourB a)) := by
    unfold strings_Join.f
    rw [B_data, hj, if_pos ⟨by simp, by simp, by omega⟩]
  simp only [k46, hf, Option.bind_some]
  exact Ev.now _
theorem hostPut_eq (n0 n2 : Int) (l : Bs) (hl : l.length ≤ 1048576) : ∃ r : ByteArray, Ev (fun k => spec_HostPut.f k n0 (B l) n2) r ∧ Ev (fun k => impl_HostPut.f k n0 (B l) n2) r := by
  obtain ⟨b, h1, h2, hr, _⟩ := hostOk_eq n0 n2 l hl
  unfold spec_HostPut.f impl_HostPut.f
  cases b with
  | false =>
    refine ⟨⟨#[]⟩, ev_bind h1 ?_, ev_bind h2 ?_⟩
    · simp only [Bool.false_eq_true, if_false]; exact Ev.now _
    · simp only [Bool.false_eq_true, if_false]
      refine Ev.step (fun k => by rw [impl_HostPut.j0]) ?_
      simp only [if_true]
      refine ev_bind h2 ?_
      simp only [Bool.false_eq_true, if_false]
      exact Ev.now _
  | true =>
    by_cases c : n0 = 2
    · obtain ⟨a0, a1⟩ := hr rfl c
      obtain ⟨a, rfl⟩ := Int.eq_ofNat_of_zero_le a0
      have hb : (n0 != 2) = false := by simp [c]
      refine ⟨B (fourB a), ev_bind h1 ?_, ev_bind h2 ?_⟩
      · simp only [if_true, if_pos c]
        refine ev_bind (spec_Four4 a (by omega)) ?_
        exact Ev.now _
      · simp only [if_true, hb]
        refine Ev.step (fun k => by rw [impl_HostPut.j0]) ?_
        simp only [Bool.false_eq_true, if_false]
        exact impl_Put4 n0 (B l) a (by omega)
    · have hb : (n0 != 2) = true := by simp [c]
      refine ⟨B l, ev_bind h1 ?_, ev_bind h2 ?_⟩
      · simp only [if_true, if_neg c]
        exact Ev.now _
      · simp only [if_true, hb]
        refine Ev.step (fun k => by rw [impl_HostPut.j0]) ?_
        simp only [if_true]
        refine ev_bind h2 ?_
        simp only [if_true]
        exact Ev.now _

/-- What HostPut answers. -/
def hostPV (n0 : Int) (l : Bs) (n2 : Int) : Bs := if hostOkV n0 l n2 = true then (if n0 = 2 then fourB n2.toNat else l) else []
theorem hostPut_val (n0 n2 : Int) (l : Bs) (hl : l.length ≤ 1048576) : Ev (fun k => spec_HostPut.f k n0 (B l) n2) (B (hostPV n0 l n2)) ∧ Ev (fun k => impl_HostPut.f k n0 (B l) n2) (B (hostPV n0 l n2)) := by
  obtain ⟨h1, h2⟩ := hostOk_val n0 n2 l hl
  have hr : hostOkV n0 l n2 = true → n0 = 2 → 0 ≤ n2 ∧ n2 ≤ 4294967295 := by
    intro e e2; unfold hostOkV at e; rw [e2] at e; simp at e; omega
  unfold spec_HostPut.f impl_HostPut.f hostPV
  have kz : (⟨#[]⟩ : ByteArray) = B [] := rfl
  cases hb0 : hostOkV n0 l n2 with
  | false =>
    rw [hb0] at h1 h2
    rw [if_neg (by simp)]
    refine ⟨ev_bind h1 ?_, ev_bind h2 ?_⟩
    · simp only [Bool.false_eq_true, if_false]; exact Ev.now _
    · simp only [Bool.false_eq_true, if_false]
      refine Ev.step (fun k => by rw [impl_HostPut.j0]) ?_
      simp only [if_true]
      refine ev_bind h2 ?_
      simp only [Bool.false_eq_true, if_false]
      exact Ev.now _
  | true =>
    rw [hb0] at h1 h2
    rw [if_pos rfl]
    by_cases c : n0 = 2
    · obtain ⟨a0, a1⟩ := hr hb0 c
      obtain ⟨a, rfl⟩ := Int.eq_ofNat_of_zero_le a0
      have hb : (n0 != 2) = false := by simp [c]
      rw [if_pos c, Int.toNat_natCast]
      refine ⟨ev_bind h1 ?_, ev_bind h2 ?_⟩
      · simp only [if_true, if_pos c]
        refine ev_bind (spec_Four4 a (by omega)) ?_
        exact Ev.now _
      · simp only [if_true, hb]
        refine Ev.step (fun k => by rw [impl_HostPut.j0]) ?_
        simp only [Bool.false_eq_true, if_false]
        exact impl_Put4 n0 (B l) a (by omega)
    · have hb : (n0 != 2) = true := by simp [c]
      rw [if_neg c]
      refine ⟨ev_bind h1 ?_, ev_bind h2 ?_⟩
      · simp only [if_true, if_neg c]
        exact Ev.now _
      · simp only [if_true, hb]
        refine Ev.step (fun k => by rw [impl_HostPut.j0]) ?_
        simp only [if_true]
        refine ev_bind h2 ?_
        simp only [if_true]
        exact Ev.now _

/-- A scheme's own port. -/
def ownP (s : Bs) : Int := if s = ([104, 116, 116, 112] : List UInt8) then 80 else if s = ([104, 116, 116, 112, 115] : List UInt8) then 443 else -1
theorem own_f (s : Bs) : spec_l3Own.f (B s) = some (ownP s) := by
  unfold spec_l3Own.f ownP
  simp only [B_toList]
  by_cases c : s = ([104, 116, 116, 112] : List UInt8)
  · simp only [if_pos c]
  · by_cases d : s = ([104, 116, 116, 112, 115] : List UInt8)
    · simp only [if_neg c, if_pos d]
    · simp only [if_neg c, if_neg d]
theorem special_f (s : Bs) : impl_special.f (B s) = some (ownP s, decide (0 ≤ ownP s)) := by
  unfold impl_special.f ownP
  simp only [B_toList]
  by_cases c : s = ([104, 116, 116, 112] : List UInt8)
  · simp only [if_pos c]; rfl
  · by_cases d : s = ([104, 116, 116, 112, 115] : List UInt8)
    · simp only [if_neg c, if_pos d]; rfl
    · simp only [if_neg c, if_neg d]; rfl
theorem fourB_le (a : Nat) : (fourB a).length ≤ 1100 := by
  unfold fourB
  have h1 := dec_len (a / 16777216 % 256)
  have h2 := dec_len (a / 65536 % 256)
  have h3 := dec_len (a / 256 % 256)
  have h4 := dec_len (a % 256)
  simp only [List.length_append, List.length_cons]
  omega
theorem hostPV_le (n0 n2 : Int) (l : Bs) : (hostPV n0 l n2).length ≤ l.length + 1100 := by
  unfold hostPV
  have := fourB_le n2.toNat
  split
  · split
    · omega
    · omega
  · simp
/-- What OriginPut answers. -/
def originV (s : Bs) (n1 : Int) (l : Bs) (n3 n4 : Int) : Bs := if ownP s < 0 then [110, 117, 108, 108] else if hostOkV n1 l n3 = true then (if 0 ≤ n4 ∧ n4 ≤ 65535 then (if n4 = ownP s then s ++ [58, 47, 47] ++ hostPV n1 l n3 else s ++ [58, 47, 47] ++ hostPV n1 l n3 ++ [58] ++ Lib.decDigits n4.toNat) else [110, 117, 108, 108]) else [110, 117, 108, 108]
theorem nul_B : (⟨#[110, 117, 108, 108]⟩ : ByteArray) = B [110, 117, 108, 108] := rfl
theorem sep_B : (⟨#[58, 47, 47]⟩ : ByteArray) = B [58, 47, 47] := rfl
theorem col_B : (⟨#[58]⟩ : ByteArray) = B [58] := rfl
theorem origin_spec (s : Bs) (n1 : Int) (l : Bs) (n3 n4 : Int) (hs : s.length ≤ 1048576) (hl : l.length ≤ 1048576) : Ev (fun k => spec_OriginPut.f k (B s) n1 (B l) n3 n4) (B (originV s n1 l n3 n4)) := by
  have hle := hostPV_le n1 n3 l
  have out : Ev (fun k => spec_OriginPut.j0 k true (B s) n1 (B l) n3 n4) (B [110, 117, 108, 108]) := by
    refine Ev.step (fun k => by rw [spec_OriginPut.j0]) ?_
    simp only [if_true]
    exact Ev.now _
  unfold spec_OriginPut.f originV
  simp only [own_f, Option.bind_some]
  by_cases c : ownP s < 0
  · simp only [if_pos c]; exact out
  · simp only [if_neg c]
    refine ev_bind (hostOk_val n1 n3 l hl).1 ?_
    cases hb : hostOkV n1 l n3 with
    | false => simp only [Bool.false_eq_true, if_false]; exact out
    | true =>
      simp only [if_true, In_f, Option.bind_some]
      by_cases d : 0 ≤ n4 ∧ n4 ≤ 65535
      · simp only [if_pos d, decide_eq_true d, Bool.not_true]
        refine Ev.step (fun k => by rw [spec_OriginPut.j0]) ?_
        simp only [Bool.false_eq_true, if_false, B_size, if_pos (show s.length + 3 ≤ 9223372036854775807 by omega)]
        refine ev_bind (hostPut_val n1 n3 l hl).1 ?_
        simp only [sep_B, col_B, B_append, B_size, List.length_append, List.length_cons, List.length_nil, own_f, Option.bind_some]
        simp only [if_pos (show s.length + (0 + 1 + 1 + 1) + (hostPV n1 l n3).length ≤ 9223372036854775807 by omega)]
        by_cases e : n4 = ownP s
        · simp only [if_pos e]; exact Ev.now _
        · simp only [if_neg e]
          simp only [if_pos (show s.length + (0 + 1 + 1 + 1) + (hostPV n1 l n3).length + 1 ≤ 9223372036854775807 by omega)]
          obtain ⟨m, rfl⟩ := Int.eq_ofNat_of_zero_le d.1
          have hd := dec_len m
          refine ev_bind (spec_Dec m (by omega)) ?_
          simp only [B_size, B_append, Int.toNat_natCast]
          simp only [if_pos (show s.length + (0 + 1 + 1 + 1) + (hostPV n1 l (n3)).length + (0 + 1) + (Lib.decDigits m).length ≤ 9223372036854775807 by omega)]
          exact Ev.now _
      · simp only [if_neg d, decide_eq_false d, Bool.not_false]; exact out
theorem origin_impl (s : Bs) (n1 : Int) (l : Bs) (n3 n4 : Int) (hs : s.length ≤ 1048576) (hl : l.length ≤ 1048576) : Ev (fun k => impl_OriginPut.f k (B s) n1 (B l) n3 n4) (B (originV s n1 l n3 n4)) := by
  have hle := hostPV_le n1 n3 l
  have out : Ev (fun k => impl_OriginPut.j0 k (ownP s) true (B s) n1 (B l) n3 n4) (B [110, 117, 108, 108]) := by
    refine Ev.step (fun k => by rw [impl_OriginPut.j0]) ?_
    simp only [if_true]
    exact Ev.now _
  unfold impl_OriginPut.f originV
  simp only [special_f, Option.bind_some]
  by_cases c : ownP s < 0
  · simp only [if_pos c, decide_eq_false (show ¬ 0 ≤ ownP s by omega), Bool.false_eq_true, if_false]; exact out
  · simp only [if_neg c, decide_eq_true (show 0 ≤ ownP s by omega), if_true]
    refine ev_bind (hostOk_val n1 n3 l hl).2 ?_
    cases hb : hostOkV n1 l n3 with
    | false => simp only [Bool.false_eq_true, if_false]; exact out
    | true =>
      simp only [if_true, in_f, Option.bind_some]
      by_cases d : 0 ≤ n4 ∧ n4 ≤ 65535
      · simp only [if_pos d, decide_eq_true d, Bool.not_true]
        refine Ev.step (fun k => by rw [impl_OriginPut.j0]) ?_
        simp only [Bool.false_eq_true, if_false, B_size, if_pos (show s.length + 3 ≤ 9223372036854775807 by omega)]
        refine ev_bind (hostPut_val n1 n3 l hl).2 ?_
        simp only [sep_B, col_B, B_append, B_size, List.length_append, List.length_cons, List.length_nil]
        simp only [if_pos (show s.length + (0 + 1 + 1 + 1) + (hostPV n1 l n3).length ≤ 9223372036854775807 by omega)]
        by_cases e : n4 = ownP s
        · simp only [if_pos e]; exact Ev.now _
        · simp only [if_neg e]
          obtain ⟨m, rfl⟩ := Int.eq_ofNat_of_zero_le d.1
          have hd := dec_len m
          have hi : strconv_Itoa.f (m : Int) = some (B (Lib.decDigits m)) := by
            unfold strconv_Itoa.f
            rw [if_pos (by omega), itoa_nat]
          simp only [hi, Option.bind_some, B_size, B_append, List.length_append, List.length_cons, List.length_nil, Int.toNat_natCast]
          simp only [if_pos (show 1 + (Lib.decDigits m).length ≤ 9223372036854775807 by omega), if_pos (show s.length + (0 + 1 + 1 + 1) + (hostPV n1 l n3).length + (0 + 1 + (Lib.decDigits m).length) ≤ 9223372036854775807 by omega)]
          simp only [List.append_assoc]
          exact Ev.now _
      · simp only [if_neg d, decide_eq_false d, Bool.not_false]; exact out
theorem FnExactOriginPut (s0 : ByteArray) (n1 : Int) (s2 : ByteArray) (n3 n4 : Int) (hs0 : s0.size ≤ maxLen) (hs2 : s2.size ≤ maxLen) (_ : (Lit.int .i64 n1).wf = true) (_ : (Lit.int .i64 n3).wf = true) (_ : (Lit.int .i64 n4).wf = true) : ∃ k, laws_FnExactOriginPut.f k s0 n1 s2 n3 n4 = some true := by
  obtain ⟨s, rfl, hs⟩ := exBn s0 _ hs0
  obtain ⟨l, rfl, hl⟩ := exBn s2 _ hs2
  unfold maxLen at hs hl
  refine Ev.rounds ?_
  unfold laws_FnExactOriginPut.f laws_szOrigin.f laws_szHost.f laws_toOrigin.f laws_toHost.f
  have hw : wrap64 (1048576 - (s.length : Int)) = 1048576 - (s.length : Int) := w64 (by omega) (by omega)
  simp only [B_size, hw]
  by_cases c : (1048576 : Int) - (s.length : Int) < 0
  · simp only [if_pos c, Option.bind_some, if_pos (show (-1 : Int) < 0 by decide)]; exact Ev.now _
  · have hw2 : wrap64 (1048576 - (s.length : Int) - (l.length : Int)) = 1048576 - (s.length : Int) - (l.length : Int) := w64 (by omega) (by omega)
    simp only [if_neg c, hw2]
    by_cases d : (1048576 : Int) - (s.length : Int) - (l.length : Int) < 0
    · simp only [if_pos d, Option.bind_some, if_pos (show (-1 : Int) < 0 by decide)]; exact Ev.now _
    · simp only [if_neg d, Option.bind_some]
      refine ev_bind (origin_spec s n1 l n3 n4 (by omega) (by omega)) ?_
      refine ev_bind (origin_impl s n1 l n3 n4 (by omega) (by omega)) ?_
      simp only [if_true]
      exact Ev.now _

end Go.Proofs.YtocgaicnfahkeaaDoor.Pure
