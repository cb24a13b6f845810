/- The pure side of the law FnForm: what the printed functions tell is what the law says, for every input within the law's bounds. -/
import Derived.Test.YtekeimhhffnjpaaDoorPFnFormx6
import Derived.Test.YtekeimhhffnjpaaDoorBase
import Derived.Test.YtekeimhhffnjpaaDoorHM
set_option linter.unusedVariables false
set_option linter.unusedSimpArgs false
namespace Go.Proofs.YtekeimhhffnjpaaDoor.Pure
open Go.RowKit Go.Proofs.YtekeimhhffnjpaaDoor.H Go.Proofs.YtekeimhhffnjpaaDoor.PFnForm Go.Proofs.YtekeimhhffnjpaaDoorW.PrintWords Go.Proofs.YtekeimhhffnjpaaDoorW.PrintLast Go.Proofs.YtekeimhhffnjpaaDoor.Base

theorem spec_Cut_l0 (c : UInt8) (l : Bs) (hl : l.length ≤ 8796093022207) (d : Nat) : ∀ (f i : Nat) (X : List ByteArray), i + d = l.length → f ≤ i → X.length ≤ f → (∀ x ∈ (l.drop f).take (i - f), x ≠ c) → Ev (fun k => spec_l1Cut.l0 k (B l) ((c.toNat : Nat) : Int) X f i) (X ++ (splitC c (l.drop f)).map B) := by
  induction d with
  | zero =>
    intro f i X hi hf hX h
    refine ev_1 fun k => ?_
    simp only [spec_l1Cut.l0]
    rw [if_neg (by rw [B_size]; omega), if_pos (by omega), if_pos (by rw [B_size]; omega), if_pos (by omega)]
    rw [List.take_of_length_le (by simp; omega)] at h
    rw [splitC_plain c _ h, Int.toNat_natCast, B_extract, B_size, List.take_of_length_le (by simp)]
    rfl
  | succ d ih =>
    intro f i X hi hf hX h
    have hlt : i < l.length := by omega
    refine Ev.step (fun k => by rw [spec_l1Cut.l0]) ?_
    have hi0 : (0 : Int) ≤ (i : Int) := by omega
    have hi1 : (i : Int) < (l.length : Int) := by omega
    have hi2 : (i : Int) ≤ (l.length : Int) := by omega
    have hw : wrap64 ((i : Int) + 1) = ((i + 1 : Nat) : Int) := by rw [w64 (by omega) (by omega)]; rfl
    simp only [B_size, bt_B, Int.toNat_natCast, get_eq hlt, if_pos hi0, if_pos hi1, if_pos hi2, hw]
    have hcat : l.drop f = (l.drop f).take (i - f) ++ l[i] :: l.drop (i + 1) := by
      conv => lhs; rw [← List.take_append_drop (i - f) (l.drop f)]
      rw [List.drop_drop, show f + (i - f) = i by omega, List.drop_eq_getElem_cons hlt]
    by_cases e : l[i] = c
    · have e1 : ((l[i].toNat : Nat) : Int) = ((c.toNat : Nat) : Int) := by rw [e]
      simp only [if_pos e1, if_pos (show (0 : Int) ≤ (f : Int) by omega), if_pos (show (f : Int) ≤ (i : Int) by omega), if_pos (show X.length < 8796093022208 by omega)]
      have := ih (i + 1) (i + 1) (X ++ [B ((l.drop f).take (i - f))]) (by omega) (by omega) (by simp; omega) (by simp)
      have hs : splitC c (l.drop f) = (l.drop f).take (i - f) :: splitC c (l.drop (i + 1)) := by
        conv => lhs; rw [hcat, e, splitC_cut c _ _ h]
      rw [B_extract, hs]
      simpa using this
    · have e1 : ¬ ((l[i].toNat : Nat) : Int) = ((c.toNat : Nat) : Int) := fun h => e (UInt8.toNat_inj.1 (by omega))
      simp only [if_neg e1]
      refine ih f (i + 1) X (by omega) (by omega) hX ?_
      have ht : (l.drop f).take (i + 1 - f) = (l.drop f).take (i - f) ++ [l[i]] := by
        rw [show i + 1 - f = (i - f) + 1 by omega, List.take_succ_eq_append_getElem (by simp; omega)]
        simp [show f + (i - f) = i by omega]
      rw [ht]
      intro x hx
      rcases List.mem_append.1 hx with hx | hx
      · exact h x hx
      · rw [List.mem_singleton.1 hx]; exact e
theorem spec_Cut (c : UInt8) (n : Nat) (hn : c = UInt8.ofNat n) (hn' : n < 256) (l : Bs) (hl : l.length ≤ 8796093022207) : Ev (fun k => spec_l1Cut.f k (B l) ((n : Nat) : Int)) ((splitC c l).map B) := by
  have e : ((n : Nat) : Int) = ((c.toNat : Nat) : Int) := by subst hn; simp; omega
  rw [e]
  unfold spec_l1Cut.f
  exact spec_Cut_l0 c l hl l.length 0 0 [] (by omega) (by omega) (by simp) (by simp)

/-- The place of the first byte c. -/
def ixC (c : UInt8) (l : Bs) : Nat := (cutAh c l).length
theorem ixC_le (c : UInt8) (l : Bs) : ixC c l ≤ l.length := cutAh_le c l
theorem cutAh_take (c : UInt8) : ∀ l : Bs, cutAh c l = l.take (ixC c l)
  | [] => rfl
  | x :: t => by
    unfold ixC cutAh
    by_cases e : x = c
    · rw [if_pos e]; rfl
    · rw [if_neg e]
      have := cutAh_take c t
      unfold ixC at this
      rw [List.length_cons, List.take_succ_cons, ← this]
theorem cutBe_drop (c : UInt8) : ∀ l : Bs, cutBe c l = l.drop (ixC c l + 1)
  | [] => rfl
  | x :: t => by
    unfold ixC cutBe cutAh
    by_cases e : x = c
    · rw [if_pos e, if_pos e]; rfl
    · rw [if_neg e, if_neg e]
      have := cutBe_drop c t
      unfold ixC at this
      rw [List.length_cons, List.drop_succ_cons, ← this]
theorem ixC_at (c : UInt8) (l : Bs) (h : 0 < l.length) : ixC c l = if l[0] = c then 0 else ixC c l.tail + 1 := by
  cases l with
  | nil => simp at h
  | cons x t =>
    show (cutAh c (x :: t)).length = if x = c then 0 else (cutAh c t).length + 1
    rw [cutAh]
    by_cases e : x = c
    · rw [if_pos e, if_pos e]; rfl
    · rw [if_neg e, if_neg e, List.length_cons]
theorem At_l0 (c : UInt8) (l : Bs) (hl : l.length ≤ 140737488355328) (d : Nat) : ∀ i : Nat, i + d = l.length → Ev (fun k => spec_l1At.l0 k (B l) (B [c]) i) ((i + ixC c (l.drop i) : Nat) : Int) := by
  induction d with
  | zero =>
    intro i hi
    refine ev_1 fun k => ?_
    simp only [spec_l1At.l0, B_size]
    rw [if_neg (by omega), List.drop_eq_nil_of_le (by omega)]
    have : ixC c [] = 0 := rfl
    rw [this]; congr 1; omega
  | succ d ih =>
    intro i hi
    have hlt : i < l.length := by omega
    have hi0 : (0 : Int) ≤ (i : Int) := by omega
    have hi1 : (i : Int) < (l.length : Int) := by omega
    have hw : wrap64 ((i : Int) + 1) = ((i + 1 : Nat) : Int) := by rw [w64 (by omega) (by omega)]; rfl
    have e0 : ixC c (l.drop i) = if l[i] = c then 0 else ixC c (l.drop (i + 1)) + 1 := by
      rw [ixC_at c (l.drop i) (by simp; omega)]
      have h1 : (l.drop i)[0]'(by simp; omega) = l[i] := by simp
      have h2 : (l.drop i).tail = l.drop (i + 1) := by simp
      rw [h1, h2]
    refine Ev.step (fun k => by rw [spec_l1At.l0]) ?_
    simp only [B_size, if_pos hi1]
    refine Ev.step (fun k => by rw [spec_l1At.l1]) ?_
    have hz : bt (B [c]) 0 = ((c.toNat : Nat) : Int) := by rw [bt_B]; rfl
    simp only [B_size, List.length_singleton, if_pos (show (0 : Int) < ((1 : Nat) : Int) by omega), if_pos (show (0 : Int) ≤ 0 by omega), if_pos hi0, if_pos hi1, bt_B, Int.toNat_natCast, get_eq hlt, hz]
    rw [e0]
    by_cases e : l[i] = c
    · have e1 : ((l[i].toNat : Nat) : Int) = ((List.getD [c] 0 0).toNat : Int) := by rw [e]; rfl
      rw [if_pos e]
      have : ((i + 0 : Nat) : Int) = (i : Int) := by omega
      rw [this]
      simp only [e]
      refine ev_1 fun k => ?_
      simp
    · rw [if_neg e]
      have hne : ¬ ((l[i].toNat : Nat) : Int) = ((c.toNat : Nat) : Int) := fun h => e (UInt8.toNat_inj.1 (by omega))
      have hg : ([c] : Bs)[(0 : Int).toNat]?.getD 0 = c := rfl
      simp only [hg, if_neg hne]
      refine Ev.step (fun k => by rw [spec_l1At.l1]) ?_
      have hw1 : wrap64 (0 + 1) = 1 := by decide +kernel
      simp only [hw1, B_size, List.length_singleton, if_neg (show ¬ (1 : Int) < ((1 : Nat) : Int) by omega), hw]
      have := ih (i + 1) (by omega)
      have e2 : i + (ixC c (l.drop (i + 1)) + 1) = i + 1 + ixC c (l.drop (i + 1)) := by omega
      rw [e2]
      exact this
theorem spec_At (c : UInt8) (l : Bs) (hl : l.length ≤ 140737488355328) : Ev (fun k => spec_l1At.f k (B l) (B [c])) ((ixC c l : Nat) : Int) := by
  unfold spec_l1At.f
  have := At_l0 c l hl l.length 0 (by omega)
  simpa using this

theorem swap_cutAh (l : Bs) : cutAh 61 (swapC 43 32 l) = swapC 43 32 (cutAh 61 l) := by
  induction l with
  | nil => rfl
  | cons x t ih =>
    have e0 : swapC 43 32 (x :: t) = (if x = 43 then 32 else x) :: swapC 43 32 t := rfl
    rw [e0, cutAh, cutAh]
    by_cases e : x = 61
    · subst e; rfl
    · have : ¬ (if x = 43 then (32 : UInt8) else x) = 61 := by split <;> simp_all
      rw [if_neg this, if_neg e, ih]; rfl
theorem swap_cutBe (l : Bs) : cutBe 61 (swapC 43 32 l) = swapC 43 32 (cutBe 61 l) := by
  induction l with
  | nil => rfl
  | cons x t ih =>
    have e0 : swapC 43 32 (x :: t) = (if x = 43 then 32 else x) :: swapC 43 32 t := rfl
    rw [e0, cutBe, cutBe]
    by_cases e : x = 61
    · subst e; rfl
    · have : ¬ (if x = 43 then (32 : UInt8) else x) = 61 := by split <;> simp_all
      rw [if_neg this, if_neg e, ih]
theorem plus_some (l : Bs) (h : l.length ≤ 1000000) : spec_l1Plus.f (B l) = some (B (decodeMax (swapC 43 32 l))) := by
  unfold spec_l1Plus.f
  rw [B_size, if_pos (by omega), B_data]
theorem rd_ps (ps : List Bs) (i : Nat) (h : i < ps.length) : rdOf ByteArray.empty (ps.map B) ((i : Nat) : Int) = B ps[i] := by
  unfold rdOf
  rw [Int.toNat_natCast, List.getD_eq_getElem?_getD]
  simp [List.getElem?_map, List.getElem?_eq_getElem h]
theorem spec_FGet_l0 (l : Bs) (hl : l.length ≤ 600) (ps : List Bs) (hn : ps.length ≤ 1000) (hp : ∀ s ∈ ps, s.length ≤ 600) (d : Nat) : ∀ i : Nat, i + d = ps.length → Ev (fun k => spec_FormGet.l0 k (B l) ((pairsOf (ps.take i)).map toP) (ps.map B) i) ((pairsOf ps).map toP) := by
  induction d with
  | zero =>
    intro i hi
    refine Ev.step (fun k => by rw [spec_FormGet.l0]) ?_
    simp only [List.length_map, if_neg (show ¬ (i : Int) < (ps.length : Int) by omega)]
    refine ev_1 fun k => ?_
    simp only [spec_FormGet.j1, Bool.false_eq_true, if_false]
    rw [List.take_of_length_le (by omega)]
  | succ d ih =>
    intro i hi
    have hlt : i < ps.length := by omega
    have hi0 : (0 : Int) ≤ (i : Int) := by omega
    have hi1 : (i : Int) < (ps.length : Int) := by omega
    have hw : wrap64 ((i : Int) + 1) = ((i + 1 : Nat) : Int) := by rw [w64 (by omega) (by omega)]; rfl
    have hs := hp ps[i] (List.getElem_mem hlt)
    have hst := pairsOf_take ps i hlt
    have e := ih (i + 1) (by omega)
    rw [hst] at e
    have hpo := pairsOf_len (ps.take i)
    have hln : ((pairsOf (ps.take i)).map toP).length < 4398046511104 := by
      rw [List.length_map]
      have : (ps.take i).length ≤ ps.length := by simp; omega
      omega
    refine Ev.step (fun k => by rw [spec_FormGet.l0]) ?_
    simp only [List.length_map, if_pos hi1, B_size, decide_eq_true (show (l.length : Int) ≤ 600 by omega)]
    refine Ev.step (fun k => by rw [spec_FormGet.j1]) ?_
    simp only [if_true, List.length_map, if_pos hi0, if_pos hi1, rd_ps ps i hlt, B_toList, B_size, hw]
    by_cases c : ps[i] = []
    · rw [if_pos c, List.append_nil] at e
      simp only [if_pos c]
      exact e
    · rw [if_neg c, List.map_append] at e
      simp only [if_neg c]
      have k61 : (⟨#[61]⟩ : ByteArray) = B [61] := rfl
      have hle := ixC_le 61 ps[i]
      have hat := spec_At 61 ps[i] (by omega)
      have l1 : (cutAh 61 ps[i]).length ≤ 1000000 := by have := cutAh_le 61 ps[i]; omega
      have l2 : (cutBe 61 ps[i]).length ≤ 1000000 := by have := cutBe_le 61 ps[i]; omega
      have p1 := plus_some _ l1
      have p2 := plus_some _ l2
      have hpr : pairOf ps[i] = (decodeMax (swapC 43 32 (cutAh 61 ps[i])), decodeMax (swapC 43 32 (cutBe 61 ps[i]))) := by
        unfold pairOf; rw [swap_cutAh, swap_cutBe]
      have htp : [pairOf ps[i]].map toP = [⟨B (decodeMax (swapC 43 32 (cutAh 61 ps[i]))), B (decodeMax (swapC 43 32 (cutBe 61 ps[i])))⟩] := by rw [hpr]; rfl
      rw [htp] at e
      have e1 : (B ps[i]).extract 0 (ixC 61 ps[i]) = B (cutAh 61 ps[i]) := by
        rw [B_extract, List.drop_zero, Nat.sub_zero, ← cutAh_take]
      have e2 : (B ps[i]).extract (ixC 61 ps[i] + 1) ps[i].length = B (cutBe 61 ps[i]) := by
        rw [B_extract, List.take_of_length_le (by simp), ← cutBe_drop]
      have e3 : ¬ ixC 61 ps[i] < ps[i].length → decodeMax (swapC 43 32 (cutBe 61 ps[i])) = [] := by
        intro c2
        rw [cutBe_drop, List.drop_eq_nil_of_le (by omega)]
        show decodeMax [] = []
        unfold decodeMax; simp [decode_nil]
      rw [List.length_map] at hln
      clear hpr htp hst hpo ih hw l1 l2
      generalize decodeMax (swapC 43 32 (cutAh 61 ps[i])) = z1 at p1 e ⊢
      generalize decodeMax (swapC 43 32 (cutBe 61 ps[i])) = z2 at p2 e e3 ⊢
      generalize cutAh 61 ps[i] = y1 at p1 e1 ⊢
      generalize cutBe 61 ps[i] = y2 at p2 e2 ⊢
      generalize ixC 61 ps[i] = m at hle hat e1 e2 e3 ⊢
      generalize ps[i] = s at hs hle hat e1 e2 e3 c ⊢
      simp only [k61]
      refine ev_bind hat ?_
      simp only [Int.toNat_natCast, if_pos (show (0 : Int) ≤ (m : Int) by omega), if_pos (show (m : Int) ≤ (s.length : Int) by omega), e1, p1, Option.bind_some]
      by_cases c2 : m < s.length
      · have w2 : wrap64 ((m : Int) + 1) = ((m + 1 : Nat) : Int) := by rw [w64 (by omega) (by omega)]; rfl
        simp only [if_pos (show (m : Int) < (s.length : Int) by omega), w2, Int.toNat_natCast, if_pos (show (0 : Int) ≤ ((m + 1 : Nat) : Int) by omega), if_pos (show ((m + 1 : Nat) : Int) ≤ (s.length : Int) by omega), e2, p2, Option.bind_some, if_pos hln]
        exact e
      · have kz : (⟨#[]⟩ : ByteArray) = B [] := rfl
        rw [e3 c2] at e
        simp only [if_neg (show ¬ (m : Int) < (s.length : Int) by omega), if_pos hln, kz]
        exact e
theorem splitC_count (c : UInt8) (l : Bs) : (splitC c l).length ≤ l.length + 1 := by
  have h1 := splitC_length c l
  have h2 := List.count_le_length (a := c) (l := l)
  omega
theorem spec_FGet (l : Bs) (hl : l.length ≤ 8796093022207) : Ev (fun k => spec_FormGet.f k (B l)) ((formGet l).map toP) := by
  unfold spec_FormGet.f
  refine ev_bind (spec_Cut 38 38 rfl (by decide) l hl) ?_
  unfold formGet
  by_cases c : l.length ≤ 600
  · rw [if_pos c]
    have := spec_FGet_l0 l c (splitC 38 l) (by have := splitC_count 38 l; omega) (fun s hs => by have := splitC_each 38 l s hs; omega) (splitC 38 l).length 0 (by omega)
    exact this
  · rw [if_neg c]
    refine Ev.step (fun k => by rw [spec_FormGet.l0]) ?_
    have hd : decide ((l.length : Int) ≤ 600) = false := decide_eq_false (by omega)
    have fin : Ev (fun k => spec_FormGet.j1 k (B l) [] ((splitC 38 l).map B) 0 false) ([] : List S71) := ev_1 fun k => by simp only [spec_FormGet.j1, Bool.false_eq_true, if_false]
    simp only [B_size, hd]
    by_cases z : (0 : Int) < (((splitC 38 l).map B).length : Int)
    · simp only [if_pos z]; exact fin
    · simp only [if_neg z]; exact fin
theorem impl_FGet (l : Bs) : impl_FormGet.f (B l) = some ((formGet l).map toP) := by unfold impl_FormGet.f; rw [B_data]
theorem formGet_len (l : Bs) : (formGet l).length ≤ 601 := by
  unfold formGet; split
  · have h1 := pairsOf_len (splitC 38 l); have h2 := splitC_count 38 l; omega
  · simp

theorem beq_self (s : ByteArray) : (s.toList == s.toList) = true := by simp
theorem pairs_same (p : List S71) (hp : p.length ≤ 1000000) : Ev (fun k => laws_guPairs.f k p p) true := by
  unfold laws_guPairs.f
  simp only [if_true]
  have go : ∀ (d i : Nat), i + d = p.length → Ev (fun k => laws_guPairs.l0 k p p i) true := by
    intro d
    induction d with
    | zero =>
      intro i hi
      refine ev_1 fun k => ?_
      simp only [laws_guPairs.l0]; rw [if_neg (by omega)]
    | succ d ih =>
      intro i hi
      have hi0 : (0 : Int) ≤ (i : Int) := by omega
      have hi1 : (i : Int) < (p.length : Int) := by omega
      have hw : wrap64 ((i : Int) + 1) = ((i + 1 : Nat) : Int) := by rw [w64 (by omega) (by omega)]; rfl
      refine Ev.step (fun k => by rw [laws_guPairs.l0]) ?_
      simp only [if_pos hi1, if_pos hi0, hw, beq_self_eq_true, Bool.not_true, Bool.or_self, Bool.false_eq_true, if_false]
      exact ih (i + 1) (by omega)
  exact go p.length 0 (by omega)

theorem ev_eq {α : Type} {g f : Nat → Option α} {r : α} (h : Ev f r) (e : ∀ k, g k = f k) : Ev g r := by
  obtain ⟨K, hK⟩ := h
  exact ⟨K, fun k hk => by rw [e k]; exact hK k hk⟩
def keeps (c : UInt8) : Bool := isLet c || isDig c || formS.contains c
theorem keeps_iff (c : UInt8) : keeps c = true ↔ ((97 ≤ c.toNat ∧ c.toNat ≤ 122) ∨ (65 ≤ c.toNat ∧ c.toNat ≤ 90) ∨ (48 ≤ c.toNat ∧ c.toNat ≤ 57) ∨ c.toNat = 42 ∨ c.toNat = 45 ∨ c.toNat = 46 ∨ c.toNat = 95) := by
  unfold keeps isLet isDig formS
  have e : ∀ n : Nat, n < 256 → (c = UInt8.ofNat n ↔ c.toNat = n) := by
    intro n hn; rw [← UInt8.toNat_inj]; simp; omega
  have e1 := e 42 (by decide)
  have e2 := e 45 (by decide)
  have e3 := e 46 (by decide)
  have e4 := e 95 (by decide)
  simp only [UInt8.reduceOfNat] at e1 e2 e3 e4
  simp only [Bool.or_eq_true, Bool.and_eq_true, decide_eq_true_eq, List.contains_cons, beq_iff_eq, List.contains_nil, Bool.false_eq_true, or_false, e1, e2, e3, e4]
  omega
theorem fig_at (n : Nat) (h : n < 16) : bt (⟨#[48, 49, 50, 51, 52, 53, 54, 55, 56, 57, 65, 66, 67, 68, 69, 70]⟩ : ByteArray) ((n : Nat) : Int) = ((fig n).toNat : Int) := by
  have : (⟨#[48, 49, 50, 51, 52, 53, 54, 55, 56, 57, 65, 66, 67, 68, 69, 70]⟩ : ByteArray) = B figs := rfl
  rw [this, bt_B, Int.toNat_natCast]; rfl
theorem spec_Figure (n : Nat) (h : n < 16) : spec_l1Figure.f ((n : Nat) : Int) = some (((fig n).toNat : Nat) : Int) := by
  unfold spec_l1Figure.f
  rw [if_pos (by omega), if_pos (by omega), fig_at n h]
theorem tq1 (c : UInt8) : Int.tdiv (wrap64 ((c.toNat : Nat) : Int)) 16 = ((c.toNat / 16 : Nat) : Int) := by
  have := lt256 c
  rw [w64 (by omega) (by omega), Int.tdiv_eq_ediv_of_nonneg (by omega)]; rfl
theorem tq2 (c : UInt8) : Int.tmod (wrap64 ((c.toNat : Nat) : Int)) 16 = ((c.toNat % 16 : Nat) : Int) := by
  have := lt256 c
  rw [w64 (by omega) (by omega), Int.tmod_eq_emod_of_nonneg (by omega)]; rfl
theorem tq3 (c : UInt8) : wrap64 ((c.toNat / 16 : Nat) : Int) = ((c.toNat / 16 : Nat) : Int) := by
  have := lt256 c
  exact w64 (by omega) (by omega)
theorem tq4 (c : UInt8) : c.toNat / 16 < 16 := by have := lt256 c; omega
set_option maxHeartbeats 4000000 in
theorem spec_Piece_l0 (l : Bs) (hl : l.length ≤ 1048576) (d : Nat) : ∀ i : Nat, i + d = l.length → Ev (fun k => spec_l1Piece.l0 k (B l) (ns (formB (l.take i))) i) (B (formB l)) := by
  induction d with
  | zero =>
    intro i hi
    refine ev_1 fun k => ?_
    simp only [spec_l1Piece.l0]
    rw [if_neg (by rw [B_size]; omega), str_ns, List.take_of_length_le (by omega)]
  | succ d ih =>
    intro i hi
    have hlt : i < l.length := by omega
    have hi0 : (0 : Int) ≤ (i : Int) := by omega
    have hi1 : (i : Int) < (l.length : Int) := by omega
    have hw : wrap64 ((i : Int) + 1) = ((i + 1 : Nat) : Int) := by rw [w64 (by omega) (by omega)]; rfl
    have e := ih (i + 1) (by omega)
    rw [formB_take l i hlt, ns_append] at e
    have hfl := (formB_len (l.take i)).2
    have hfl' : (formB (l.take i)).length ≤ 3145728 := by
      have : (l.take i).length = i := by simp; omega
      omega
    have hln : (ns (formB (l.take i))).length < 140737488355328 := by rw [ns_length]; omega
    have j1 : ∀ b : Bool, b = keeps l[i] → l[i] ≠ 32 → Ev (fun k => spec_l1Piece.j1 k (B l) (ns (formB (l.take i))) i ((l[i].toNat : Nat) : Int) b) (B (formB l)) := by
      intro b hb h32
      refine Ev.step (fun k => by rw [spec_l1Piece.j1]) ?_
      cases b with
      | true =>
        have hk : (isLet l[i] || isDig l[i] || formS.contains l[i]) = true := hb.symm
        have hc : formC l[i] = [l[i]] := by unfold formC; rw [if_pos hk]
        rw [hc, ns_one] at e
        simp only [if_true, if_pos hln, hw]; exact e
      | false =>
        have hc : formC l[i] = pct l[i] := by unfold formC; rw [if_neg (show ¬ _ = true by rw [show (isLet l[i] || isDig l[i] || formS.contains l[i]) = keeps l[i] from rfl, ← hb]; simp), if_neg h32]
        rw [hc] at e
        have q1 := tq1 l[i]
        have q2 := tq2 l[i]
        have q3 := tq3 l[i]
        have q4 : l[i].toNat / 16 < 16 := tq4 l[i]
        have q5 : l[i].toNat % 16 < 16 := Nat.mod_lt _ (by decide)
        simp only [Bool.false_eq_true, if_false, q1, q2, q3, spec_Figure _ q4, spec_Figure _ q5, Option.bind_some, hw]
        simp only [if_pos (show (ns (formB (l.take i))).length + ([37, ((fig (l[i].toNat / 16)).toNat : Int), ((fig (l[i].toNat % 16)).toNat : Int)] : List Int).length < 140737488355328 by rw [ns_length]; simp; omega)]
        exact e
    refine Ev.step (fun k => by rw [spec_l1Piece.l0]) ?_
    simp only [B_size, bt_B, Int.toNat_natCast, get_eq hlt, if_pos hi0, if_pos hi1, hw]
    by_cases h32 : l[i] = 32
    · have hc : formC l[i] = [43] := by rw [h32]; rfl
      rw [hc] at e
      simp only [if_pos (show ((l[i].toNat : Nat) : Int) = 32 from (byte_eq _ 32 (by decide)).2 h32), if_pos hln]
      exact e
    · simp only [if_neg (show ¬ ((l[i].toNat : Nat) : Int) = 32 from fun z => h32 ((byte_eq _ 32 (by decide)).1 z))]
      have hk := keeps_iff l[i]
      refine ev_eq (j1 (keeps l[i]) rfl h32) fun k => ?_
      have hb : keeps l[i] = decide ((97 ≤ l[i].toNat ∧ l[i].toNat ≤ 122) ∨ (65 ≤ l[i].toNat ∧ l[i].toNat ≤ 90) ∨ (48 ≤ l[i].toNat ∧ l[i].toNat ≤ 57) ∨ l[i].toNat = 42 ∨ l[i].toNat = 45 ∨ l[i].toNat = 46 ∨ l[i].toNat = 95) := by
        apply bool_eq; rw [hk, decide_eq_true_eq]
      rw [hb]
      clear hb hk j1 e ih h32
      generalize l[i].toNat = n
      have t : ∀ p : Prop, [Decidable p] → p → decide p = true := fun p _ h => decide_eq_true h
      have f : ∀ b : Bool, ∀ p : Prop, [Decidable p] → (b = true ↔ p) → b = decide p := fun b p _ h => by apply bool_eq; rw [h, decide_eq_true_eq]
      repeat' (first | (refine congrArg _ ?_; first | exact (t _ (by omega)).symm | exact f _ _ (by rw [beq_iff_eq]; omega)) | split)
theorem spec_Piece (l : Bs) (hl : l.length ≤ 1048576) : Ev (fun k => spec_l1Piece.f k (B l)) (B (formB l)) := by
  unfold spec_l1Piece.f
  exact spec_Piece_l0 l hl l.length 0 (by omega)

theorem fig_hex (m : Nat) (h : m < 16) : hexI (fig m) = (m : Int) := by
  have : ∀ m : Nat, m < 16 → hexI (fig m) = (m : Int) := by decide
  exact this m h
theorem esc_pct (x : UInt8) (t : Bs) : pctDec (pct x ++ t) = x :: pctDec t := by
  have h1 := tq4 x
  have h2 : x.toNat % 16 < 16 := Nat.mod_lt _ (by decide)
  have a1 := fig_hex _ h1
  have a2 := fig_hex _ h2
  show pctDec (37 :: fig (x.toNat / 16) :: fig (x.toNat % 16) :: t) = _
  rw [pctDec, if_pos ⟨rfl, by omega, by omega⟩]
  congr 1
  unfold escByte
  rw [a1, a2]
  have : (16 * ((x.toNat / 16 : Nat) : Int) + ((x.toNat % 16 : Nat) : Int)).toNat = x.toNat := by omega
  rw [this, UInt8.ofNat_toNat]
theorem pctDec_other (c : UInt8) (t : Bs) (h : c ≠ 37) : pctDec (c :: t) = c :: pctDec t := by
  have he : escAt (c :: t) 0 = false := by unfold escAt; simp [h]
  have := decode_at (c :: t) 0 (by simp)
  rw [he] at this
  simpa using this

def ptot (l : List S71) : Nat := (l.map fun x => x.f0.size + x.f1.size).sum
theorem ptot_take (l : List S71) (i : Nat) (h : i < l.length) : ptot (l.take (i + 1)) = ptot (l.take i) + (l[i].f0.size + l[i].f1.size) := by
  unfold ptot; rw [List.take_succ_eq_append_getElem h, List.map_append, List.sum_append]; simp
theorem ptot_take_le (l : List S71) (i : Nat) : ptot (l.take i) ≤ ptot l := by
  conv => rhs; rw [← List.take_append_drop i l]
  unfold ptot; rw [List.map_append, List.sum_append]; omega
theorem rdP (l : List S71) (i : Nat) (h : i < l.length) : rd_T71 l ((i : Nat) : Int) = l[i] := by
  unfold rd_T71
  rw [Int.toNat_natCast, List.getD_eq_getElem?_getD, List.getElem?_eq_getElem h]; rfl
/-- A pair as it is written. -/
def pair (x : S71) : Bs := formB x.f0.data.toList ++ 61 :: formB x.f1.data.toList
theorem pair_len (x : S71) : (pair x).length ≤ 3 * (x.f0.size + x.f1.size) + 1 := by
  have h1 := (formB_len x.f0.data.toList).2
  have h2 := (formB_len x.f1.data.toList).2
  have e1 : x.f0.data.toList.length = x.f0.size := by simp
  have e2 : x.f1.data.toList.length = x.f1.size := by simp
  unfold pair
  rw [List.length_append, List.length_cons]; omega
theorem joined_len (l : List S71) : (joinB [38] (l.map pair)).length ≤ 3 * ptot l + 2 * l.length := by
  rw [joinB_len, List.map_map, List.length_map]
  have : (List.map (List.length ∘ pair) l).sum ≤ 3 * ptot l + l.length := by
    induction l with
    | nil => simp [ptot]
    | cons a t ih =>
      have := pair_len a
      simp only [List.map_cons, List.sum_cons, ptot, List.length_cons, Function.comp] at ih ⊢
      omega
  have e : ([38] : Bs).length = 1 := rfl
  rw [e]; omega
theorem map_take1 (l : List S71) (i : Nat) (h : i < l.length) : (l.take (i + 1)).map pair = (l.take i).map pair ++ [pair l[i]] := by
  rw [List.take_succ_eq_append_getElem h, List.map_append]; rfl
theorem form_some (s : ByteArray) (hs : s.size ≤ 1048576) : impl_form.f s = some (B (formB s.data.toList)) := by
  have h1 := (formB_len s.data.toList).2
  have e1 : s.data.toList.length = s.size := by simp
  unfold impl_form.f; rw [if_pos (by omega)]
theorem piece_any (s : ByteArray) (hs : s.size ≤ 1048576) : Ev (fun k => spec_l1Piece.f k s) (B (formB s.data.toList)) := by
  obtain ⟨q, rfl⟩ := exB s
  rw [B_data]
  exact spec_Piece q (by simpa using hs)
theorem elem_le (l : List S71) (i : Nat) (h : i < l.length) (ht : ptot l ≤ 1048576) : l[i].f0.size ≤ 1048576 ∧ l[i].f1.size ≤ 1048576 := by
  have h1 := ptot_take l i h
  have h2 := ptot_take_le l (i + 1)
  omega
theorem spec_FPut (l : List S71) (hl : l.length ≤ 1048576) (ht : ptot l ≤ 1048576) : Ev (fun k => spec_FormPut.f k l) (B (joinB [38] (l.map pair))) := by
  unfold spec_FormPut.f
  have go : ∀ (d i : Nat), i + d = l.length → Ev (fun k => spec_FormPut.l0 k l (B (joinB [38] ((l.take i).map pair))) i) (B (joinB [38] (l.map pair))) := by
    intro d
    induction d with
    | zero =>
      intro i hi
      refine ev_1 fun k => ?_
      simp only [spec_FormPut.l0, List.length_map]
      rw [if_neg (by omega), List.take_of_length_le (by omega)]
    | succ d ih =>
      intro i hi
      have hlt : i < l.length := by omega
      have hi0 : (0 : Int) ≤ (i : Int) := by omega
      have hi1 : (i : Int) < (l.length : Int) := by omega
      have hw : wrap64 ((i : Int) + 1) = ((i + 1 : Nat) : Int) := by rw [w64 (by omega) (by omega)]; rfl
      have hel := elem_le l i hlt ht
      have hj := joined_len (l.take i)
      have hpt := ptot_take_le l i
      have hln : (l.take i).length = i := by simp; omega
      have hp := pair_len l[i]
      have p0 := piece_any l[i].f0 hel.1
      have p1 := piece_any l[i].f1 hel.2
      have e := ih (i + 1) (by omega)
      rw [map_take1 l i hlt] at e
      have b1 := (formB_len l[i].f0.data.toList).2
      have b2 := (formB_len l[i].f1.data.toList).2
      have c1 : l[i].f0.data.toList.length = l[i].f0.size := by simp
      have c2 : l[i].f1.data.toList.length = l[i].f1.size := by simp
      have k38 : (⟨#[38]⟩ : ByteArray) = B [38] := rfl
      have k61 : (⟨#[61]⟩ : ByteArray) = B [61] := rfl
      refine Ev.step (fun k => by rw [spec_FormPut.l0]) ?_
      simp only [List.length_map, if_pos hi1, if_pos hi0, rdP l i hlt, hw, k38, k61]
      by_cases hz : i = 0
      · subst hz
        simp only [if_neg (show ¬ ((0 : Nat) : Int) > 0 by omega)]
        refine ev_bind p0 ?_
        simp only [B_append, B_size, List.length_append, List.length_cons, List.length_nil]
        simp only [if_pos (show (joinB [38] ((l.take 0).map pair)).length + (formB l[0].f0.data.toList).length ≤ 9223372036854775807 by omega),
          if_pos (show (joinB [38] ((l.take 0).map pair)).length + (formB l[0].f0.data.toList).length + 1 ≤ 9223372036854775807 by omega)]
        refine ev_bind p1 ?_
        simp only [B_append, B_size, List.length_append, List.length_cons, List.length_nil]
        simp only [if_pos (show (joinB [38] ((l.take 0).map pair)).length + (formB l[0].f0.data.toList).length + (0 + 1) + (formB l[0].f1.data.toList).length ≤ 9223372036854775807 by omega)]
        simpa [joinB, pair] using e
      · have hne : (l.take i).map pair ≠ [] := by
          intro q; have := congrArg List.length q; rw [List.length_map, hln, List.length_nil] at this; exact hz this
        rw [joinB_snoc _ _ _ hne] at e
        simp only [if_pos (show ((i : Nat) : Int) > 0 by omega), B_size]
        simp only [if_pos (show (joinB [38] ((l.take i).map pair)).length + 1 ≤ 9223372036854775807 by omega)]
        refine ev_bind p0 ?_
        simp only [B_append, B_size, List.length_append, List.length_cons, List.length_nil]
        simp only [if_pos (show (joinB [38] ((l.take i).map pair)).length + (0 + 1) + (formB l[i].f0.data.toList).length ≤ 9223372036854775807 by omega),
          if_pos (show (joinB [38] ((l.take i).map pair)).length + (0 + 1) + (formB l[i].f0.data.toList).length + 1 ≤ 9223372036854775807 by omega)]
        refine ev_bind p1 ?_
        simp only [B_append, B_size, List.length_append, List.length_cons, List.length_nil]
        simp only [if_pos (show (joinB [38] ((l.take i).map pair)).length + (0 + 1) + (formB l[i].f0.data.toList).length + (0 + 1) + (formB l[i].f1.data.toList).length ≤ 9223372036854775807 by omega)]
        simpa [pair] using e
  exact go l.length 0 (by omega)
theorem impl_FPut (l : List S71) (hl : l.length ≤ 1048576) (ht : ptot l ≤ 1048576) : Ev (fun k => impl_FormPut.f k l) (B (joinB [38] (l.map pair))) := by
  unfold impl_FormPut.f
  have go : ∀ (d i : Nat), i + d = l.length → Ev (fun k => impl_FormPut.l0 k ((l.take i).map fun x => B (pair x)) l (l.length : Int) i) (B (joinB [38] (l.map pair))) := by
    intro d
    induction d with
    | zero =>
      intro i hi
      refine ev_1 fun k => ?_
      simp only [impl_FormPut.l0]
      rw [if_neg (by omega), List.take_of_length_le (by omega)]
      have hb : bss (l.map fun x => B (pair x)) = l.map pair := by
        unfold bss; rw [List.map_map]; exact List.map_congr_left fun x _ => B_data _
      have : strings_Join.f (l.map fun x => B (pair x)) (⟨#[38]⟩ : ByteArray) = some (B (joinB [38] (l.map pair))) := by
        have hj := joined_len l
        unfold strings_Join.f
        have k38 : (⟨#[38]⟩ : ByteArray) = B [38] := rfl
        rw [k38, B_data, hb, if_pos ⟨by simp, by simp; omega, by omega⟩]
      rw [this]; rfl
    | succ d ih =>
      intro i hi
      have hlt : i < l.length := by omega
      have hi0 : (0 : Int) ≤ (i : Int) := by omega
      have hi1 : (i : Int) < (l.length : Int) := by omega
      have hw : wrap64 ((i : Int) + 1) = ((i + 1 : Nat) : Int) := by rw [w64 (by omega) (by omega)]; rfl
      have hel := elem_le l i hlt ht
      have b1 := (formB_len l[i].f0.data.toList).2
      have b2 := (formB_len l[i].f1.data.toList).2
      have c1 : l[i].f0.data.toList.length = l[i].f0.size := by simp
      have c2 : l[i].f1.data.toList.length = l[i].f1.size := by simp
      have k61 : (⟨#[61]⟩ : ByteArray) = B [61] := rfl
      have e := ih (i + 1) (by omega)
      have hm : (l.take (i + 1)).map (fun x => B (pair x)) = (l.take i).map (fun x => B (pair x)) ++ [B (pair l[i])] := by
        rw [List.take_succ_eq_append_getElem hlt, List.map_append]; rfl
      rw [hm] at e
      have hln : ((l.take i).map (fun x => B (pair x))).length < 8796093022208 := by rw [List.length_map, List.length_take]; omega
      refine Ev.step (fun k => by rw [impl_FormPut.l0]) ?_
      simp only [List.length_map, if_pos hi1, if_pos hi0, rdP l i hlt, hw, k61]
      have f0 : impl_form.f l[i].f0 = some (B (formB l[i].f0.data.toList)) := form_some _ hel.1
      have f1 : impl_form.f l[i].f1 = some (B (formB l[i].f1.data.toList)) := form_some _ hel.2
      simp only [f0, f1, Option.bind_some, B_append, B_size, List.length_append, List.length_cons, List.length_nil]
      simp only [if_pos (show (formB l[i].f0.data.toList).length + 1 ≤ 9223372036854775807 by omega), if_pos (show (formB l[i].f0.data.toList).length + (0 + 1) + (formB l[i].f1.data.toList).length ≤ 9223372036854775807 by omega)]
      rw [List.length_map] at hln
      simp only [if_pos hln]
      simpa [pair] using e
  exact go l.length 0 (by omega)

/-- A reader over these bytes may be asked some more times. -/
def RdOk (s : List Int) (p : Int) (n : Nat) : Prop := (∀ x ∈ s, 0 ≤ x ∧ x ≤ 255) ∧ s.length ≤ 2000 ∧ 0 ≤ p ∧ p + n ≤ 1000000000
theorem xor_nn (a b : Int) (ha : 0 ≤ a) (ha' : a < 4611686018427387904) (hb : 0 ≤ b) (hb' : b < 4611686018427387904) : 0 ≤ Go.bits .xor .i64 a b ∧ Go.bits .xor .i64 a b < 4611686018427387904 := by
  obtain ⟨a, rfl⟩ := Int.eq_ofNat_of_zero_le ha
  obtain ⟨b, rfl⟩ := Int.eq_ofNat_of_zero_le hb
  have hx : a ^^^ b < 2 ^ 62 := Nat.xor_lt_two_pow (by omega) (by omega)
  have h1 : (BitVec.ofInt 64 (a : Int)).toNat = a := by
    rw [BitVec.ofInt_natCast, BitVec.toNat_ofNat]; exact Nat.mod_eq_of_lt (by omega)
  have h2 : (BitVec.ofInt 64 (b : Int)).toNat = b := by
    rw [BitVec.ofInt_natCast, BitVec.toNat_ofNat]; exact Nat.mod_eq_of_lt (by omega)
  have e : Go.bits .xor .i64 (a : Int) (b : Int) = ((a ^^^ b : Nat) : Int) := by
    show IntKind.i64.wrap ((BitVec.ofInt 64 (a : Int) ^^^ BitVec.ofInt 64 (b : Int)).toNat : Int) = _
    rw [BitVec.toNat_xor, h1, h2, i64_w]
    exact w64 (by omega) (by omega)
  rw [e]; omega
theorem tmod_rng (a n : Int) (ha : 0 ≤ a) (hn : 0 < n) : 0 ≤ Int.tmod a n ∧ Int.tmod a n < n := by
  rw [Int.tmod_eq_emod_of_nonneg ha]; exact ⟨Int.emod_nonneg _ (by omega), Int.emod_lt_of_pos _ hn⟩
theorem tdiv_rng (a n : Int) (ha : 0 ≤ a) (hn : 0 < n) : 0 ≤ Int.tdiv a n ∧ Int.tdiv a n ≤ a := by
  rw [Int.tdiv_eq_ediv_of_nonneg ha]; exact ⟨Int.ediv_nonneg ha (by omega), Int.ediv_le_self _ ha⟩
theorem rd_rng {s : List Int} (h : ∀ x ∈ s, 0 ≤ x ∧ x ≤ 255) (i : Int) : 0 ≤ rd s i ∧ rd s i ≤ 255 := by
  unfold rd
  by_cases hi : i.toNat < s.length
  · rw [List.getD_eq_getElem?_getD, List.getElem?_eq_getElem hi]; exact h _ (List.getElem_mem hi)
  · rw [List.getD_eq_getElem?_getD, List.getElem?_eq_none (by omega)]; simp
theorem pick_some (k : Nat) (s : List Int) (p n : Int) {m : Nat} (h : RdOk s p (m + 1)) (hn : 1 ≤ n) (hn' : n ≤ 1000000) : ∃ r, spec_l1Rd_pick.f (k + 1) s p n = some (r, p + 1) ∧ 0 ≤ r ∧ r < n := by
  obtain ⟨hs, hl, hp, hp'⟩ := h
  unfold spec_l1Rd_pick.f
  rw [if_neg (by omega), w64 (n := p + 1) (by omega) (by omega)]
  simp only [spec_l1Rd_pick.j0]
  by_cases hz : s.length = 0
  · rw [if_pos (by simp [hz])]; exact ⟨0, rfl, by omega, by omega⟩
  · rw [if_neg (by simp; exact fun e => hz (by simp [e])), w64 (n := p + 1 - 1) (by omega) (by omega)]
    have e1 : p + 1 - 1 = p := by omega
    rw [e1]
    have hlen : (0 : Int) < s.length := by omega
    by_cases hlt : p < s.length
    · rw [if_pos hlt, if_pos hp, if_neg (by omega)]
      have hr := rd_rng hs p
      rw [w64 (n := rd s p) (by omega) (by omega)]
      obtain ⟨h1, h2⟩ := tmod_rng (rd s p) n hr.1 (by omega)
      exact ⟨_, rfl, h1, h2⟩
    · rw [if_neg hlt, if_neg (by omega)]
      rw [w64 (n := p * 7) (by omega) (by omega), w64 (n := p * 7 + 3) (by omega) (by omega)]
      obtain ⟨a1, a2⟩ := tmod_rng p s.length hp hlen
      obtain ⟨b1, b2⟩ := tmod_rng (p * 7 + 3) s.length (by omega) hlen
      rw [if_pos a1, if_pos a2, if_pos b1, if_pos b2, if_neg (by omega)]
      have ra := rd_rng hs (Int.tmod p s.length)
      have rb := rd_rng hs (Int.tmod (p * 7 + 3) s.length)
      generalize rd s (Int.tmod p s.length) = x at ra ⊢
      generalize rd s (Int.tmod (p * 7 + 3) s.length) = y at rb ⊢
      obtain ⟨d1, d2⟩ := tdiv_rng p s.length hp hlen
      generalize Int.tdiv p s.length = q at d1 d2 ⊢
      rw [w64 (n := x) (by omega) (by omega), w64 (n := y) (by omega) (by omega), w64 (n := x * 131) (by omega) (by omega), w64 (n := y * 1117) (by omega) (by omega), w64 (n := q) (by omega) (by omega), w64 (n := q * 53) (by omega) (by omega), w64 (n := p * 29) (by omega) (by omega),
        w64 (n := x * 131 + y * 1117) (by omega) (by omega), w64 (n := x * 131 + y * 1117 + p * 29) (by omega) (by omega), w64 (n := x * 131 + y * 1117 + p * 29 + q * 53) (by omega) (by omega)]
      have hz0 : 0 ≤ x * 131 + y * 1117 + p * 29 + q * 53 := by omega
      have hz1 : x * 131 + y * 1117 + p * 29 + q * 53 < 4611686018427387904 := by omega
      generalize x * 131 + y * 1117 + p * 29 + q * 53 = z at hz0 hz1 ⊢
      obtain ⟨t1, t2⟩ := tdiv_rng z 64 hz0 (by omega)
      rw [w64 (n := Int.tdiv z 64) (by omega) (by omega)]
      obtain ⟨x1, x2⟩ := xor_nn z (Int.tdiv z 64) hz0 hz1 t1 (by omega)
      obtain ⟨h1, h2⟩ := tmod_rng _ n x1 (by omega)
      exact ⟨_, rfl, h1, h2⟩
theorem RdOk.step {s : List Int} {p : Int} {m : Nat} (h : RdOk s p (m + 1)) : RdOk s (p + 1) m := ⟨h.1, h.2.1, by have := h.2.2.1; omega, by have := h.2.2.2; omega⟩
theorem l1Open_ok (l0 : List Int) (h : ∀ x ∈ l0, (Lit.int .u8 x).wf = true) (m : Nat) (hm : m ≤ 1000000000) : ∃ s, spec_l1Open.f l0 = some (s, 0) ∧ RdOk s 0 m := by
  have h' : ∀ x ∈ l0, 0 ≤ x ∧ x ≤ 255 := by
    intro x hx
    have := h x hx
    simp [Lit.wf, IntKind.min, IntKind.max, IntKind.bits, IntKind.signed] at this
    omega
  unfold spec_l1Open.f
  by_cases hl : (l0.length : Int) > 2000
  · rw [if_pos hl, if_pos (by omega)]
    exact ⟨_, rfl, fun x hx => h' x (List.mem_of_mem_take hx), by simp; omega, by omega, by omega⟩
  · rw [if_neg hl]
    exact ⟨_, rfl, h', by omega, by omega, by omega⟩
theorem pick_ev (s : List Int) (p n : Int) {m : Nat} (h : RdOk s p (m + 1)) (hn : 1 ≤ n) (hn' : n ≤ 1000000) : ∃ r, Ev (fun k => spec_l1Rd_pick.f k s p n) (r, p + 1) ∧ 0 ≤ r ∧ r < n := by
  obtain ⟨r, hr, h0, h1⟩ := pick_some 0 s p n h hn hn'
  exact ⟨r, Ev.of (fun k => spec_l1Rd_pick.mono _ _ _ k) hr, h0, h1⟩
theorem RdOk.less {s : List Int} {p : Int} {m n : Nat} (h : RdOk s p n) (hm : m ≤ n) : RdOk s p m := ⟨h.1, h.2.1, h.2.2.1, by have := h.2.2.2; omega⟩
theorem RdOk.skip {s : List Int} {p : Int} {m n : Nat} (h : RdOk s p (n + m)) : RdOk s (p + n) m := ⟨h.1, h.2.1, by have := h.2.2.1; omega, by have := h.2.2.2; omega⟩

theorem of_some (k : Nat) (s : List Int) (p : Int) {m : Nat} (h : RdOk s p (m + 1)) (l : List ByteArray) (hl : l ≠ []) (hl' : l.length ≤ 1000000) : ∃ x ∈ l, spec_l1Rd_of.f (k + 1) s p l = some (x, p + 1) := by
  have hpos : 0 < l.length := List.length_pos_iff.2 hl
  obtain ⟨r, hr, h0, h1⟩ := pick_some k s p l.length h (by omega) (by omega)
  refine ⟨rdOf ByteArray.empty l r, ?_, ?_⟩
  · unfold rdOf
    rw [List.getD_eq_getElem?_getD, List.getElem?_eq_getElem (show r.toNat < l.length by omega)]
    exact List.getElem_mem _
  · unfold spec_l1Rd_of.f
    rw [hr]
    simp only [Option.bind_some]
    rw [if_pos h0, if_pos h1]
theorem of_ev (s : List Int) (p : Int) {m : Nat} (h : RdOk s p (m + 1)) (l : List ByteArray) (hl : l ≠ []) (hl' : l.length ≤ 1000000) : ∃ x ∈ l, Ev (fun k => spec_l1Rd_of.f k s p l) (x, p + 1) := by
  obtain ⟨x, hx, e⟩ := of_some 0 s p h l hl hl'
  exact ⟨x, hx, Ev.of (fun k => spec_l1Rd_of.mono _ _ _ k) e⟩

theorem one_ev (s : List Int) (p : Int) {m : Nat} (h : RdOk s p (m + 1)) (l : List Int) (hl : l ≠ []) (hl' : l.length ≤ 1000000) : ∃ x ∈ l, Ev (fun k => spec_l1Rd_one.f k s p l) (x, p + 1) := by
  have hpos : 0 < l.length := List.length_pos_iff.2 hl
  obtain ⟨r, hr, h0, h1⟩ := pick_ev s p l.length h (by omega) (by omega)
  refine ⟨rd l r, ?_, ?_⟩
  · unfold rd
    rw [List.getD_eq_getElem?_getD, List.getElem?_eq_getElem (show r.toNat < l.length by omega)]
    exact List.getElem_mem _
  · unfold spec_l1Rd_one.f
    refine ev_bind hr ?_
    simp only [if_pos h0, if_pos h1]
    exact Ev.now _
theorem mod_byte (x : Int) : ∃ c : UInt8, x % 256 = ((c.toNat : Nat) : Int) := by
  refine ⟨UInt8.ofNat (x % 256).toNat, ?_⟩
  have h0 : 0 ≤ x % 256 := Int.emod_nonneg _ (by decide)
  have h1 : x % 256 < 256 := Int.emod_lt_of_pos _ (by decide)
  simp; omega
theorem bytes_l0 (s : List Int) : ∀ (n : Nat) (b : Bs) (p : Int) (m : Nat), b.length + n ≤ 100000 → RdOk s p (2 * n + m) → ∃ b' : Bs, b'.length = b.length + n ∧ Ev (fun k => spec_l11Bytes.l0 k n (ns b) s p) (B b', p + 2 * n) := by
  intro n
  induction n with
  | zero =>
    intro b p m hb h
    refine ⟨b, rfl, ev_1 fun k => ?_⟩
    simp only [spec_l11Bytes.l0]
    rw [if_neg (by omega), str_ns]; simp
  | succ n ih =>
    intro b p m hb h
    have h' : RdOk s p (2 * n + m + 1 + 1) := h.less (by omega)
    obtain ⟨r, hr, r0, r1⟩ := pick_ev s p 256 h' (by omega) (by omega)
    obtain ⟨x, _, hx⟩ := one_ev s _ h'.step [97, 98, 37, 47, 63, 35, 32, 43, 38, 61, 50, 70, 64, 58, 92, 46, 255, 0, 195, r] (by simp) (by simp)
    obtain ⟨c, hc⟩ := mod_byte x
    obtain ⟨b', hl, e⟩ := ih (b ++ [c]) (p + 1 + 1) m (by simp; omega) h'.step.step
    refine ⟨b', by simp at hl; omega, ?_⟩
    refine Ev.step (fun k => by rw [spec_l11Bytes.l0]) ?_
    simp only [if_pos (show ((n + 1 : Nat) : Int) > 0 by omega)]
    refine ev_bind hr ?_
    refine ev_bind hx ?_
    have hlen : (ns b).length < 140737488355328 := by simp; omega
    have hw : wrap64 (((n + 1 : Nat) : Int) - 1) = (n : Int) := by rw [w64 (by omega) (by omega)]; omega
    simp only [if_pos hlen, hc, hw]
    rw [ns_append, ns_one] at e
    have hp : p + 1 + 1 + 2 * (n : Int) = p + 2 * ((n + 1 : Nat) : Int) := by omega
    rw [hp] at e
    exact e
theorem bytes_ev (s : List Int) (n : Nat) (p : Int) (m : Nat) (hn : n ≤ 100000) (h : RdOk s p (2 * n + m)) : ∃ b : Bs, b.length = n ∧ Ev (fun k => spec_l11Bytes.f k s p n) (B b, p + 2 * n) := by
  obtain ⟨b, hb, e⟩ := bytes_l0 s n [] p m (by simpa using hn) h
  exact ⟨b, by simpa using hb, e⟩

theorem draw_form (l0 : List Int) (hb : ∀ x ∈ l0, (Lit.int .u8 x).wf = true) : ∃ l : Bs, l.length ≤ 20 ∧ Ev (fun k => spec_DrawFormGet.f k l0) (B l) := by
  obtain ⟨s, hs, hok⟩ := l1Open_ok l0 hb 199 (by omega)
  unfold spec_DrawFormGet.f
  simp only [hs, Option.bind_some]
  obtain ⟨a, ha, a0, a1⟩ := pick_ev s 0 2 hok (by omega) (by omega)
  by_cases hz : a = 0
  · obtain ⟨x, hx, hxe⟩ := of_ev s _ hok.step ([(⟨#[97, 61, 98, 38, 99, 61, 100]⟩ : ByteArray), (⟨#[97]⟩ : ByteArray), (⟨#[61]⟩ : ByteArray), (⟨#[38, 38]⟩ : ByteArray), (⟨#[97, 61, 98, 61, 99]⟩ : ByteArray), (⟨#[97, 43, 98, 61, 37, 50, 48]⟩ : ByteArray), (⟨#[120, 61, 49, 38, 120, 61, 50]⟩ : ByteArray), (⟨#[]⟩ : ByteArray)] : List ByteArray) (by simp) (by simp)
    have sx : x.size ≤ 10 := by
      simp only [List.mem_cons, List.not_mem_nil, or_false] at hx
      rcases hx with rfl | rfl | rfl | rfl | rfl | rfl | rfl | rfl <;> decide
    obtain ⟨l, rfl, hl⟩ := exBn x _ sx
    refine ⟨l, by omega, ev_bind ha ?_⟩
    simp only [if_pos hz]
    refine ev_bind hxe ?_
    exact Ev.now _
  · obtain ⟨b, hb', b0, b1⟩ := pick_ev s _ 12 hok.step (by omega) (by omega)
    obtain ⟨n, rfl⟩ := Int.eq_ofNat_of_zero_le b0
    obtain ⟨y, hy, hye⟩ := bytes_ev s n _ 80 (by omega) (hok.step.step.less (by omega))
    refine ⟨y, by omega, ev_bind ha ?_⟩
    simp only [if_neg hz]
    refine ev_bind hb' ?_
    refine ev_bind hye ?_
    exact Ev.now _

theorem decM_len (l : Bs) : (decodeMax l).length ≤ l.length := by
  unfold decodeMax; split
  · exact decode_length l
  · simp
theorem kept_ne (c : UInt8) (h : (isLet c || isDig c || formS.contains c) = true) : c ≠ 43 ∧ c ≠ 37 ∧ c ≠ 38 ∧ c ≠ 61 := by
  have : ∀ m : Nat, m < 256 → (isLet (UInt8.ofNat m) || isDig (UInt8.ofNat m) || formS.contains (UInt8.ofNat m)) = true → UInt8.ofNat m ≠ 43 ∧ UInt8.ofNat m ≠ 37 ∧ UInt8.ofNat m ≠ 38 ∧ UInt8.ofNat m ≠ 61 := by decide +kernel
  have e := this c.toNat c.toNat_lt
  rw [UInt8.ofNat_toNat] at e; exact e h
theorem fig_ne (n : Nat) (h : n < 16) : fig n ≠ 43 ∧ fig n ≠ 38 ∧ fig n ≠ 61 := by
  have : ∀ n, n < 16 → fig n ≠ 43 ∧ fig n ≠ 38 ∧ fig n ≠ 61 := by decide +kernel
  exact this n h
theorem swap_cons (x : UInt8) (t : Bs) : swapC 43 32 (x :: t) = (if x = 43 then 32 else x) :: swapC 43 32 t := rfl
theorem unform (l : Bs) : pctDec (swapC 43 32 (formB l)) = l := by
  induction l with
  | nil => exact decode_nil
  | cons c t ih =>
    have e0 : formB (c :: t) = formC c ++ formB t := rfl
    rw [e0]
    unfold formC
    by_cases h : (isLet c || isDig c || formS.contains c) = true
    · have hk := kept_ne c h
      rw [if_pos h]
      show pctDec (swapC 43 32 (c :: formB t)) = _
      rw [swap_cons, if_neg hk.1, pctDec_other _ _ hk.2.1, ih]
    · rw [if_neg h]
      by_cases h2 : c = 32
      · rw [if_pos h2]
        show pctDec (swapC 43 32 (43 :: formB t)) = _
        rw [swap_cons, if_pos rfl, pctDec_other _ _ (by decide), ih, h2]
      · rw [if_neg h2]
        have hlt := c.toNat_lt
        have f1 := (fig_ne (c.toNat / 16) (by omega)).1
        have f2 := (fig_ne (c.toNat % 16) (Nat.mod_lt _ (by decide))).1
        show pctDec (swapC 43 32 (37 :: fig (c.toNat / 16) :: fig (c.toNat % 16) :: formB t)) = _
        rw [swap_cons, swap_cons, swap_cons, if_neg (by decide), if_neg f1, if_neg f2]
        have := esc_pct c (swapC 43 32 (formB t))
        rw [ih] at this
        exact this
theorem formB_ne (l : Bs) : ∀ b ∈ formB l, b ≠ 38 ∧ b ≠ 61 := by
  intro b hb
  obtain ⟨c, _, hc⟩ := List.mem_flatMap.1 hb
  unfold formC at hc
  split at hc
  · rename_i h; rw [List.mem_singleton.1 hc]; exact (kept_ne c h).2.2
  · split at hc
    · rw [List.mem_singleton.1 hc]; decide
    · have hlt := c.toNat_lt
      unfold pct at hc
      simp only [List.mem_cons, List.not_mem_nil, or_false] at hc
      rcases hc with rfl | rfl | rfl
      · decide
      · exact (fig_ne _ (by omega)).2
      · exact (fig_ne _ (Nat.mod_lt _ (by decide))).2
/-- A pair as form data. -/
def pieceF (p : Bs × Bs) : Bs := formB p.1 ++ 61 :: formB p.2
theorem pieceF_back (p : Bs × Bs) (h1 : p.1.length ≤ 200) (h2 : p.2.length ≤ 200) : pairOf (pieceF p) = p := by
  have d1 := (formB_len p.1).2
  have d2 := (formB_len p.2).2
  have hd : ∀ l : Bs, l.length ≤ 200 → decodeMax (swapC 43 32 (formB l)) = l := by
    intro l hl
    have := (formB_len l).2
    unfold decodeMax; rw [if_pos (by rw [swapC_length]; omega), unform]
  have e1 : cutAh 61 (pieceF p) = formB p.1 := cutAh_cut 61 _ _ (fun x hx => (formB_ne p.1 x hx).2)
  have e2 : cutBe 61 (pieceF p) = formB p.2 := cutBe_cut 61 _ _ (fun x hx => (formB_ne p.1 x hx).2)
  unfold pairOf
  rw [swap_cutAh, swap_cutBe, e1, e2, hd _ h1, hd _ h2]
theorem pieceF_38 (p : Bs × Bs) : ∀ x ∈ pieceF p, x ≠ 38 := by
  intro x hx
  unfold pieceF at hx
  rcases List.mem_append.1 hx with hx | hx
  · exact (formB_ne _ x hx).1
  · rcases List.mem_cons.1 hx with rfl | hx
    · decide
    · exact (formB_ne _ x hx).1
theorem split_join : ∀ (ps : List Bs), ps ≠ [] → (∀ p ∈ ps, ∀ x ∈ p, x ≠ 38) → splitC 38 (joinB [38] ps) = ps
  | [], h, _ => absurd rfl h
  | [a], _, h => splitC_plain 38 a (h a (by simp))
  | a :: b :: t, _, h => by
    have e : joinB [38] (a :: b :: t) = a ++ 38 :: joinB [38] (b :: t) := by simp [joinB]
    rw [e, splitC_cut 38 _ _ (h a (by simp)), split_join (b :: t) (by simp) (fun p hp => h p (by simp [hp]))]
theorem form_back (ps : List (Bs × Bs)) (h : ∀ p ∈ ps, p.1.length ≤ 200 ∧ p.2.length ≤ 200) (hl : (joinB [38] (ps.map pieceF)).length ≤ 600) : formGet (joinB [38] (ps.map pieceF)) = ps := by
  unfold formGet
  rw [if_pos hl]
  by_cases hz : ps = []
  · subst hz; rfl
  · rw [split_join _ (by simpa using hz) (fun p hp => by obtain ⟨q, _, rfl⟩ := List.mem_map.1 hp; exact pieceF_38 q)]
    unfold pairsOf
    have : (ps.map pieceF).filter (fun s => !s.isEmpty) = ps.map pieceF := by
      rw [List.filter_eq_self]
      intro s hs
      obtain ⟨q, _, rfl⟩ := List.mem_map.1 hs
      unfold pieceF; simp
    rw [this, List.map_map]
    conv => rhs; rw [← List.map_id ps]
    exact List.map_congr_left fun p hp => pieceF_back p (h p hp).1 (h p hp).2
theorem map_pieces (ps : List (Bs × Bs)) : (ps.map toP).map pair = ps.map pieceF := by
  rw [List.map_map]
  exact List.map_congr_left fun p _ => by simp [pair, toP, pieceF]
theorem ptot_toP (ps : List (Bs × Bs)) : ptot (ps.map toP) = (ps.map fun p => p.1.length + p.2.length).sum := by
  unfold ptot; rw [List.map_map]
  exact congrArg List.sum (List.map_congr_left fun p _ => by simp [toP])
theorem cut_sum (c : UInt8) (l : Bs) : (cutAh c l).length + (cutBe c l).length ≤ l.length := by
  induction l with
  | nil => exact Nat.le_refl _
  | cons x t ih =>
    rw [cutAh, cutBe]
    by_cases e : x = c
    · rw [if_pos e, if_pos e]; simp
    · rw [if_neg e, if_neg e]; simp; omega
theorem pairOf_len (s : Bs) : (pairOf s).1.length + (pairOf s).2.length ≤ s.length := by
  have h := cut_sum 61 (swapC 43 32 s)
  have h1 := decM_len (cutAh 61 (swapC 43 32 s))
  have h2 := decM_len (cutBe 61 (swapC 43 32 s))
  rw [swapC_length] at h
  show (decodeMax _).length + (decodeMax _).length ≤ _
  omega
theorem split_sum (c : UInt8) : ∀ l : Bs, ((splitC c l).map List.length).sum ≤ l.length
  | [] => by simp [splitC]
  | x :: t => by
    have ih := split_sum c t
    unfold splitC
    split
    · simp; omega
    · revert ih
      have := splitC_ne c t
      revert this
      cases splitC c t with
      | nil => simp
      | cons a r => intro _ ih; simp at ih ⊢; omega
theorem pairs_sum : ∀ ps : List Bs, ((pairsOf ps).map fun p => p.1.length + p.2.length).sum ≤ (ps.map List.length).sum
  | [] => by simp [pairsOf]
  | s :: t => by
    have ih := pairs_sum t
    unfold pairsOf at ih ⊢
    cases s with
    | nil => simpa using ih
    | cons c r =>
      have := pairOf_len (c :: r)
      simp at ih this ⊢; omega
theorem elem_sum (ps : List (Bs × Bs)) (p : Bs × Bs) (h : p ∈ ps) : p.1.length + p.2.length ≤ (ps.map fun p => p.1.length + p.2.length).sum := by
  induction ps with
  | nil => cases h
  | cons a t ih =>
    rcases List.mem_cons.1 h with rfl | h
    · simp
    · have := ih h; simp; omega
/-- What is written of few pairs is read again. -/
theorem put_get (ps : List (Bs × Bs)) (hn : ps.length ≤ 40) (hs : (ps.map fun p => p.1.length + p.2.length).sum ≤ 100) : Ev (fun k => impl_FormPut.f k (ps.map toP)) (B (joinB [38] (ps.map pieceF))) ∧ Ev (fun k => spec_FormPut.f k (ps.map toP)) (B (joinB [38] (ps.map pieceF))) ∧ formGet (joinB [38] (ps.map pieceF)) = ps := by
  have hp := ptot_toP ps
  have i1 := impl_FPut (ps.map toP) (by rw [List.length_map]; omega) (by omega)
  have s1 := spec_FPut (ps.map toP) (by rw [List.length_map]; omega) (by omega)
  have jl := joined_len (ps.map toP)
  rw [map_pieces] at i1 s1 jl
  rw [List.length_map] at jl
  exact ⟨i1, s1, form_back ps (fun p h => by have := elem_sum ps p h; omega) (by omega)⟩
theorem draw_put_l0 (s : List Int) : ∀ (n : Nat) (ps : List (Bs × Bs)) (p : Int) (m : Nat), ps.length + n ≤ 10 → RdOk s p (20 * n + m) → (ps.map fun p => p.1.length + p.2.length).sum ≤ 6 * ps.length → ∃ ps' : List (Bs × Bs), ps'.length = ps.length + n ∧ (ps'.map fun p => p.1.length + p.2.length).sum ≤ 6 * ps'.length ∧ Ev (fun k => spec_DrawFormPut.l0 k (ps.map toP) n s p) (ps'.map toP) := by
  intro n
  induction n with
  | zero =>
    intro ps p m hb h hs
    refine ⟨ps, by omega, hs, ev_1 fun k => ?_⟩
    simp only [spec_DrawFormPut.l0]
    rw [if_neg (by omega)]
  | succ n ih =>
    intro ps p m hb h hs
    obtain ⟨a, ha, a0, a1⟩ := pick_ev s p 4 (h.less (show 20 * n + m + 19 + 1 ≤ _ by omega)) (by omega) (by omega)
    obtain ⟨a, rfl⟩ := Int.eq_ofNat_of_zero_le a0
    have h1 : RdOk s (p + 1) (20 * n + m + 19) := (h.less (show 20 * n + m + 19 + 1 ≤ _ by omega)).step
    obtain ⟨x, hx, ex⟩ := bytes_ev s a (p + 1) (20 * n + m + 10) (by omega) (h1.less (by omega))
    have h2 : RdOk s (p + 1 + 2 * (a : Int)) (20 * n + m + 10) := by
      have := (h1.less (show 2 * a + (20 * n + m + 10) ≤ _ by omega)).skip
      have e : p + 1 + ((2 * a : Nat) : Int) = p + 1 + 2 * (a : Int) := by omega
      rw [e] at this; exact this
    obtain ⟨b, hb', b0, b1⟩ := pick_ev s _ 4 (h2.less (show 20 * n + m + 9 + 1 ≤ _ by omega)) (by omega) (by omega)
    obtain ⟨b, rfl⟩ := Int.eq_ofNat_of_zero_le b0
    have h3 : RdOk s (p + 1 + 2 * (a : Int) + 1) (20 * n + m + 9) := (h2.less (show 20 * n + m + 9 + 1 ≤ _ by omega)).step
    obtain ⟨y, hy, ey⟩ := bytes_ev s b _ (20 * n + m) (by omega) (h3.less (by omega))
    have h4 : RdOk s (p + 1 + 2 * (a : Int) + 1 + 2 * (b : Int)) (20 * n + m) := by
      have := (h3.less (show 2 * b + (20 * n + m) ≤ _ by omega)).skip
      have e : p + 1 + 2 * (a : Int) + 1 + ((2 * b : Nat) : Int) = p + 1 + 2 * (a : Int) + 1 + 2 * (b : Int) := by omega
      rw [e] at this; exact this
    obtain ⟨ps', hl, hsum, e⟩ := ih (ps ++ [(x, y)]) _ m (by simp; omega) h4 (by simp; omega)
    refine ⟨ps', by simp at hl; omega, hsum, ?_⟩
    refine Ev.step (fun k => by rw [spec_DrawFormPut.l0]) ?_
    simp only [if_pos (show ((n + 1 : Nat) : Int) > 0 by omega)]
    refine ev_bind ha ?_
    refine ev_bind ex ?_
    refine ev_bind hb' ?_
    refine ev_bind ey ?_
    have hw : wrap64 (((n + 1 : Nat) : Int) - 1) = (n : Int) := by rw [w64 (by omega) (by omega)]; omega
    simp only [List.length_map, if_pos (show ps.length < 4398046511104 by omega), hw]
    rw [List.map_append] at e
    exact e
theorem draw_put (l0 : List Int) (hb : ∀ x ∈ l0, (Lit.int .u8 x).wf = true) : ∃ ps : List (Bs × Bs), ps.length ≤ 3 ∧ (ps.map fun p => p.1.length + p.2.length).sum ≤ 18 ∧ Ev (fun k => spec_DrawFormPut.f k l0) (ps.map toP) := by
  obtain ⟨s, hs, hok⟩ := l1Open_ok l0 hb 199 (by omega)
  unfold spec_DrawFormPut.f
  simp only [hs, Option.bind_some]
  obtain ⟨a, ha, a0, a1⟩ := pick_ev s 0 4 hok (by omega) (by omega)
  obtain ⟨n, rfl⟩ := Int.eq_ofNat_of_zero_le a0
  obtain ⟨ps, hl, hsum, e⟩ := draw_put_l0 s n [] _ 10 (by simp; omega) (hok.step.less (by omega)) (by simp)
  refine ⟨ps, by simp at hl; omega, by simp at hl; omega, ?_⟩
  refine ev_bind ha ?_
  exact e
theorem FnForm : laws_FnForm.Pure := by
  intro l0 l1 _ _ hb _ _ hb1
  refine Ev.rounds ?_
  unfold laws_FnForm.f
  have now : Ev (fun k => laws_FnForm.j0 k l0 l1 true) true := ev_1 fun k => by simp only [laws_FnForm.j0, if_true]
  by_cases hl : (l0.length : Int) > 1048576
  · simp only [if_pos hl]; exact now
  simp only [if_neg hl]
  by_cases hm : (l1.length : Int) > 1048576
  · simp only [decide_eq_true hm]; exact now
  simp only [decide_eq_false hm]
  refine Ev.step (fun k => by rw [laws_FnForm.j0]) ?_
  simp only [Bool.false_eq_true, if_false]
  obtain ⟨ps, hpn, hps, hd⟩ := draw_put l0 hb
  obtain ⟨a, ha, hda⟩ := draw_form l1 hb1
  obtain ⟨i1, s1, g1⟩ := put_get ps (by omega) (by omega)
  refine ev_bind hd ?_
  refine ev_bind i1 ?_
  refine ev_bind s1 ?_
  simp only [if_true, impl_FGet, Option.bind_some, g1]
  refine ev_bind (pairs_same (ps.map toP) (by rw [List.length_map]; omega)) ?_
  simp only [Bool.not_true]
  refine Ev.step (fun k => by rw [laws_FnForm.j1]) ?_
  simp only [Bool.false_eq_true, if_false]
  refine ev_bind hda ?_
  simp only [impl_FGet, Option.bind_some]
  refine ev_bind (spec_FGet a (by omega)) ?_
  have hx1 : (formGet a).length ≤ 21 := by
    unfold formGet; rw [if_pos (by omega)]
    have h1 := pairsOf_len (splitC 38 a); have h2 := splitC_count 38 a; omega
  have hx2 : ((formGet a).map fun p => p.1.length + p.2.length).sum ≤ 20 := by
    unfold formGet; rw [if_pos (by omega)]
    have h1 := pairs_sum (splitC 38 a); have h2 := split_sum 38 a; omega
  generalize formGet a = xs at hx1 hx2 ⊢
  refine ev_bind (pairs_same (xs.map toP) (by rw [List.length_map]; omega)) ?_
  obtain ⟨i2, s2, g2⟩ := put_get xs (by omega) (by omega)
  simp only [if_true]
  refine ev_bind i2 ?_
  simp only [impl_FGet, Option.bind_some, g2]
  refine ev_bind (pairs_same (xs.map toP) (by rw [List.length_map]; omega)) ?_
  exact Ev.now _

end Go.Proofs.YtekeimhhffnjpaaDoor.Pure
