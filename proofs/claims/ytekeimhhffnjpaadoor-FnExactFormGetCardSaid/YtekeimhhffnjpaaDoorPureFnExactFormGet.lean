/- The pure side of the law FnExactFormGet: what the printed functions tell is what the law says, for every input within the law's bounds. -/
import Derived.Test.YtekeimhhffnjpaaDoorPFnExactFormGetx3
import Derived.Test.YtekeimhhffnjpaaDoorBase
import Derived.Test.YtekeimhhffnjpaaDoorHM
set_option linter.unusedVariables false
set_option linter.unusedSimpArgs false
namespace Go.Proofs.YtekeimhhffnjpaaDoor.Pure
open Go.RowKit Go.Proofs.YtekeimhhffnjpaaDoor.H Go.Proofs.YtekeimhhffnjpaaDoor.PFnExactFormGet Go.Proofs.YtekeimhhffnjpaaDoorW.PrintWords Go.Proofs.YtekeimhhffnjpaaDoorW.PrintLast Go.Proofs.YtekeimhhffnjpaaDoor.Base

theorem spec_Cut_l0 (c : UInt8) (l : Bs) (hl : l.length ≤ 8796093022207) (d : Nat) : ∀ (f i : Nat) (X : List ByteArray), i + d = l.length → f ≤ i → X.length ≤ f → (∀ x ∈ (l.drop f).take (i - f), x ≠ c) → Ev (fun k => spec_l1Cut.l0 k (B l) ((c.toNat : Nat) : Int) X f i) (X ++ (splitC c (l.drop f)).map B) := by
  induction d with
  | zero =>
    intro f i X hi hf hX h
    refine ev_1 fun k => ?_
    simp only [spec_l1Cut.l0]
    rw [if_neg (by rw [B_size]; omega), if_pos (by omega), if_pos (by rw [B_size]; omega), if_pos (by omega)]
    rw [List.take_of_length_le (by simp; omega)] at h
    rw [splitC_plain c _ h, Int.toNat_natCast, B_extract, B_size, List.take_of_length_le (by simp)]
    rfl
  | succ d ih =>
    intro f i X hi hf hX h
    have hlt : i < l.length := by omega
    refine Ev.step (fun k => by rw [spec_l1Cut.l0]) ?_
    have hi0 : (0 : Int) ≤ (i : Int) := by omega
    have hi1 : (i : Int) < (l.length : Int) := by omega
    have hi2 : (i : Int) ≤ (l.length : Int) := by omega
    have hw : wrap64 ((i : Int) + 1) = ((i + 1 : Nat) : Int) := by rw [w64 (by omega) (by omega)]; rfl
    simp only [B_size, bt_B, Int.toNat_natCast, get_eq hlt, if_pos hi0, if_pos hi1, if_pos hi2, hw]
    have hcat : l.drop f = (l.drop f).take (i - f) ++ l[i] :: l.drop (i + 1) := by
      conv => lhs; rw [← List.take_append_drop (i - f) (l.drop f)]
      rw [List.drop_drop, show f + (i - f) = i by omega, List.drop_eq_getElem_cons hlt]
    by_cases e : l[i] = c
    · have e1 : ((l[i].toNat : Nat) : Int) = ((c.toNat : Nat) : Int) := by rw [e]
      simp only [if_pos e1, if_pos (show (0 : Int) ≤ (f : Int) by omega), if_pos (show (f : Int) ≤ (i : Int) by omega), if_pos (show X.length < 8796093022208 by omega)]
      have := ih (i + 1) (i + 1) (X ++ [B ((l.drop f).take (i - f))]) (by omega) (by omega) (by simp; omega) (by simp)
      have hs : splitC c (l.drop f) = (l.drop f).take (i - f) :: splitC c (l.drop (i + 1)) := by
        conv => lhs; rw [hcat, e, splitC_cut c _ _ h]
      rw [B_extract, hs]
      simpa using this
    · have e1 : ¬ ((l[i].toNat : Nat) : Int) = ((c.toNat : Nat) : Int) := fun h => e (UInt8.toNat_inj.1 (by omega))
      simp only [if_neg e1]
      refine ih f (i + 1) X (by omega) (by omega) hX ?_
      have ht : (l.drop f).take (i + 1 - f) = (l.drop f).take (i - f) ++ [l[i]] := by
        rw [show i + 1 - f = (i - f) + 1 by omega, List.take_succ_eq_append_getElem (by simp; omega)]
        simp [show f + (i - f) = i by omega]
      rw [ht]
      intro x hx
      rcases List.mem_append.1 hx with hx | hx
      · exact h x hx
      · rw [List.mem_singleton.1 hx]; exact e
theorem spec_Cut (c : UInt8) (n : Nat) (hn : c = UInt8.ofNat n) (hn' : n < 256) (l : Bs) (hl : l.length ≤ 8796093022207) : Ev (fun k => spec_l1Cut.f k (B l) ((n : Nat) : Int)) ((splitC c l).map B) := by
  have e : ((n : Nat) : Int) = ((c.toNat : Nat) : Int) := by subst hn; simp; omega
  rw [e]
  unfold spec_l1Cut.f
  exact spec_Cut_l0 c l hl l.length 0 0 [] (by omega) (by omega) (by simp) (by simp)

/-- The place of the first byte c. -/
def ixC (c : UInt8) (l : Bs) : Nat := (cutAh c l).length
theorem ixC_le (c : UInt8) (l : Bs) : ixC c l ≤ l.length := cutAh_le c l
theorem cutAh_take (c : UInt8) : ∀ l : Bs, cutAh c l = l.take (ixC c l)
  | [] => rfl
  | x :: t => by
    unfold ixC cutAh
    by_cases e : x = c
    · rw [if_pos e]; rfl
    · rw [if_neg e]
      have := cutAh_take c t
      unfold ixC at this
      rw [List.length_cons, List.take_succ_cons, ← this]
theorem cutBe_drop (c : UInt8) : ∀ l : Bs, cutBe c l = l.drop (ixC c l + 1)
  | [] => rfl
  | x :: t => by
    unfold ixC cutBe cutAh
    by_cases e : x = c
    · rw [if_pos e, if_pos e]; rfl
    · rw [if_neg e, if_neg e]
      have := cutBe_drop c t
      unfold ixC at this
      rw [List.length_cons, List.drop_succ_cons, ← this]
theorem ixC_at (c : UInt8) (l : Bs) (h : 0 < l.length) : ixC c l = if l[0] = c then 0 else ixC c l.tail + 1 := by
  cases l with
  | nil => simp at h
  | cons x t =>
    show (cutAh c (x :: t)).length = if x = c then 0 else (cutAh c t).length + 1
    rw [cutAh]
    by_cases e : x = c
    · rw [if_pos e, if_pos e]; rfl
    · rw [if_neg e, if_neg e, List.length_cons]
theorem At_l0 (c : UInt8) (l : Bs) (hl : l.length ≤ 140737488355328) (d : Nat) : ∀ i : Nat, i + d = l.length → Ev (fun k => spec_l1At.l0 k (B l) (B [c]) i) ((i + ixC c (l.drop i) : Nat) : Int) := by
  induction d with
  | zero =>
    intro i hi
    refine ev_1 fun k => ?_
    simp only [spec_l1At.l0, B_size]
    rw [if_neg (by omega), List.drop_eq_nil_of_le (by omega)]
    have : ixC c [] = 0 := rfl
    rw [this]; congr 1; omega
  | succ d ih =>
    intro i hi
    have hlt : i < l.length := by omega
    have hi0 : (0 : Int) ≤ (i : Int) := by omega
    have hi1 : (i : Int) < (l.length : Int) := by omega
    have hw : wrap64 ((i : Int) + 1) = ((i + 1 : Nat) : Int) := by rw [w64 (by omega) (by omega)]; rfl
    have e0 : ixC c (l.drop i) = if l[i] = c then 0 else ixC c (l.drop (i + 1)) + 1 := by
      rw [ixC_at c (l.drop i) (by simp; omega)]
      have h1 : (l.drop i)[0]'(by simp; omega) = l[i] := by simp
      have h2 : (l.drop i).tail = l.drop (i + 1) := by simp
      rw [h1, h2]
    refine Ev.step (fun k => by rw [spec_l1At.l0]) ?_
    simp only [B_size, if_pos hi1]
    refine Ev.step (fun k => by rw [spec_l1At.l1]) ?_
    have hz : bt (B [c]) 0 = ((c.toNat : Nat) : Int) := by rw [bt_B]; rfl
    simp only [B_size, List.length_singleton, if_pos (show (0 : Int) < ((1 : Nat) : Int) by omega), if_pos (show (0 : Int) ≤ 0 by omega), if_pos hi0, if_pos hi1, bt_B, Int.toNat_natCast, get_eq hlt, hz]
    rw [e0]
    by_cases e : l[i] = c
    · have e1 : ((l[i].toNat : Nat) : Int) = ((List.getD [c] 0 0).toNat : Int) := by rw [e]; rfl
      rw [if_pos e]
      have : ((i + 0 : Nat) : Int) = (i : Int) := by omega
      rw [this]
      simp only [e]
      refine ev_1 fun k => ?_
      simp
    · rw [if_neg e]
      have hne : ¬ ((l[i].toNat : Nat) : Int) = ((c.toNat : Nat) : Int) := fun h => e (UInt8.toNat_inj.1 (by omega))
      have hg : ([c] : Bs)[(0 : Int).toNat]?.getD 0 = c := rfl
      simp only [hg, if_neg hne]
      refine Ev.step (fun k => by rw [spec_l1At.l1]) ?_
      have hw1 : wrap64 (0 + 1) = 1 := by decide +kernel
      simp only [hw1, B_size, List.length_singleton, if_neg (show ¬ (1 : Int) < ((1 : Nat) : Int) by omega), hw]
      have := ih (i + 1) (by omega)
      have e2 : i + (ixC c (l.drop (i + 1)) + 1) = i + 1 + ixC c (l.drop (i + 1)) := by omega
      rw [e2]
      exact this
theorem spec_At (c : UInt8) (l : Bs) (hl : l.length ≤ 140737488355328) : Ev (fun k => spec_l1At.f k (B l) (B [c])) ((ixC c l : Nat) : Int) := by
  unfold spec_l1At.f
  have := At_l0 c l hl l.length 0 (by omega)
  simpa using this

theorem swap_cutAh (l : Bs) : cutAh 61 (swapC 43 32 l) = swapC 43 32 (cutAh 61 l) := by
  induction l with
  | nil => rfl
  | cons x t ih =>
    have e0 : swapC 43 32 (x :: t) = (if x = 43 then 32 else x) :: swapC 43 32 t := rfl
    rw [e0, cutAh, cutAh]
    by_cases e : x = 61
    · subst e; rfl
    · have : ¬ (if x = 43 then (32 : UInt8) else x) = 61 := by split <;> simp_all
      rw [if_neg this, if_neg e, ih]; rfl
theorem swap_cutBe (l : Bs) : cutBe 61 (swapC 43 32 l) = swapC 43 32 (cutBe 61 l) := by
  induction l with
  | nil => rfl
  | cons x t ih =>
    have e0 : swapC 43 32 (x :: t) = (if x = 43 then 32 else x) :: swapC 43 32 t := rfl
    rw [e0, cutBe, cutBe]
    by_cases e : x = 61
    · subst e; rfl
    · have : ¬ (if x = 43 then (32 : UInt8) else x) = 61 := by split <;> simp_all
      rw [if_neg this, if_neg e, ih]
theorem plus_some (l : Bs) (h : l.length ≤ 1000000) : spec_l1Plus.f (B l) = some (B (decodeMax (swapC 43 32 l))) := by
  unfold spec_l1Plus.f
  rw [B_size, if_pos (by omega), B_data]
theorem rd_ps (ps : List Bs) (i : Nat) (h : i < ps.length) : rdOf ByteArray.empty (ps.map B) ((i : Nat) : Int) = B ps[i] := by
  unfold rdOf
  rw [Int.toNat_natCast, List.getD_eq_getElem?_getD]
  simp [List.getElem?_map, List.getElem?_eq_getElem h]
theorem spec_FGet_l0 (l : Bs) (hl : l.length ≤ 600) (ps : List Bs) (hn : ps.length ≤ 1000) (hp : ∀ s ∈ ps, s.length ≤ 600) (d : Nat) : ∀ i : Nat, i + d = ps.length → Ev (fun k => spec_FormGet.l0 k (B l) ((pairsOf (ps.take i)).map toP) (ps.map B) i) ((pairsOf ps).map toP) := by
  induction d with
  | zero =>
    intro i hi
    refine Ev.step (fun k => by rw [spec_FormGet.l0]) ?_
    simp only [List.length_map, if_neg (show ¬ (i : Int) < (ps.length : Int) by omega)]
    refine ev_1 fun k => ?_
    simp only [spec_FormGet.j1, Bool.false_eq_true, if_false]
    rw [List.take_of_length_le (by omega)]
  | succ d ih =>
    intro i hi
    have hlt : i < ps.length := by omega
    have hi0 : (0 : Int) ≤ (i : Int) := by omega
    have hi1 : (i : Int) < (ps.length : Int) := by omega
    have hw : wrap64 ((i : Int) + 1) = ((i + 1 : Nat) : Int) := by rw [w64 (by omega) (by omega)]; rfl
    have hs := hp ps[i] (List.getElem_mem hlt)
    have hst := pairsOf_take ps i hlt
    have e := ih (i + 1) (by omega)
    rw [hst] at e
    have hpo := pairsOf_len (ps.take i)
    have hln : ((pairsOf (ps.take i)).map toP).length < 4398046511104 := by
      rw [List.length_map]
      have : (ps.take i).length ≤ ps.length := by simp; omega
      omega
    refine Ev.step (fun k => by rw [spec_FormGet.l0]) ?_
    simp only [List.length_map, if_pos hi1, B_size, decide_eq_true (show (l.length : Int) ≤ 600 by omega)]
    refine Ev.step (fun k => by rw [spec_FormGet.j1]) ?_
    simp only [if_true, List.length_map, if_pos hi0, if_pos hi1, rd_ps ps i hlt, B_toList, B_size, hw]
    by_cases c : ps[i] = []
    · rw [if_pos c, List.append_nil] at e
      simp only [if_pos c]
      exact e
    · rw [if_neg c, List.map_append] at e
      simp only [if_neg c]
      have k61 : (⟨#[61]⟩ : ByteArray) = B [61] := rfl
      have hle := ixC_le 61 ps[i]
      have hat := spec_At 61 ps[i] (by omega)
      have l1 : (cutAh 61 ps[i]).length ≤ 1000000 := by have := cutAh_le 61 ps[i]; omega
      have l2 : (cutBe 61 ps[i]).length ≤ 1000000 := by have := cutBe_le 61 ps[i]; omega
      have p1 := plus_some _ l1
      have p2 := plus_some _ l2
      have hpr : pairOf ps[i] = (decodeMax (swapC 43 32 (cutAh 61 ps[i])), decodeMax (swapC 43 32 (cutBe 61 ps[i]))) := by
        unfold pairOf; rw [swap_cutAh, swap_cutBe]
      have htp : [pairOf ps[i]].map toP = [⟨B (decodeMax (swapC 43 32 (cutAh 61 ps[i]))), B (decodeMax (swapC 43 32 (cutBe 61 ps[i])))⟩] := by rw [hpr]; rfl
      rw [htp] at e
      have e1 : (B ps[i]).extract 0 (ixC 61 ps[i]) = B (cutAh 61 ps[i]) := by
        rw [B_extract, List.drop_zero, Nat.sub_zero, ← cutAh_take]
      have e2 : (B ps[i]).extract (ixC 61 ps[i] + 1) ps[i].length = B (cutBe 61 ps[i]) := by
        rw [B_extract, List.take_of_length_le (by simp), ← cutBe_drop]
      have e3 : ¬ ixC 61 ps[i] < ps[i].length → decodeMax (swapC 43 32 (cutBe 61 ps[i])) = [] := by
        intro c2
        rw [cutBe_drop, List.drop_eq_nil_of_le (by omega)]
        show decodeMax [] = []
        unfold decodeMax; simp [decode_nil]
      rw [List.length_map] at hln
      clear hpr htp hst hpo ih hw l1 l2
      generalize decodeMax (swapC 43 32 (cutAh 61 ps[i])) = z1 at p1 e ⊢
      generalize decodeMax (swapC 43 32 (cutBe 61 ps[i])) = z2 at p2 e e3 ⊢
      generalize cutAh 61 ps[i] = y1 at p1 e1 ⊢
      generalize cutBe 61 ps[i] = y2 at p2 e2 ⊢
      generalize ixC 61 ps[i] = m at hle hat e1 e2 e3 ⊢
      generalize ps[i] = s at hs hle hat e1 e2 e3 c ⊢
      simp only [k61]
      refine ev_bind hat ?_
      simp only [Int.toNat_natCast, if_pos (show (0 : Int) ≤ (m : Int) by omega), if_pos (show (m : Int) ≤ (s.length : Int) by omega), e1, p1, Option.bind_some]
      by_cases c2 : m < s.length
      · have w2 : wrap64 ((m : Int) + 1) = ((m + 1 : Nat) : Int) := by rw [w64 (by omega) (by omega)]; rfl
        simp only [if_pos (show (m : Int) < (s.length : Int) by omega), w2, Int.toNat_natCast, if_pos (show (0 : Int) ≤ ((m + 1 : Nat) : Int) by omega), if_pos (show ((m + 1 : Nat) : Int) ≤ (s.length : Int) by omega), e2, p2, Option.bind_some, if_pos hln]
        exact e
      · have kz : (⟨#[]⟩ : ByteArray) = B [] := rfl
        rw [e3 c2] at e
        simp only [if_neg (show ¬ (m : Int) < (s.length : Int) by omega), if_pos hln, kz]
        exact e
theorem splitC_count (c : UInt8) (l : Bs) : (splitC c l).length ≤ l.length + 1 := by
  have h1 := splitC_length c l
  have h2 := List.count_le_length (a := c) (l := l)
  omega
theorem spec_FGet (l : Bs) (hl : l.length ≤ 8796093022207) : Ev (fun k => spec_FormGet.f k (B l)) ((formGet l).map toP) := by
  unfold spec_FormGet.f
  refine ev_bind (spec_Cut 38 38 rfl (by decide) l hl) ?_
  unfold formGet
  by_cases c : l.length ≤ 600
  · rw [if_pos c]
    have := spec_FGet_l0 l c (splitC 38 l) (by have := splitC_count 38 l; omega) (fun s hs => by have := splitC_each 38 l s hs; omega) (splitC 38 l).length 0 (by omega)
    exact this
  · rw [if_neg c]
    refine Ev.step (fun k => by rw [spec_FormGet.l0]) ?_
    have hd : decide ((l.length : Int) ≤ 600) = false := decide_eq_false (by omega)
    have fin : Ev (fun k => spec_FormGet.j1 k (B l) [] ((splitC 38 l).map B) 0 false) ([] : List S71) := ev_1 fun k => by simp only [spec_FormGet.j1, Bool.false_eq_true, if_false]
    simp only [B_size, hd]
    by_cases z : (0 : Int) < (((splitC 38 l).map B).length : Int)
    · simp only [if_pos z]; exact fin
    · simp only [if_neg z]; exact fin
theorem impl_FGet (l : Bs) : impl_FormGet.f (B l) = some ((formGet l).map toP) := by unfold impl_FormGet.f; rw [B_data]
theorem formGet_len (l : Bs) : (formGet l).length ≤ 601 := by
  unfold formGet; split
  · have h1 := pairsOf_len (splitC 38 l); have h2 := splitC_count 38 l; omega
  · simp

open Go.Proofs.YtekeimhhffnjpaaDoor.HS
theorem markP_l0 (n : Nat) : ∀ acc : Bs, n ≤ 1099511627776 → acc.length + n ≤ 2199023255552 → Ev (fun k => laws_markText.l0 k (n : Int) (B acc)) (B (109 :: (dz n ++ acc))) := by
  induction n using Nat.strongRecOn with
  | _ n ih =>
    intro acc hn hl
    refine Ev.step (fun k => by rw [laws_markText.l0]) ?_
    by_cases h : 0 < n
    · have e1 : wrap64 (Int.tdiv (n : Int) 10) = ((n / 10 : Nat) : Int) := by
        rw [Int.tdiv_eq_ediv_of_nonneg (by omega), w64 (by omega) (by omega)]; rfl
      have e2 : Int.tmod (n : Int) 10 = ((n % 10 : Nat) : Int) := by rw [Int.tmod_eq_emod_of_nonneg (by omega)]; rfl
      have e3 : strOfNums [wrap64 (48 + ((n % 10 : Nat) : Int)) % 256] = B [UInt8.ofNat (48 + n % 10)] := by
        have e : wrap64 (48 + ((n % 10 : Nat) : Int)) % 256 = (((UInt8.ofNat (48 + n % 10)).toNat : Nat) : Int) := by
          rw [w64 (by omega) (by omega)]; simp
        rw [e]
        exact str_ns [UInt8.ofNat (48 + n % 10)]
      simp only [if_pos (show (n : Int) > 0 by omega), e1, e2, e3, Option.bind_some, B_size, B_append, List.length_singleton]
      simp only [if_pos (show 1 + acc.length ≤ 9223372036854775807 by omega)]
      have := ih (n / 10) (by omega) ([UInt8.ofNat (48 + n % 10)] ++ acc) (by omega) (by simp; omega)
      rw [dz_step n h, List.append_assoc]
      exact this
    · have k109 : (⟨#[109]⟩ : ByteArray) = B [109] := rfl
      obtain rfl : n = 0 := by omega
      simp only [if_neg (show ¬ ((0 : Nat) : Int) > 0 by omega), k109, B_size, B_append, if_pos (show 1 + acc.length ≤ 9223372036854775807 by omega)]
      exact Ev.now _
theorem markP_ev (n : Nat) (h0 : 0 < n) (hn : n ≤ 1099511627776) : Ev (fun k => laws_markText.f k (n : Int)) (B (markB n)) := by
  unfold laws_markText.f
  simp only [if_neg (show ¬ (n : Int) ≤ 0 by omega)]
  have := markP_l0 n [] hn (by simp; omega)
  have e : dz n ++ [] = Lib.decDigits n := by unfold dz; rw [if_neg (by omega), List.append_nil]
  rw [e] at this
  exact this

theorem rdPP (l : List S71) (i : Nat) (h : i < l.length) : rd_T71 l ((i : Nat) : Int) = l[i] := by
  unfold rd_T71
  rw [Int.toNat_natCast, List.getD_eq_getElem?_getD, List.getElem?_eq_getElem h]; rfl
theorem eq_PS (p : List S71) (hp : p.length ≤ 1000000) : Ev (fun k => laws_eqPairS.f k p p) true := by
  unfold laws_eqPairS.f
  simp only [if_true]
  have go : ∀ (d i : Nat), i + d = p.length → Ev (fun k => laws_eqPairS.l0 k p p i) true := by
    intro d
    induction d with
    | zero =>
      intro i hi
      refine ev_1 fun k => ?_
      simp only [laws_eqPairS.l0]; rw [if_neg (by omega)]
    | succ d ih =>
      intro i hi
      have hw : wrap64 ((i : Int) + 1) = ((i + 1 : Nat) : Int) := by rw [w64 (by omega) (by omega)]; rfl
      refine Ev.step (fun k => by rw [laws_eqPairS.l0]) ?_
      simp only [if_pos (show (i : Int) < (p.length : Int) by omega), if_pos (show (0 : Int) ≤ (i : Int) by omega), laws_eqPair.f, if_true, Option.bind_some, hw]
      exact ih (i + 1) (by omega)
  exact go p.length 0 (by omega)
theorem marksP_get (n k i : Nat) (h : i < n) : (marksP n k)[i]'(by rw [marksP_len]; exact h) = (markB (k + 2 * i), markB (k + 2 * i + 1)) := by simp [marksP]
theorem held_P (n a : Nat) (ha : 0 < a) (hn : a + 2 * n ≤ 1099511627776) : Ev (fun k => laws_heldPairS.f k ((marksP n a).map toP) (a : Int)) ((a + 2 * n : Nat) : Int) := by
  unfold laws_heldPairS.f
  have go : ∀ (d i : Nat), i + d = n → Ev (fun k => laws_heldPairS.l0 k ((marksP n a).map toP) ((a + 2 * i : Nat) : Int) i) ((a + 2 * n : Nat) : Int) := by
    intro d
    induction d with
    | zero =>
      intro i hi
      obtain rfl : i = n := by omega
      refine ev_1 fun k => ?_
      simp only [laws_heldPairS.l0, List.length_map, marksP_len]
      rw [if_neg (by omega)]
    | succ d ih =>
      intro i hi
      have hlt : i < ((marksP n a).map toP).length := by rw [List.length_map, marksP_len]; omega
      have hg : ((marksP n a).map toP)[i] = (⟨B (markB (a + 2 * i)), B (markB (a + 2 * i + 1))⟩ : S71) := by
        rw [List.getElem_map, marksP_get n a i (by omega)]; rfl
      have w1 : wrap64 (((a + 2 * i : Nat) : Int) + 1) = ((a + 2 * i + 1 : Nat) : Int) := by rw [w64 (by omega) (by omega)]; omega
      have w3 : wrap64 (((a + 2 * i + 1 : Nat) : Int) + 1) = ((a + 2 * (i + 1) : Nat) : Int) := by rw [w64 (by omega) (by omega)]; omega
      have w2 : wrap64 ((i : Int) + 1) = ((i + 1 : Nat) : Int) := by rw [w64 (by omega) (by omega)]; rfl
      refine Ev.step (fun k => by rw [laws_heldPairS.l0]) ?_
      simp only [List.length_map, marksP_len, if_pos (show (i : Int) < (n : Int) by omega), if_pos (show (0 : Int) ≤ (i : Int) by omega), rdPP _ i hlt, hg]
      refine ev_bind (markP_ev (a + 2 * i) (by omega) (by omega)) ?_
      simp only [if_true, w1]
      refine ev_bind (markP_ev (a + 2 * i + 1) (by omega) (by omega)) ?_
      simp only [if_true, w2, w3]
      exact ih (i + 1) (by omega)
  have := go n 0 (by omega)
  simpa using this
theorem mark_P (p : List S71) (a : Nat) (ha : 0 < a) (hn : a + 2 * p.length ≤ 1099511627776) : laws_markPairS.f p (a : Int) = some (((a + 2 * p.length : Nat) : Int), (marksP p.length a).map toP) := by
  unfold laws_markPairS.f
  rw [if_pos (by omega)]
  have : (a : Int) + 2 * (p.length : Int) = ((a + 2 * p.length : Nat) : Int) := by omega
  rw [this]; rfl
theorem FnExactFormGet : laws_FnExactFormGet.Pure := by
  intro a0 h0
  obtain ⟨l, rfl, hl⟩ := exBn a0 _ h0
  refine Ev.rounds ?_
  unfold laws_FnExactFormGet.f
  by_cases hb : ((B l).size : Int) > 1048576
  · simp only [if_pos hb]; exact Ev.now _
  simp only [if_neg hb]
  refine ev_bind (spec_FGet l (by rw [B_size] at hb; omega)) ?_
  have hp := formGet_len l
  simp only [impl_FGet l, Option.bind_some]
  generalize formGet l = p at hp ⊢
  have e1 := eq_PS (p.map toP) (by rw [List.length_map]; omega)
  have m1 := mark_P (p.map toP) 1 (by omega) (by rw [List.length_map]; omega)
  rw [List.length_map] at m1
  have h1 := held_P p.length 1 (by omega) (by omega)
  have c1 : ((1 : Nat) : Int) = 1 := rfl
  rw [c1] at m1 h1
  refine ev_bind e1 ?_
  simp only [if_true, m1, Option.bind_some]
  refine ev_bind h1 ?_
  simp only [if_neg (show ¬ ((1 + 2 * p.length : Nat) : Int) < 0 by omega), if_true]
  refine ev_bind e1 ?_
  simp only [if_true]
  refine ev_bind h1 ?_
  simp only [if_neg (show ¬ ((1 + 2 * p.length : Nat) : Int) < 0 by omega), if_true]
  exact Ev.now _

end Go.Proofs.YtekeimhhffnjpaaDoor.Pure
