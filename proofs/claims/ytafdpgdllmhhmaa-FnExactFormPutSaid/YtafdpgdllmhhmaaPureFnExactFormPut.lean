/- The pure side of the law FnExactFormPut: what the printed functions tell is what the law says, for every input within the law's bounds. -/
import Derived.Test.YtafdpgdllmhhmaaPFnExactFormPutx4
import Derived.Test.YtafdpgdllmhhmaaBase
set_option linter.unusedVariables false
set_option linter.unusedSimpArgs false
namespace Go.Proofs.Ytafdpgdllmhhmaa.Pure
open Go.RowKit Go.Proofs.Ytafdpgdllmhhmaa.H Go.Proofs.Ytafdpgdllmhhmaa.PFnExactFormPut Go.Proofs.YtafdpgdllmhhmaaW.PrintWords Go.Proofs.YtafdpgdllmhhmaaW.PrintLast Go.Proofs.Ytafdpgdllmhhmaa.Base

def ptot (l : List S51) : Nat := (l.map fun x => x.f0.size + x.f1.size).sum
theorem ptot_take (l : List S51) (i : Nat) (h : i < l.length) : ptot (l.take (i + 1)) = ptot (l.take i) + (l[i].f0.size + l[i].f1.size) := by
  unfold ptot; rw [List.take_succ_eq_append_getElem h, List.map_append, List.sum_append]; simp
theorem ptot_take_le (l : List S51) (i : Nat) : ptot (l.take i) ≤ ptot l := by
  conv => rhs; rw [← List.take_append_drop i l]
  unfold ptot; rw [List.map_append, List.sum_append]; omega
theorem rd51 (l : List S51) (i : Nat) (h : i < l.length) : rd_T51 l ((i : Nat) : Int) = l[i] := by
  unfold rd_T51
  rw [Int.toNat_natCast, List.getD_eq_getElem?_getD, List.getElem?_eq_getElem h]; rfl
theorem rd52 (l : List S52) (i : Nat) (h : i < l.length) : rd_T52 l ((i : Nat) : Int) = l[i] := by
  unfold rd_T52
  rw [Int.toNat_natCast, List.getD_eq_getElem?_getD, List.getElem?_eq_getElem h]; rfl
theorem sz_pair (x : S51) (m : Int) (h0 : 0 ≤ m) (hm : m ≤ 1048576) (h1 : x.f0.size ≤ 9223372036854775807) (h2 : x.f1.size ≤ 9223372036854775807) :
    ∃ r : Int, laws_szPair.f x.f0 x.f1 m = some r ∧ ((r < 0 ∧ r = -1) ∨ (0 ≤ r ∧ r = m - (x.f0.size : Int) - (x.f1.size : Int))) := by
  unfold laws_szPair.f
  rw [w64 (n := m - (x.f0.size : Int)) (by omega) (by omega)]
  by_cases c : m - (x.f0.size : Int) < 0
  · exact ⟨-1, by rw [if_pos c], by omega⟩
  · rw [if_neg c, w64 (n := m - (x.f0.size : Int) - (x.f1.size : Int)) (by omega) (by omega)]
    by_cases d : m - (x.f0.size : Int) - (x.f1.size : Int) < 0
    · exact ⟨-1, by rw [if_pos d], by omega⟩
    · exact ⟨_, by rw [if_neg d], by omega⟩
theorem sz_pairs (l : List S51) (n : Int) (h0 : 0 ≤ n) (hn : n ≤ 1048576) (hl : l.length ≤ 9223372036854775807) (hs : ∀ s ∈ l, s.f0.size ≤ 9223372036854775807 ∧ s.f1.size ≤ 9223372036854775807) :
    ∃ r : Int, Ev (fun k => laws_szPairS.f k l n) r ∧ (r < 0 ∨ (l.length : Int) + (ptot l : Int) ≤ n) := by
  unfold laws_szPairS.f
  rw [w64 (n := n - (l.length : Int)) (by omega) (by omega)]
  by_cases c : n - (l.length : Int) < 0
  · exact ⟨-1, by simp only [if_pos c]; exact Ev.now _, by omega⟩
  simp only [if_neg c]
  have go : ∀ (d i : Nat) (m : Int), i + d = l.length → 0 ≤ m → m = n - (l.length : Int) - (ptot (l.take i) : Int) → ∃ r : Int, Ev (fun k => laws_szPairS.l0 k l m i) r ∧ (r < 0 ∨ (l.length : Int) + (ptot l : Int) ≤ n) := by
    intro d
    induction d with
    | zero =>
      intro i m hi hm he
      refine ⟨m, ev_1 fun k => ?_, ?_⟩
      · simp only [laws_szPairS.l0]; rw [if_neg (by omega)]
      · rw [List.take_of_length_le (by omega)] at he; omega
    | succ d ih =>
      intro i m hi hm he
      have hlt : i < l.length := by omega
      have hi0 : (0 : Int) ≤ (i : Int) := by omega
      have hi1 : (i : Int) < (l.length : Int) := by omega
      have hw : wrap64 ((i : Int) + 1) = ((i + 1 : Nat) : Int) := by rw [w64 (by omega) (by omega)]; rfl
      have hsz := hs l[i] (List.getElem_mem hlt)
      obtain ⟨t, ht, ht'⟩ := sz_pair l[i] m hm (by omega) hsz.1 hsz.2
      by_cases c2 : t < 0
      · refine ⟨-1, Ev.step (fun k => by rw [laws_szPairS.l0]) ?_, by omega⟩
        simp only [if_pos hi1, if_pos hi0, rd51 l i hlt, ht, Option.bind_some, if_pos c2]; exact Ev.now _
      · obtain ⟨r, h1, h2⟩ := ih (i + 1) t (by omega) (by omega) (by rw [ptot_take l i hlt]; omega)
        refine ⟨r, Ev.step (fun k => by rw [laws_szPairS.l0]) ?_, h2⟩
        simp only [if_pos hi1, if_pos hi0, rd51 l i hlt, ht, Option.bind_some, if_neg c2, hw]; exact h1
  exact go l.length 0 _ (by omega) (by omega) (by simp [ptot])
def to52 (x : S51) : S52 := ⟨x.f0, x.f1⟩
theorem to_pairs (l : List S51) (hl : l.length ≤ 1048576) : Ev (fun k => laws_toPairS.f k l) (l.map to52) := by
  unfold laws_toPairS.f
  simp only [if_pos (show (0 : Int) ≤ (l.length : Int) by omega), Int.toNat_natCast, if_pos (show l.length ≤ 8796093022208 by omega)]
  have go : ∀ (d i : Nat), i + d = l.length → Ev (fun k => laws_toPairS.l0 k l ((l.take i).map to52 ++ List.replicate d z52) i) (l.map to52) := by
    intro d
    induction d with
    | zero =>
      intro i hi
      refine ev_1 fun k => ?_
      simp only [laws_toPairS.l0]
      rw [if_neg (by omega), List.take_of_length_le (by omega)]; simp
    | succ d ih =>
      intro i hi
      have hlt : i < l.length := by omega
      have hi0 : (0 : Int) ≤ (i : Int) := by omega
      have hi1 : (i : Int) < (l.length : Int) := by omega
      have hw : wrap64 ((i : Int) + 1) = ((i + 1 : Nat) : Int) := by rw [w64 (by omega) (by omega)]; rfl
      have hln : (i : Int) < ((((l.take i).map to52 ++ List.replicate (d + 1) z52).length : Nat) : Int) := by
        rw [List.length_append, List.length_map, List.length_take, List.length_replicate]; omega
      have hset : ((l.take i).map to52 ++ List.replicate (d + 1) z52).set i (to52 l[i]) = (l.take (i + 1)).map to52 ++ List.replicate d z52 := by
        rw [List.set_append_right _ _ (by simp; omega), List.take_succ_eq_append_getElem hlt]
        have : i - ((l.take i).map to52).length = 0 := by simp; omega
        rw [this, List.replicate_succ, List.set_cons_zero, List.map_append, List.append_assoc]; rfl
      refine Ev.step (fun k => by rw [laws_toPairS.l0]) ?_
      simp only [if_pos hi1, if_pos hi0, rd51 l i hlt, laws_toPair.f, Option.bind_some, if_pos hln, hw, Int.toNat_natCast]
      have e := ih (i + 1) (by omega)
      rw [← hset] at e
      exact e
  have := go l.length 0 (by omega)
  simpa using this
theorem eq_pairs (l : List S52) (hl : l.length ≤ 1048576) : Ev (fun k => laws_eqPairS.f k l l) true := by
  unfold laws_eqPairS.f
  simp only [if_true]
  have go : ∀ (d i : Nat), i + d = l.length → Ev (fun k => laws_eqPairS.l0 k l l i) true := by
    intro d
    induction d with
    | zero =>
      intro i hi
      refine ev_1 fun k => ?_
      simp only [laws_eqPairS.l0]; rw [if_neg (by omega)]
    | succ d ih =>
      intro i hi
      have hlt : i < l.length := by omega
      have hi0 : (0 : Int) ≤ (i : Int) := by omega
      have hi1 : (i : Int) < (l.length : Int) := by omega
      have hw : wrap64 ((i : Int) + 1) = ((i + 1 : Nat) : Int) := by rw [w64 (by omega) (by omega)]; rfl
      refine Ev.step (fun k => by rw [laws_eqPairS.l0]) ?_
      simp only [if_pos hi1, if_pos hi0, laws_eqPair.f, Option.bind_some, if_true, hw]
      exact ih (i + 1) (by omega)
  exact go l.length 0 (by omega)

theorem ev_eq {α : Type} {g f : Nat → Option α} {r : α} (h : Ev f r) (e : ∀ k, g k = f k) : Ev g r := by
  obtain ⟨K, hK⟩ := h
  exact ⟨K, fun k hk => by rw [e k]; exact hK k hk⟩
def keeps (c : UInt8) : Bool := isLet c || isDig c || formS.contains c
theorem keeps_iff (c : UInt8) : keeps c = true ↔ ((97 ≤ c.toNat ∧ c.toNat ≤ 122) ∨ (65 ≤ c.toNat ∧ c.toNat ≤ 90) ∨ (48 ≤ c.toNat ∧ c.toNat ≤ 57) ∨ c.toNat = 42 ∨ c.toNat = 45 ∨ c.toNat = 46 ∨ c.toNat = 95) := by
  unfold keeps isLet isDig formS
  have e : ∀ n : Nat, n < 256 → (c = UInt8.ofNat n ↔ c.toNat = n) := by
    intro n hn; rw [← UInt8.toNat_inj]; simp; omega
  have e1 := e 42 (by decide)
  have e2 := e 45 (by decide)
  have e3 := e 46 (by decide)
  have e4 := e 95 (by decide)
  simp only [UInt8.reduceOfNat] at e1 e2 e3 e4
  simp only [Bool.or_eq_true, Bool.and_eq_true, decide_eq_true_eq, List.contains_cons, beq_iff_eq, List.contains_nil, Bool.false_eq_true, or_false, e1, e2, e3, e4]
  omega
theorem fig_at (n : Nat) (h : n < 16) : bt (⟨#[48, 49, 50, 51, 52, 53, 54, 55, 56, 57, 65, 66, 67, 68, 69, 70]⟩ : ByteArray) ((n : Nat) : Int) = ((fig n).toNat : Int) := by
  have : (⟨#[48, 49, 50, 51, 52, 53, 54, 55, 56, 57, 65, 66, 67, 68, 69, 70]⟩ : ByteArray) = B figs := rfl
  rw [this, bt_B, Int.toNat_natCast]; rfl
theorem spec_Figure (n : Nat) (h : n < 16) : spec_l1Figure.f ((n : Nat) : Int) = some (((fig n).toNat : Nat) : Int) := by
  unfold spec_l1Figure.f
  rw [if_pos (by omega), if_pos (by omega), fig_at n h]
theorem tq1 (c : UInt8) : Int.tdiv (wrap64 ((c.toNat : Nat) : Int)) 16 = ((c.toNat / 16 : Nat) : Int) := by
  have := lt256 c
  rw [w64 (by omega) (by omega), Int.tdiv_eq_ediv_of_nonneg (by omega)]; rfl
theorem tq2 (c : UInt8) : Int.tmod (wrap64 ((c.toNat : Nat) : Int)) 16 = ((c.toNat % 16 : Nat) : Int) := by
  have := lt256 c
  rw [w64 (by omega) (by omega), Int.tmod_eq_emod_of_nonneg (by omega)]; rfl
theorem tq3 (c : UInt8) : wrap64 ((c.toNat / 16 : Nat) : Int) = ((c.toNat / 16 : Nat) : Int) := by
  have := lt256 c
  exact w64 (by omega) (by omega)
theorem tq4 (c : UInt8) : c.toNat / 16 < 16 := by have := lt256 c; omega
set_option maxHeartbeats 4000000 in
theorem spec_Piece_l0 (l : Bs) (hl : l.length ≤ 1048576) (d : Nat) : ∀ i : Nat, i + d = l.length → Ev (fun k => spec_l1Piece.l0 k (B l) (ns (formB (l.take i))) i) (B (formB l)) := by
  induction d with
  | zero =>
    intro i hi
    refine ev_1 fun k => ?_
    simp only [spec_l1Piece.l0]
    rw [if_neg (by rw [B_size]; omega), str_ns, List.take_of_length_le (by omega)]
  | succ d ih =>
    intro i hi
    have hlt : i < l.length := by omega
    have hi0 : (0 : Int) ≤ (i : Int) := by omega
    have hi1 : (i : Int) < (l.length : Int) := by omega
    have hw : wrap64 ((i : Int) + 1) = ((i + 1 : Nat) : Int) := by rw [w64 (by omega) (by omega)]; rfl
    have e := ih (i + 1) (by omega)
    rw [formB_take l i hlt, ns_append] at e
    have hfl := (formB_len (l.take i)).2
    have hfl' : (formB (l.take i)).length ≤ 3145728 := by
      have : (l.take i).length = i := by simp; omega
      omega
    have hln : (ns (formB (l.take i))).length < 140737488355328 := by rw [ns_length]; omega
    have j1 : ∀ b : Bool, b = keeps l[i] → l[i] ≠ 32 → Ev (fun k => spec_l1Piece.j1 k (B l) (ns (formB (l.take i))) i ((l[i].toNat : Nat) : Int) b) (B (formB l)) := by
      intro b hb h32
      refine Ev.step (fun k => by rw [spec_l1Piece.j1]) ?_
      cases b with
      | true =>
        have hk : (isLet l[i] || isDig l[i] || formS.contains l[i]) = true := hb.symm
        have hc : formC l[i] = [l[i]] := by unfold formC; rw [if_pos hk]
        rw [hc, ns_one] at e
        simp only [if_true, if_pos hln, hw]; exact e
      | false =>
        have hc : formC l[i] = pct l[i] := by unfold formC; rw [if_neg (show ¬ _ = true by rw [show (isLet l[i] || isDig l[i] || formS.contains l[i]) = keeps l[i] from rfl, ← hb]; simp), if_neg h32]
        rw [hc] at e
        have q1 := tq1 l[i]
        have q2 := tq2 l[i]
        have q3 := tq3 l[i]
        have q4 : l[i].toNat / 16 < 16 := tq4 l[i]
        have q5 : l[i].toNat % 16 < 16 := Nat.mod_lt _ (by decide)
        simp only [Bool.false_eq_true, if_false, q1, q2, q3, spec_Figure _ q4, spec_Figure _ q5, Option.bind_some, hw]
        simp only [if_pos (show (ns (formB (l.take i))).length + ([37, ((fig (l[i].toNat / 16)).toNat : Int), ((fig (l[i].toNat % 16)).toNat : Int)] : List Int).length < 140737488355328 by rw [ns_length]; simp; omega)]
        exact e
    refine Ev.step (fun k => by rw [spec_l1Piece.l0]) ?_
    simp only [B_size, bt_B, Int.toNat_natCast, get_eq hlt, if_pos hi0, if_pos hi1, hw]
    by_cases h32 : l[i] = 32
    · have hc : formC l[i] = [43] := by rw [h32]; rfl
      rw [hc] at e
      simp only [if_pos (show ((l[i].toNat : Nat) : Int) = 32 from (byte_eq _ 32 (by decide)).2 h32), if_pos hln]
      exact e
    · simp only [if_neg (show ¬ ((l[i].toNat : Nat) : Int) = 32 from fun z => h32 ((byte_eq _ 32 (by decide)).1 z))]
      have hk := keeps_iff l[i]
      refine ev_eq (j1 (keeps l[i]) rfl h32) fun k => ?_
      have hb : keeps l[i] = decide ((97 ≤ l[i].toNat ∧ l[i].toNat ≤ 122) ∨ (65 ≤ l[i].toNat ∧ l[i].toNat ≤ 90) ∨ (48 ≤ l[i].toNat ∧ l[i].toNat ≤ 57) ∨ l[i].toNat = 42 ∨ l[i].toNat = 45 ∨ l[i].toNat = 46 ∨ l[i].toNat = 95) := by
        apply bool_eq; rw [hk, decide_eq_true_eq]
      rw [hb]
      clear hb hk j1 e ih h32
      generalize l[i].toNat = n
      have t : ∀ p : Prop, [Decidable p] → p → decide p = true := fun p _ h => decide_eq_true h
      have f : ∀ b : Bool, ∀ p : Prop, [Decidable p] → (b = true ↔ p) → b = decide p := fun b p _ h => by apply bool_eq; rw [h, decide_eq_true_eq]
      repeat' (first | (refine congrArg _ ?_; first | exact (t _ (by omega)).symm | exact f _ _ (by rw [beq_iff_eq]; omega)) | split)
theorem spec_Piece (l : Bs) (hl : l.length ≤ 1048576) : Ev (fun k => spec_l1Piece.f k (B l)) (B (formB l)) := by
  unfold spec_l1Piece.f
  exact spec_Piece_l0 l hl l.length 0 (by omega)
/-- A pair as it is written. -/
def pair (x : S51) : Bs := formB x.f0.data.toList ++ 61 :: formB x.f1.data.toList
theorem pair_len (x : S51) : (pair x).length ≤ 3 * (x.f0.size + x.f1.size) + 1 := by
  have h1 := (formB_len x.f0.data.toList).2
  have h2 := (formB_len x.f1.data.toList).2
  have e1 : x.f0.data.toList.length = x.f0.size := by simp
  have e2 : x.f1.data.toList.length = x.f1.size := by simp
  unfold pair
  rw [List.length_append, List.length_cons]; omega
theorem joined_len (l : List S51) : (joinB [38] (l.map pair)).length ≤ 3 * ptot l + 2 * l.length := by
  rw [joinB_len, List.map_map, List.length_map]
  have : (List.map (List.length ∘ pair) l).sum ≤ 3 * ptot l + l.length := by
    induction l with
    | nil => simp [ptot]
    | cons a t ih =>
      have := pair_len a
      simp only [List.map_cons, List.sum_cons, ptot, List.length_cons, Function.comp] at ih ⊢
      omega
  have e : ([38] : Bs).length = 1 := rfl
  rw [e]; omega
theorem map_take1 (l : List S51) (i : Nat) (h : i < l.length) : (l.take (i + 1)).map pair = (l.take i).map pair ++ [pair l[i]] := by
  rw [List.take_succ_eq_append_getElem h, List.map_append]; rfl
theorem form_some (s : ByteArray) (hs : s.size ≤ 1048576) : impl_form.f s = some (B (formB s.data.toList)) := by
  have h1 := (formB_len s.data.toList).2
  have e1 : s.data.toList.length = s.size := by simp
  unfold impl_form.f; rw [if_pos (by omega)]
theorem piece_any (s : ByteArray) (hs : s.size ≤ 1048576) : Ev (fun k => spec_l1Piece.f k s) (B (formB s.data.toList)) := by
  obtain ⟨q, rfl⟩ := exB s
  rw [B_data]
  exact spec_Piece q (by simpa using hs)
theorem get52 (l : List S51) (i : Nat) (h : i < l.length) : rd_T52 (l.map to52) ((i : Nat) : Int) = to52 l[i] := by
  rw [rd52 _ i (by simpa using h), List.getElem_map]
theorem elem_le (l : List S51) (i : Nat) (h : i < l.length) (ht : ptot l ≤ 1048576) : l[i].f0.size ≤ 1048576 ∧ l[i].f1.size ≤ 1048576 := by
  have h1 := ptot_take l i h
  have h2 := ptot_take_le l (i + 1)
  omega
theorem spec_FPut (l : List S51) (hl : l.length ≤ 1048576) (ht : ptot l ≤ 1048576) : Ev (fun k => spec_FormPut.f k (l.map to52)) (B (joinB [38] (l.map pair))) := by
  unfold spec_FormPut.f
  have go : ∀ (d i : Nat), i + d = l.length → Ev (fun k => spec_FormPut.l0 k (l.map to52) (B (joinB [38] ((l.take i).map pair))) i) (B (joinB [38] (l.map pair))) := by
    intro d
    induction d with
    | zero =>
      intro i hi
      refine ev_1 fun k => ?_
      simp only [spec_FormPut.l0, List.length_map]
      rw [if_neg (by omega), List.take_of_length_le (by omega)]
    | succ d ih =>
      intro i hi
      have hlt : i < l.length := by omega
      have hi0 : (0 : Int) ≤ (i : Int) := by omega
      have hi1 : (i : Int) < (l.length : Int) := by omega
      have hw : wrap64 ((i : Int) + 1) = ((i + 1 : Nat) : Int) := by rw [w64 (by omega) (by omega)]; rfl
      have hel := elem_le l i hlt ht
      have hj := joined_len (l.take i)
      have hpt := ptot_take_le l i
      have hln : (l.take i).length = i := by simp; omega
      have hp := pair_len l[i]
      have p0 := piece_any l[i].f0 hel.1
      have p1 := piece_any l[i].f1 hel.2
      have e := ih (i + 1) (by omega)
      rw [map_take1 l i hlt] at e
      have b1 := (formB_len l[i].f0.data.toList).2
      have b2 := (formB_len l[i].f1.data.toList).2
      have c1 : l[i].f0.data.toList.length = l[i].f0.size := by simp
      have c2 : l[i].f1.data.toList.length = l[i].f1.size := by simp
      have k38 : (⟨#[38]⟩ : ByteArray) = B [38] := rfl
      have k61 : (⟨#[61]⟩ : ByteArray) = B [61] := rfl
      refine Ev.step (fun k => by rw [spec_FormPut.l0]) ?_
      simp only [List.length_map, if_pos hi1, if_pos hi0, get52 l i hlt, hw, k38, k61]
      by_cases hz : i = 0
      · subst hz
        simp only [if_neg (show ¬ ((0 : Nat) : Int) > 0 by omega)]
        refine ev_bind p0 ?_
        simp only [B_append, B_size, List.length_append, List.length_cons, List.length_nil]
        simp only [if_pos (show (joinB [38] ((l.take 0).map pair)).length + (formB l[0].f0.data.toList).length ≤ 9223372036854775807 by omega),
          if_pos (show (joinB [38] ((l.take 0).map pair)).length + (formB l[0].f0.data.toList).length + 1 ≤ 9223372036854775807 by omega)]
        refine ev_bind p1 ?_
        simp only [B_append, B_size, List.length_append, List.length_cons, List.length_nil]
        simp only [if_pos (show (joinB [38] ((l.take 0).map pair)).length + (formB l[0].f0.data.toList).length + (0 + 1) + (formB l[0].f1.data.toList).length ≤ 9223372036854775807 by omega)]
        simpa [joinB, pair] using e
      · have hne : (l.take i).map pair ≠ [] := by
          intro q; have := congrArg List.length q; rw [List.length_map, hln, List.length_nil] at this; exact hz this
        rw [joinB_snoc _ _ _ hne] at e
        simp only [if_pos (show ((i : Nat) : Int) > 0 by omega), B_size]
        simp only [if_pos (show (joinB [38] ((l.take i).map pair)).length + 1 ≤ 9223372036854775807 by omega)]
        refine ev_bind p0 ?_
        simp only [B_append, B_size, List.length_append, List.length_cons, List.length_nil]
        simp only [if_pos (show (joinB [38] ((l.take i).map pair)).length + (0 + 1) + (formB l[i].f0.data.toList).length ≤ 9223372036854775807 by omega),
          if_pos (show (joinB [38] ((l.take i).map pair)).length + (0 + 1) + (formB l[i].f0.data.toList).length + 1 ≤ 9223372036854775807 by omega)]
        refine ev_bind p1 ?_
        simp only [B_append, B_size, List.length_append, List.length_cons, List.length_nil]
        simp only [if_pos (show (joinB [38] ((l.take i).map pair)).length + (0 + 1) + (formB l[i].f0.data.toList).length + (0 + 1) + (formB l[i].f1.data.toList).length ≤ 9223372036854775807 by omega)]
        simpa [pair] using e
  exact go l.length 0 (by omega)
theorem impl_FPut (l : List S51) (hl : l.length ≤ 1048576) (ht : ptot l ≤ 1048576) : Ev (fun k => impl_FormPut.f k (l.map to52)) (B (joinB [38] (l.map pair))) := by
  unfold impl_FormPut.f
  rw [List.length_map]
  have go : ∀ (d i : Nat), i + d = l.length → Ev (fun k => impl_FormPut.l0 k ((l.take i).map fun x => B (pair x)) (l.map to52) (l.length : Int) i) (B (joinB [38] (l.map pair))) := by
    intro d
    induction d with
    | zero =>
      intro i hi
      refine ev_1 fun k => ?_
      simp only [impl_FormPut.l0]
      rw [if_neg (by omega), List.take_of_length_le (by omega)]
      have hb : bss (l.map fun x => B (pair x)) = l.map pair := by
        unfold bss; rw [List.map_map]; exact List.map_congr_left fun x _ => B_data _
      have : strings_Join.f (l.map fun x => B (pair x)) (⟨#[38]⟩ : ByteArray) = some (B (joinB [38] (l.map pair))) := by
        have hj := joined_len l
        unfold strings_Join.f
        have k38 : (⟨#[38]⟩ : ByteArray) = B [38] := rfl
        rw [k38, B_data, hb, if_pos ⟨by simp, by simp; omega, by omega⟩]
      rw [this]; rfl
    | succ d ih =>
      intro i hi
      have hlt : i < l.length := by omega
      have hi0 : (0 : Int) ≤ (i : Int) := by omega
      have hi1 : (i : Int) < (l.length : Int) := by omega
      have hw : wrap64 ((i : Int) + 1) = ((i + 1 : Nat) : Int) := by rw [w64 (by omega) (by omega)]; rfl
      have hel := elem_le l i hlt ht
      have b1 := (formB_len l[i].f0.data.toList).2
      have b2 := (formB_len l[i].f1.data.toList).2
      have c1 : l[i].f0.data.toList.length = l[i].f0.size := by simp
      have c2 : l[i].f1.data.toList.length = l[i].f1.size := by simp
      have k61 : (⟨#[61]⟩ : ByteArray) = B [61] := rfl
      have e := ih (i + 1) (by omega)
      have hm : (l.take (i + 1)).map (fun x => B (pair x)) = (l.take i).map (fun x => B (pair x)) ++ [B (pair l[i])] := by
        rw [List.take_succ_eq_append_getElem hlt, List.map_append]; rfl
      rw [hm] at e
      have hln : ((l.take i).map (fun x => B (pair x))).length < 8796093022208 := by rw [List.length_map, List.length_take]; omega
      refine Ev.step (fun k => by rw [impl_FormPut.l0]) ?_
      simp only [List.length_map, if_pos hi1, if_pos hi0, get52 l i hlt, hw, k61]
      have f0 : impl_form.f (to52 l[i]).f0 = some (B (formB l[i].f0.data.toList)) := form_some _ hel.1
      have f1 : impl_form.f (to52 l[i]).f1 = some (B (formB l[i].f1.data.toList)) := form_some _ hel.2
      simp only [f0, f1, Option.bind_some, B_append, B_size, List.length_append, List.length_cons, List.length_nil]
      simp only [if_pos (show (formB l[i].f0.data.toList).length + 1 ≤ 9223372036854775807 by omega), if_pos (show (formB l[i].f0.data.toList).length + (0 + 1) + (formB l[i].f1.data.toList).length ≤ 9223372036854775807 by omega)]
      rw [List.length_map] at hln
      simp only [if_pos hln]
      simpa [pair] using e
  exact go l.length 0 (by omega)

theorem FnExactFormPut (l : List S51) (hl : l.length ≤ 9223372036854775807) (hs : ∀ s ∈ l, s.f0.size ≤ maxLen ∧ s.f1.size ≤ maxLen) : ∃ k, laws_FnExactFormPut.f k l = some true := by
  refine Ev.rounds ?_
  unfold laws_FnExactFormPut.f
  obtain ⟨r, h1, h2⟩ := sz_pairs l 1048576 (by omega) (by omega) hl hs
  refine ev_bind h1 ?_
  by_cases c : r < 0
  · simp only [if_pos c]; exact Ev.now _
  simp only [if_neg c]
  have hb : l.length + ptot l ≤ 1048576 := by omega
  have ht := to_pairs l (by omega)
  refine ev_bind ht ?_
  refine ev_bind (spec_FPut l (by omega) (by omega)) ?_
  refine ev_bind ht ?_
  refine ev_bind (impl_FPut l (by omega) (by omega)) ?_
  simp only [if_true]
  refine ev_bind ht ?_
  refine ev_bind (eq_pairs (l.map to52) (by simp; omega)) ?_
  simp only [if_true]
  exact Ev.now _

end Go.Proofs.Ytafdpgdllmhhmaa.Pure
