/- The pure side of the law FnExactPathPut: what the printed functions tell is what the law says, for every input within the law's bounds. -/
import Derived.Test.YtglliobchdjmcaaPFnExactPathPutx1
import Derived.Test.YtglliobchdjmcaaBase
set_option linter.unusedVariables false
set_option linter.unusedSimpArgs false
namespace Go.Proofs.Ytglliobchdjmcaa.Pure
open Go.RowKit Go.Proofs.Ytglliobchdjmcaa.H Go.Proofs.Ytglliobchdjmcaa.PFnExactPathPut Go.Proofs.YtglliobchdjmcaaW.PrintWords Go.Proofs.YtglliobchdjmcaaW.PrintLast Go.Proofs.Ytglliobchdjmcaa.Base

def tot (l : List ByteArray) : Nat := (l.map ByteArray.size).sum
theorem tot_take (l : List ByteArray) (i : Nat) (h : i < l.length) : tot (l.take (i + 1)) = tot (l.take i) + l[i].size := by
  unfold tot; rw [List.take_succ_eq_append_getElem h, List.map_append, List.sum_append]; simp
theorem tot_take_le (l : List ByteArray) (i : Nat) : tot (l.take i) ≤ tot l := by
  conv => rhs; rw [← List.take_append_drop i l]
  unfold tot; rw [List.map_append, List.sum_append]; omega
theorem rd_strs (l : List ByteArray) (i : Nat) (h : i < l.length) : rdOf ByteArray.empty l ((i : Nat) : Int) = l[i] := by
  unfold rdOf
  rw [Int.toNat_natCast, List.getD_eq_getElem?_getD, List.getElem?_eq_getElem h]; rfl
/-- The size that is left: less than 0, or what is left of a whole. -/
theorem sz_strs (l : List ByteArray) (n : Int) (h0 : 0 ≤ n) (hn : n ≤ 1048576) (hl : l.length ≤ 9223372036854775807) (hs : ∀ s ∈ l, s.size ≤ 9223372036854775807) :
    ∃ r : Int, Ev (fun k => laws_szStringS.f k l n) r ∧ (r < 0 ∨ (l.length : Int) + (tot l : Int) ≤ n ∧ r = n - (l.length : Int) - (tot l : Int)) := by
  unfold laws_szStringS.f
  rw [w64 (n := n - (l.length : Int)) (by omega) (by omega)]
  by_cases c : n - (l.length : Int) < 0
  · exact ⟨-1, by simp only [if_pos c]; exact Ev.now _, by omega⟩
  simp only [if_neg c]
  have go : ∀ (d i : Nat) (m : Int), i + d = l.length → 0 ≤ m → m = n - (l.length : Int) - (tot (l.take i) : Int) → ∃ r : Int, Ev (fun k => laws_szStringS.l0 k l m i) r ∧ (r < 0 ∨ (l.length : Int) + (tot l : Int) ≤ n ∧ r = n - (l.length : Int) - (tot l : Int)) := by
    intro d
    induction d with
    | zero =>
      intro i m hi hm he
      refine ⟨m, ev_1 fun k => ?_, ?_⟩
      · simp only [laws_szStringS.l0]; rw [if_neg (by omega)]
      · rw [List.take_of_length_le (by omega)] at he; omega
    | succ d ih =>
      intro i m hi hm he
      have hlt : i < l.length := by omega
      have hi0 : (0 : Int) ≤ (i : Int) := by omega
      have hi1 : (i : Int) < (l.length : Int) := by omega
      have hw : wrap64 ((i : Int) + 1) = ((i + 1 : Nat) : Int) := by rw [w64 (by omega) (by omega)]; rfl
      have hsz := hs l[i] (List.getElem_mem hlt)
      have hv : wrap64 (m - ((l[i].size : Nat) : Int)) = m - ((l[i].size : Nat) : Int) := w64 (by omega) (by omega)
      by_cases c2 : m - ((l[i].size : Nat) : Int) < 0
      · refine ⟨-1, Ev.step (fun k => by rw [laws_szStringS.l0]) ?_, by omega⟩
        simp only [if_pos hi1, if_pos hi0, rd_strs l i hlt, hv, if_pos c2]; exact Ev.now _
      · obtain ⟨r, h1, h2⟩ := ih (i + 1) (m - ((l[i].size : Nat) : Int)) (by omega) (by omega) (by rw [tot_take l i hlt]; omega)
        refine ⟨r, Ev.step (fun k => by rw [laws_szStringS.l0]) ?_, h2⟩
        simp only [if_pos hi1, if_pos hi0, rd_strs l i hlt, hv, if_neg c2, hw]; exact h1
  exact go l.length 0 _ (by omega) (by omega) (by simp [tot])
theorem to_strs (l : List ByteArray) (hl : l.length ≤ 1048576) : Ev (fun k => laws_toStringS.f k l) l := by
  unfold laws_toStringS.f
  simp only [if_pos (show (0 : Int) ≤ (l.length : Int) by omega), Int.toNat_natCast, if_pos (show l.length ≤ 17592186044416 by omega)]
  have go : ∀ (d i : Nat), i + d = l.length → Ev (fun k => laws_toStringS.l0 k l (l.take i ++ List.replicate d (⟨#[]⟩ : ByteArray)) i) l := by
    intro d
    induction d with
    | zero =>
      intro i hi
      refine ev_1 fun k => ?_
      simp only [laws_toStringS.l0]
      rw [if_neg (by omega), List.take_of_length_le (by omega)]; simp
    | succ d ih =>
      intro i hi
      have hlt : i < l.length := by omega
      have hi0 : (0 : Int) ≤ (i : Int) := by omega
      have hi1 : (i : Int) < (l.length : Int) := by omega
      have hw : wrap64 ((i : Int) + 1) = ((i + 1 : Nat) : Int) := by rw [w64 (by omega) (by omega)]; rfl
      have hln : (i : Int) < (((l.take i ++ List.replicate (d + 1) (⟨#[]⟩ : ByteArray)).length : Nat) : Int) := by simp; omega
      have hset : (l.take i ++ List.replicate (d + 1) (⟨#[]⟩ : ByteArray)).set i l[i] = l.take (i + 1) ++ List.replicate d (⟨#[]⟩ : ByteArray) := by
        rw [List.set_append_right _ _ (by simp; omega), List.take_succ_eq_append_getElem hlt]
        have : i - (l.take i).length = 0 := by simp; omega
        rw [this, List.replicate_succ, List.set_cons_zero, List.append_assoc]; rfl
      refine Ev.step (fun k => by rw [laws_toStringS.l0]) ?_
      simp only [if_pos hi1, if_pos hi0, if_pos hln, rd_strs l i hlt, hw, Int.toNat_natCast, hset]
      exact ih (i + 1) (by omega)
  have := go l.length 0 (by omega)
  simpa using this
theorem eq_strs (l : List ByteArray) (hl : l.length ≤ 1048576) : Ev (fun k => laws_eqStringS.f k l l) true := by
  unfold laws_eqStringS.f
  simp only [if_true]
  have go : ∀ (d i : Nat), i + d = l.length → Ev (fun k => laws_eqStringS.l0 k l l i) true := by
    intro d
    induction d with
    | zero =>
      intro i hi
      refine ev_1 fun k => ?_
      simp only [laws_eqStringS.l0]; rw [if_neg (by omega)]
    | succ d ih =>
      intro i hi
      have hlt : i < l.length := by omega
      have hi0 : (0 : Int) ≤ (i : Int) := by omega
      have hi1 : (i : Int) < (l.length : Int) := by omega
      have hw : wrap64 ((i : Int) + 1) = ((i + 1 : Nat) : Int) := by rw [w64 (by omega) (by omega)]; rfl
      refine Ev.step (fun k => by rw [laws_eqStringS.l0]) ?_
      simp only [if_pos hi1, if_pos hi0, if_true, hw]
      exact ih (i + 1) (by omega)
  exact go l.length 0 (by omega)

theorem segs_len (l : List ByteArray) (i : Nat) : (pathPut (segs (l.take i))).length = (l.take i).length + tot (l.take i) := by
  generalize l.take i = m
  induction m with
  | nil => rfl
  | cons a t ih =>
    have e1 : pathPut (segs (a :: t)) = (47 :: a.data.toList) ++ pathPut (segs t) := rfl
    have e2 : tot (a :: t) = a.size + tot t := rfl
    rw [e1, e2, List.length_append, ih, List.length_cons, List.length_cons]
    have : a.data.toList.length = a.size := by simp
    omega
theorem spec_Put (l : List ByteArray) (hl : l.length ≤ 1048576) (ht : tot l ≤ 1048576) : Ev (fun k => spec_PathPut.f k l) (B (pathPut (segs l))) := by
  unfold spec_PathPut.f
  have go : ∀ (d i : Nat), i + d = l.length → Ev (fun k => spec_PathPut.l0 k l (B (pathPut (segs (l.take i)))) i) (B (pathPut (segs l))) := by
    intro d
    induction d with
    | zero =>
      intro i hi
      refine ev_1 fun k => ?_
      simp only [spec_PathPut.l0]
      rw [if_neg (by omega), List.take_of_length_le (by omega)]
    | succ d ih =>
      intro i hi
      have hlt : i < l.length := by omega
      have hi0 : (0 : Int) ≤ (i : Int) := by omega
      have hi1 : (i : Int) < (l.length : Int) := by omega
      have hw : wrap64 ((i : Int) + 1) = ((i + 1 : Nat) : Int) := by rw [w64 (by omega) (by omega)]; rfl
      have h1 := segs_len l i
      have h2 := tot_take_le l i
      have h3 := tot_take l i hlt
      have h4 := tot_take_le l (i + 1)
      have hlen : (l.take i).length = i := by simp; omega
      obtain ⟨q, hq⟩ := exB l[i]
      have hqs : l[i].size = q.length := by rw [hq, B_size]
      have e := ih (i + 1) (by omega)
      have hst : segs (l.take (i + 1)) = segs (l.take i) ++ [q] := by
        unfold segs; rw [List.take_succ_eq_append_getElem hlt, List.map_append, hq]; simp
      rw [hst, pathPut_snoc] at e
      refine Ev.step (fun k => by rw [spec_PathPut.l0]) ?_
      have hd : (⟨#[47]⟩ : ByteArray) = B [47] := rfl
      simp only [if_pos hi1, if_pos hi0, rd_strs l i hlt, hq, hd, B_append, B_size, hw, if_pos (show (pathPut (segs (l.take i))).length + 1 ≤ 9223372036854775807 by omega),
        if_pos (show (pathPut (segs (l.take i)) ++ [47]).length + q.length ≤ 9223372036854775807 by simp; omega)]
      simpa using e
  exact go l.length 0 (by omega)
theorem FnExactPathPut (l : List ByteArray) (hl : l.length ≤ 9223372036854775807) (hs : ∀ s ∈ l, s.size ≤ maxLen) : ∃ k, laws_FnExactPathPut.f k l = some true := by
  refine Ev.rounds ?_
  unfold laws_FnExactPathPut.f
  obtain ⟨r, h1, h2⟩ := sz_strs l 1048576 (by omega) (by omega) hl hs
  refine ev_bind h1 ?_
  by_cases c : r < 0
  · simp only [if_pos c]; exact Ev.now _
  simp only [if_neg c]
  have hb : l.length + tot l ≤ 1048576 := by omega
  have ht := to_strs l (by omega)
  have hp : impl_PathPut.f l = some (B (pathPut (segs l))) := by
    unfold impl_PathPut.f
    have := segs_len l l.length
    rw [List.take_length] at this
    rw [if_pos (by omega)]
  refine ev_bind ht ?_
  refine ev_bind (spec_Put l (by omega) (by omega)) ?_
  refine ev_bind ht ?_
  simp only [hp, Option.bind_some, if_true]
  refine ev_bind ht ?_
  refine ev_bind (eq_strs l (by omega)) ?_
  simp only [if_true]
  exact Ev.now _

end Go.Proofs.Ytglliobchdjmcaa.Pure
