/- strings.Split at a separator of one byte: the call comes to the pieces, for every text of fewer than 4294967281 bytes; internal/bytealg.MaxLen holds some integer. -/
import Derived.Test.YtafdpgdllmhhmaaDoorHTab
import Derived.Test.YtafdpgdllmhhmaaDoorSplitM
import Derived.Test.YtafdpgdllmhhmaaDoorShelf
import Derived.Lib.SplitLaws
import Derived.Lib.IndexLaws
namespace Go.Proofs.YtafdpgdllmhhmaaDoor.H
open Go.RowKit Go.Proofs.YtafdpgdllmhhmaaDoorW.PrintWords Go.Proofs.YtafdpgdllmhhmaaDoor.Base
theorem cut_at (c : UInt8) (l : Bs) (i : Nat) (h : Lib.indexByte l c = i) : i < l.length ∧ l = l.take i ++ c :: l.drop (i + 1) ∧ ∀ x ∈ l.take i, x ≠ c := by
  obtain ⟨h1, h2⟩ := Lib.indexByte_some h
  obtain ⟨hi, hc⟩ := List.getElem?_eq_some_iff.1 h1
  refine ⟨hi, ?_, ?_⟩
  · conv => lhs; rw [← List.take_append_drop i l]
    rw [List.drop_eq_getElem_cons hi, hc]
  · intro x hx e
    subst e
    obtain ⟨k, hk, hxk⟩ := List.mem_iff_getElem.1 hx
    have hk' : k < i := by simp at hk; omega
    refine h2 k hk' ?_
    rw [List.getElem?_eq_getElem (by omega)]
    exact congrArg some (by simpa using hxk)
theorem none_at (c : UInt8) (l : Bs) (h : Lib.indexByte l c = -1) : ∀ x ∈ l, x ≠ c := by
  intro x hx e
  subst e
  obtain ⟨k, hk, hxk⟩ := List.mem_iff_getElem.1 hx
  exact Lib.indexByte_none h k (by rw [List.getElem?_eq_getElem hk, hxk])
theorem splitK_one (c : UInt8) : ∀ (k : Nat) (l : Bs), l.count c ≤ k → Lib.splitK [c] 0 k l = splitC c l
  | 0, l, h => by
    rw [splitC_plain c l]
    · rfl
    · intro x hx e; subst e
      have := List.count_pos_iff.2 hx
      omega
  | k + 1, l, h => by
    unfold Lib.splitK
    rw [Lib.index_one]
    have hge := Lib.indexByte_ge l c
    by_cases e : Lib.indexByte l c = -1
    · rw [if_pos (by simp [e]), splitC_plain c l (none_at c l e)]
    · obtain ⟨i, hi⟩ : ∃ i : Nat, Lib.indexByte l c = i := Int.eq_ofNat_of_zero_le (by omega)
      obtain ⟨h1, h2, h3⟩ := cut_at c l i hi
      rw [if_neg (by simpa using e), hi]
      have hd : l.drop ((i : Int).toNat + [c].length) = l.drop (i + 1) := by simp
      have hc : (l.drop (i + 1)).count c ≤ k := by
        rw [h2] at h
        rw [List.count_append, List.count_cons_self] at h
        omega
      rw [hd, splitK_one c k _ hc]
      conv => rhs; rw [h2]
      rw [splitC_cut c _ _ h3]
      simp
theorem countB_one (c : UInt8) (l : Bs) : Lib.countB (B l) (B [c]) = l.count c := by
  show Lib.count (B l).data.toList (B [c]).data.toList = _
  rw [B_data, B_data, Lib.count_one]
theorem splitB_one (c : UInt8) (l : Bs) : Lib.splitB (B [c]) 0 (Lib.countB (B l) (B [c])) (B l) = (splitC c l).map B := by
  have h := Lib.splitB_data (B [c]) 0 (Lib.countB (B l) (B [c])) (B l)
  have hc : Lib.countB (B l) (B [c]) = l.count c := countB_one c l
  rw [B_data, B_data, splitK_one c _ l (by omega)] at h
  rw [← h, List.map_map]
  conv => lhs; rw [← List.map_id (Lib.splitB (B [c]) 0 (Lib.countB (B l) (B [c])) (B l))]
  exact List.map_congr_left fun s _ => eq_B s
theorem made_strs (w : World) (xs : List ByteArray) (base : Nat) (hb : base ≤ w.heap.size) (hm : xs.length ≤ maxLen) : Kd.R Kd.string 9 (w.alloc (.cells (xs.map Value.string).toArray 9)) base (fun _ => True) (.slice (some ⟨w.heap.size, 0, none⟩) xs.length xs.length) xs := by
  refine Kd.R_of_own ?_ (fun _ _ => trivial)
  refine ⟨by simp [encs], .inr ⟨w.heap.size, xs.length, _, rfl, hb, heap_alloc_new w _, Nat.le_refl _, hm, ?_⟩⟩
  have e : (xs.map Value.string).take (xs.length * 1) = xs.map Value.string := by
    rw [Nat.mul_one]; exact List.take_of_length_le (Nat.le_of_eq (List.length_map _))
  exact ⟨by simp, e⟩
def strings_Split.f (a0 : ByteArray) (a1 : ByteArray) : Option (List ByteArray) := if a0.size < 4294967281 then (match a1.data.toList with | [c] => some ((splitC c a0.data.toList).map B) | _ => none) else none
theorem strings_Split.calls (a0 : ByteArray) (a1 : ByteArray) (r : List ByteArray) (w : World) (hT : TabM w) (h : strings_Split.f a0 a1 = some r) :
    Calls Tryd.prog 61 #[.string a0, .string a1] w fun e w' => ∃ v0_ : Value, e = .returned (v0_) ∧ Kd.R Kd.string 9 w' w.heap.size (fun _ => True) v0_ r ∧ Below w.heap.size w w' := by
  obtain ⟨l, rfl⟩ := exB a0
  obtain ⟨q, rfl⟩ := exB a1
  obtain ⟨m, hm⟩ := hT
  unfold strings_Split.f at h
  by_cases hs : (B l).size < 4294967281
  · rw [if_pos hs, B_data, B_data] at h
    match q, h with
    | [c], h =>
      obtain rfl := Option.some.inj h
      refine (Tryd.strings_Split (B l) (B [c]) m w hs hm (by simp)).mono ?_
      rintro e w' ⟨rfl, rfl⟩
      have hc : Lib.countB (B l) (B [c]) = l.count c := countB_one c l
      have hlen : Lib.countB (B l) (B [c]) + 1 = ((splitC c l).map B).length := by rw [hc, List.length_map, splitC_length]
      have hle : l.count c ≤ l.length := List.count_le_length
      rw [splitB_one, hlen]
      exact ⟨_, rfl, made_strs w _ _ (Nat.le_refl _) (by rw [← hlen, hc]; unfold maxLen; simp at hs; omega), below_alloc (Below.refl _ _) _⟩
  · rw [if_neg hs] at h; cases h
end Go.Proofs.YtafdpgdllmhhmaaDoor.H
