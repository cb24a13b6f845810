/- strings.Split at a separator of one byte: the call comes to the pieces, for every text of fewer than 4294967281 bytes; internal/bytealg.MaxLen holds some integer. · strings.ReplaceAll: the call comes to the text with each instance written as the other, for texts of fewer than 4294967281 bytes, an instance not empty, the other not longer; internal/bytealg.MaxLen holds some integer. · strings.Cut at a separator of one byte: the call comes to what stands ahead of the first such byte, what stands behind it, and whether there is one, for every text of fewer than 4294967281 bytes; internal/bytealg.MaxLen holds some integer. · strings.Split at one byte, and impl.clone of strings: what the calls come to, told cell by cell. Condition: fewer than 4294967281 bytes; the clone's strings take at most 2^47 bytes as headers; internal/bytealg.MaxLen holds some integer. · strings.Join: the call comes to the texts with the separator between them, if that takes at most 2^40 bytes. · strconv.Itoa: the call comes to the number's decimals, for every int; internal/strconv.uint64pow10 reads as its table. -/
import Derived.Test.YtekeimhhffnjpaaDoorHA
import Derived.Test.YtekeimhhffnjpaaDoorHM
import Derived.Test.YtekeimhhffnjpaaDoorShelf
import Derived.Lib.SplitLaws
import Derived.Lib.IndexLaws
import Derived.Lib.IndexMore
import Derived.Tactics
import Derived.KernelRfl
import Derived.RowKit3
import Derived.Laws.Slices
import Derived.Laws.Rows
import Derived.RowKit
import Derived.Lib.Hide
import Derived.Laws.AppendOwn
import Derived.Lib.SmallJoins
import Derived.Test.YtekeimhhffnjpaaDoorWMore
import Derived.Deep.LoopGhost
import Derived.Outline
import Derived.Sort.Grow
namespace Go.Proofs.YtekeimhhffnjpaaDoor.H
open Go.RowKit Go.Proofs.YtekeimhhffnjpaaDoorW.PrintWords Go.Proofs.YtekeimhhffnjpaaDoor.Base
theorem cut_at (c : UInt8) (l : Bs) (i : Nat) (h : Lib.indexByte l c = i) : i < l.length ∧ l = l.take i ++ c :: l.drop (i + 1) ∧ ∀ x ∈ l.take i, x ≠ c := by
  obtain ⟨h1, h2⟩ := Lib.indexByte_some h
  obtain ⟨hi, hc⟩ := List.getElem?_eq_some_iff.1 h1
  refine ⟨hi, ?_, ?_⟩
  · conv => lhs; rw [← List.take_append_drop i l]
    rw [List.drop_eq_getElem_cons hi, hc]
  · intro x hx e
    subst e
    obtain ⟨k, hk, hxk⟩ := List.mem_iff_getElem.1 hx
    have hk' : k < i := by simp at hk; omega
    refine h2 k hk' ?_
    rw [List.getElem?_eq_getElem (by omega)]
    exact congrArg some (by simpa using hxk)
theorem none_at (c : UInt8) (l : Bs) (h : Lib.indexByte l c = -1) : ∀ x ∈ l, x ≠ c := by
  intro x hx e
  subst e
  obtain ⟨k, hk, hxk⟩ := List.mem_iff_getElem.1 hx
  exact Lib.indexByte_none h k (by rw [List.getElem?_eq_getElem hk, hxk])
theorem splitK_one (c : UInt8) : ∀ (k : Nat) (l : Bs), l.count c ≤ k → Lib.splitK [c] 0 k l = splitC c l
  | 0, l, h => by
    rw [splitC_plain c l]
    · rfl
    · intro x hx e; subst e
      have := List.count_pos_iff.2 hx
      omega
  | k + 1, l, h => by
    unfold Lib.splitK
    rw [Lib.index_one]
    have hge := Lib.indexByte_ge l c
    by_cases e : Lib.indexByte l c = -1
    · rw [if_pos (by simp [e]), splitC_plain c l (none_at c l e)]
    · obtain ⟨i, hi⟩ : ∃ i : Nat, Lib.indexByte l c = i := Int.eq_ofNat_of_zero_le (by omega)
      obtain ⟨h1, h2, h3⟩ := cut_at c l i hi
      rw [if_neg (by simpa using e), hi]
      have hd : l.drop ((i : Int).toNat + [c].length) = l.drop (i + 1) := by simp
      have hc : (l.drop (i + 1)).count c ≤ k := by
        rw [h2] at h
        rw [List.count_append, List.count_cons_self] at h
        omega
      rw [hd, splitK_one c k _ hc]
      conv => rhs; rw [h2]
      rw [splitC_cut c _ _ h3]
      simp
theorem countB_one (c : UInt8) (l : Bs) : Lib.countB (B l) (B [c]) = l.count c := by
  show Lib.count (B l).data.toList (B [c]).data.toList = _
  rw [B_data, B_data, Lib.count_one]
theorem splitB_one (c : UInt8) (l : Bs) : Lib.splitB (B [c]) 0 (Lib.countB (B l) (B [c])) (B l) = (splitC c l).map B := by
  have h := Lib.splitB_data (B [c]) 0 (Lib.countB (B l) (B [c])) (B l)
  have hc : Lib.countB (B l) (B [c]) = l.count c := countB_one c l
  rw [B_data, B_data, splitK_one c _ l (by omega)] at h
  rw [← h, List.map_map]
  conv => lhs; rw [← List.map_id (Lib.splitB (B [c]) 0 (Lib.countB (B l) (B [c])) (B l))]
  exact List.map_congr_left fun s _ => eq_B s
theorem made_strs (w : World) (xs : List ByteArray) (base : Nat) (hb : base ≤ w.heap.size) (hm : xs.length ≤ maxLen) : Kd.R Kd.string 9 (w.alloc (.cells (xs.map Value.string).toArray 9)) base (fun _ => True) (.slice (some ⟨w.heap.size, 0, none⟩) xs.length xs.length) xs := by
  refine Kd.R_of_own ?_ (fun _ _ => trivial)
  refine ⟨by simp [encs], .inr ⟨w.heap.size, xs.length, _, rfl, hb, heap_alloc_new w _, Nat.le_refl _, hm, ?_⟩⟩
  have e : (xs.map Value.string).take (xs.length * 1) = xs.map Value.string := by
    rw [Nat.mul_one]; exact List.take_of_length_le (Nat.le_of_eq (List.length_map _))
  exact ⟨by simp, e⟩
def strings_Split.f (a0 : ByteArray) (a1 : ByteArray) : Option (List ByteArray) := if a0.size < 4294967281 then (match a1.data.toList with | [c] => some ((splitC c a0.data.toList).map B) | _ => none) else none
theorem strings_Split.calls (a0 : ByteArray) (a1 : ByteArray) (r : List ByteArray) (w : World) (hT : TabM w) (h : strings_Split.f a0 a1 = some r) :
    Calls Tryd.prog 58 #[.string a0, .string a1] w fun e w' => ∃ v0_ : Value, e = .returned (v0_) ∧ Kd.R Kd.string 9 w' w.heap.size (fun _ => True) v0_ r ∧ Below w.heap.size w w' := by
  obtain ⟨l, rfl⟩ := exB a0
  obtain ⟨q, rfl⟩ := exB a1
  obtain ⟨m, hm⟩ := hT
  unfold strings_Split.f at h
  by_cases hs : (B l).size < 4294967281
  · rw [if_pos hs, B_data, B_data] at h
    match q, h with
    | [c], h =>
      obtain rfl := Option.some.inj h
      refine (Tryd.strings_Split (B l) (B [c]) m w hs hm (by simp)).mono ?_
      rintro e w' ⟨rfl, rfl⟩
      have hc : Lib.countB (B l) (B [c]) = l.count c := countB_one c l
      have hlen : Lib.countB (B l) (B [c]) + 1 = ((splitC c l).map B).length := by rw [hc, List.length_map, splitC_length]
      have hle : l.count c ≤ l.length := List.count_le_length
      rw [splitB_one, hlen]
      exact ⟨_, rfl, made_strs w _ _ (Nat.le_refl _) (by rw [← hlen, hc]; unfold maxLen; simp at hs; omega), below_alloc (Below.refl _ _) _⟩
  · rw [if_neg hs] at h; cases h
end Go.Proofs.YtekeimhhffnjpaaDoor.H
namespace Go.Proofs.YtekeimhhffnjpaaDoor.H
open Go.RowKit Go.Proofs.YtekeimhhffnjpaaDoorW.PrintWords Go.Proofs.YtekeimhhffnjpaaDoor.Base
def strings_ReplaceAll.f (a0 a1 a2 : ByteArray) : Option ByteArray := if a0.size < 4294967281 ∧ 1 ≤ a1.size ∧ a2.size ≤ a1.size then some (B (replA a1.data.toList a2.data.toList a0.data.toList)) else none
theorem strings_ReplaceAll.calls (a0 a1 a2 : ByteArray) (r : ByteArray) (w : World) (hT : TabM w) (h : strings_ReplaceAll.f a0 a1 a2 = some r) :
    Calls Tryd.prog 60 #[.string a0, .string a1, .string a2] w fun e w' => e = .returned (.string r) ∧ Below w.heap.size w w' := by
  obtain ⟨m, hm⟩ := hT
  unfold strings_ReplaceAll.f at h
  by_cases c : a0.size < 4294967281 ∧ 1 ≤ a1.size ∧ a2.size ≤ a1.size
  · rw [if_pos c] at h
    obtain rfl := Option.some.inj h
    have h1 := Lib.countB_mul_le a1 c.2.1 a0.size a0 (Nat.le_refl _)
    have h2 : Lib.countB a0 a1 * a2.size ≤ Lib.countB a0 a1 * a1.size := Nat.mul_le_mul_left _ c.2.2
    refine (Tryd.strings_ReplaceAll a0 a1 a2 m w c.1 hm c.2.1 (by omega)).mono ?_
    rintro e w' ⟨rfl, hb⟩
    have hne : a1.data.toList ≠ [] := by
      obtain ⟨o, rfl⟩ := exB a1
      have h3 := c.2.1
      rw [B_size] at h3
      rw [B_data]
      intro q; rw [q] at h3; simp at h3
    rw [replaceAll_replA _ _ _ hne]
    exact ⟨rfl, hb⟩
  · rw [if_neg c] at h; cases h
end Go.Proofs.YtekeimhhffnjpaaDoor.H
namespace Go.Proofs.YtekeimhhffnjpaaDoor.H
open Go.RowKit Go.Proofs.YtekeimhhffnjpaaDoorW.PrintWords Go.Proofs.YtekeimhhffnjpaaDoor.Base
def cutAh (c : UInt8) : Bs → Bs
  | [] => []
  | x :: t => if x = c then [] else x :: cutAh c t
def cutBe (c : UInt8) : Bs → Bs
  | [] => []
  | x :: t => if x = c then t else cutBe c t
theorem cutAh_plain (c : UInt8) (l : Bs) (h : ∀ x ∈ l, x ≠ c) : cutAh c l = l := by
  induction l with
  | nil => rfl
  | cons x t ih => unfold cutAh; rw [if_neg (h x (by simp)), ih (fun y hy => h y (by simp [hy]))]
theorem cutBe_plain (c : UInt8) (l : Bs) (h : ∀ x ∈ l, x ≠ c) : cutBe c l = [] := by
  induction l with
  | nil => rfl
  | cons x t ih => unfold cutBe; rw [if_neg (h x (by simp)), ih (fun y hy => h y (by simp [hy]))]
theorem cutAh_cut (c : UInt8) (a b : Bs) (h : ∀ x ∈ a, x ≠ c) : cutAh c (a ++ c :: b) = a := by
  induction a with
  | nil => simp [cutAh]
  | cons x t ih => rw [List.cons_append, cutAh, if_neg (h x (by simp)), ih (fun y hy => h y (by simp [hy]))]
theorem cutBe_cut (c : UInt8) (a b : Bs) (h : ∀ x ∈ a, x ≠ c) : cutBe c (a ++ c :: b) = b := by
  induction a with
  | nil => simp [cutBe]
  | cons x t ih => rw [List.cons_append, cutBe, if_neg (h x (by simp)), ih (fun y hy => h y (by simp [hy]))]
theorem cut_one (c : UInt8) (l : Bs) : Lib.cut l [c] = (cutAh c l, cutBe c l, l.contains c) := by
  unfold Lib.cut
  rw [Lib.index_one]
  have hge := Lib.indexByte_ge l c
  by_cases e : Lib.indexByte l c = -1
  · rw [if_neg (by omega)]
    have h := none_at c l e
    rw [cutAh_plain c l h, cutBe_plain c l h]
    have : l.contains c = false := by
      rw [List.contains_eq_mem]; exact decide_eq_false (fun q => h c q rfl)
    rw [this]
  · obtain ⟨i, hi⟩ : ∃ i : Nat, Lib.indexByte l c = i := Int.eq_ofNat_of_zero_le (by omega)
    obtain ⟨h1, h2, h3⟩ := cut_at c l i hi
    rw [if_pos (by omega), hi]
    have e1 : cutAh c l = l.take i := by conv => lhs; rw [h2]
                                         exact cutAh_cut c _ _ h3
    have e2 : cutBe c l = l.drop (i + 1) := by conv => lhs; rw [h2]
                                               exact cutBe_cut c _ _ h3
    have e3 : l.contains c = true := by
      rw [List.contains_eq_mem]; exact decide_eq_true (by rw [h2]; simp)
    rw [e1, e2, e3]; rfl
def strings_Cut.f (a0 a1 : ByteArray) : Option (ByteArray × ByteArray × Bool) := if a0.size < 4294967281 then (match a1.data.toList with | [c] => some (B (cutAh c a0.data.toList), B (cutBe c a0.data.toList), a0.data.toList.contains c) | _ => none) else none
theorem strings_Cut.calls (a0 a1 : ByteArray) (r : ByteArray × ByteArray × Bool) (w : World) (hT : TabM w) (h : strings_Cut.f a0 a1 = some r) :
    Calls Tryd.prog 59 #[.string a0, .string a1] w fun e w' => e = .returned (.tuple #[.string r.1, .string r.2.1, .bool r.2.2]) ∧ Below w.heap.size w w' := by
  obtain ⟨l, rfl⟩ := exB a0
  obtain ⟨q, rfl⟩ := exB a1
  obtain ⟨m, hm⟩ := hT
  unfold strings_Cut.f at h
  by_cases hs : (B l).size < 4294967281
  · rw [if_pos hs, B_data, B_data] at h
    match q, h with
    | [c], h =>
      obtain rfl := Option.some.inj h
      refine (Tryd.strings_Cut (B l) (B [c]) m w hs hm).mono ?_
      rintro e w' ⟨rfl, n, rfl⟩
      rw [B_data, B_data, cut_one]
      exact ⟨rfl, pw_below_drewN (Below.refl _ _) _⟩
  · rw [if_neg hs] at h; cases h
end Go.Proofs.YtekeimhhffnjpaaDoor.H
set_option linter.unusedVariables false
namespace Go.Proofs.YtekeimhhffnjpaaDoor.H
open Go.RowKit Go.Proofs.YtekeimhhffnjpaaDoorW.PrintWords Go.Proofs.YtekeimhhffnjpaaDoor.Base
/-- The strings as values. -/
def strV (ps : List Bs) : List Value := ps.map fun s => .string (B s)
end Go.Proofs.YtekeimhhffnjpaaDoor.H
namespace Go.Proofs.YtekeimhhffnjpaaDoor.H
open Go.RowKit Go.Proofs.YtekeimhhffnjpaaDoorW.PrintWords Go.Proofs.YtekeimhhffnjpaaDoor.Base
/-- The texts with the separator between them. -/
def joinB (sep : Bs) : List Bs → Bs
  | [] => []
  | [x] => x
  | x :: y :: r => x ++ sep ++ joinB sep (y :: r)
theorem joinB_snoc (sep : Bs) : ∀ (ls : List Bs) (s : Bs), ls ≠ [] → joinB sep (ls ++ [s]) = joinB sep ls ++ sep ++ s
  | [], s, h => absurd rfl h
  | [x], s, _ => rfl
  | x :: y :: r, s, _ => by
    have ih := joinB_snoc sep (y :: r) s (by simp)
    show x ++ sep ++ joinB sep (y :: (r ++ [s])) = _
    rw [show y :: (r ++ [s]) = (y :: r) ++ [s] from rfl, ih]
    simp [joinB]
theorem joinB_len (sep : Bs) : ∀ (ls : List Bs), (joinB sep ls).length = (ls.map List.length).sum + sep.length * (ls.length - 1)
  | [] => by simp [joinB]
  | [x] => by simp [joinB]
  | x :: y :: r => by
    have ih := joinB_len sep (y :: r)
    simp only [joinB, List.length_append, ih, List.map_cons, List.sum_cons, List.length_cons]
    have : r.length + 1 + 1 - 1 = (r.length + 1 - 1) + 1 := by omega
    rw [this, Nat.mul_add]; omega
def bss (l : List ByteArray) : List Bs := l.map fun s => s.data.toList
theorem jp_app (a b : Bs) : Lib.byteCells (a ++ b) = Lib.byteCells a ++ Lib.byteCells b := by simp [Lib.byteCells]
theorem jp_len (a : Bs) : (Lib.byteCells a).length = a.length := by simp [Lib.byteCells]
def sums (ls : List Bs) : Nat := (ls.map List.length).sum
theorem sums_take (ls : List Bs) (k : Nat) (h : k < ls.length) : sums (ls.take (k + 1)) = sums (ls.take k) + ls[k].length := by
  unfold sums; rw [List.take_succ_eq_append_getElem h, List.map_append, List.sum_append]; simp
theorem sums_le (ls : List Bs) (k : Nat) : sums (ls.take k) ≤ sums ls := by
  conv => rhs; rw [← List.take_append_drop k ls]
  unfold sums; rw [List.map_append, List.sum_append]; omega
theorem join_take (sep : Bs) (ls : List Bs) (k : Nat) (h : k + 1 < ls.length) : joinB sep (ls.take (k + 2)) = joinB sep (ls.take (k + 1)) ++ sep ++ ls[k + 1] := by
  rw [List.take_succ_eq_append_getElem h, joinB_snoc]
  intro e
  have := congrArg List.length e
  rw [List.length_take, List.length_nil] at this
  omega
theorem join_take_le (sep : Bs) (ls : List Bs) (k : Nat) : (joinB sep (ls.take k)).length ≤ (joinB sep ls).length := by
  rw [joinB_len, joinB_len]
  have h1 := sums_le ls k
  unfold sums at h1
  have h2 : sep.length * ((ls.take k).length - 1) ≤ sep.length * (ls.length - 1) := Nat.mul_le_mul_left _ (by simp; omega)
  omega
set_option maxHeartbeats 4000000 in
set_option maxRecDepth 100000 in
theorem join_walk (A0 : Option Addr) (c0 : Nat) (l0 : List ByteArray) (sep : Bs) (w : World) (hr0 : Kd.C Kd.string w A0 l0.length l0) (hc0 : l0.length ≤ c0) (hm : l0.length ≤ 1099511627776) (hl : (joinB sep (bss l0)).length ≤ 1099511627776) (hmany : 2 ≤ l0.length) (hsep : 0 < sep.length) :
    Calls Tryd.prog 68 #[.slice A0 l0.length c0, .string (B sep)] w fun e w' => e = .returned (.string (B (joinB sep (bss l0)))) ∧ Below w.heap.size w w' := by
  have hbl : (bss l0).length = l0.length := by simp [bss]
  have hln := joinB_len sep (bss l0)
  have hln1 : (joinB sep (bss l0)).length = sums (bss l0) + sep.length * (l0.length - 1) := by rw [hln, hbl]; rfl
  clear hln
  obtain ⟨T, hT⟩ : ∃ T, T = sep.length * (l0.length - 1) := ⟨_, rfl⟩
  have hTi : (sep.length : Int) * ((l0.length : Int) - 1) = (T : Int) := by
    rw [hT, show ((l0.length : Int) - 1) = ((l0.length - 1 : Nat) : Int) by omega]; exact (Int.natCast_mul _ _).symm
  have hTl : T ≤ 1099511627776 := by omega
  have hsT : sep.length ≤ T := by rw [hT]; exact Nat.le_mul_of_pos_right _ (by omega)
  have hdv : ¬ 9223372036854775807 / ((l0.length : Int) - 1) ≤ (sep.length : Int) := by
    intro h
    have h1 : 9223372036854775807 < ((sep.length : Int) + 1) * ((l0.length : Int) - 1) := Int.lt_mul_of_ediv_lt (by omega) (by omega)
    rw [Int.add_mul, hTi] at h1
    omega
  have hw1 : wrap64 (T : Int) = (T : Int) := w64 (by omega) (by omega)
  obtain ⟨ad, e0, _⟩ := Kd.at_string hr0 ((0 : Nat) : Int) (by omega) (by omega)
  subst e0
  have hcl : ∀ wr, Below w.heap.size w wr → ∀ k, (hk : k < l0.length) → wr.cell? (ad.add k) = some (.string (B ((bss l0)[k]'(by omega)))) := by
    intro wr hb k hk
    obtain ⟨ad', e0, hcell⟩ := Kd.at_string (Kd.C_below hr0 hb) (k : Int) (by omega) (by omega)
    obtain rfl : ad = ad' := Option.some.inj e0
    have hrd : rdOf ByteArray.empty l0 (k : Int) = l0[k] := by unfold rdOf; rw [Int.toNat_natCast, List.getD_eq_getElem?_getD, List.getElem?_eq_getElem hk]; rfl
    rw [hrd, Int.toNat_natCast] at hcell
    rw [hcell]
    unfold bss
    rw [List.getElem_map]
    exact congrArg (fun x => some (Value.string x)) (eq_B l0[k])
  have HC := Lib.hid hcl
  have HTI := Lib.hid hTi
  have HT := Lib.hid hT
  have HDV := Lib.hid hdv
  have HW := Lib.hid hw1
  have HL := Lib.hid hln1
  have HTL := Lib.hid hTl
  have HJ := Lib.hid hl
  clear hcl hr0 hT hTi hdv hw1 hln1 hTl hsT hl
  have n0 : ((l0.length : Int) == 0) = false := by rw [beq_eq_false_iff_ne]; omega
  have n1 : ((l0.length : Int) == 1) = false := by rw [beq_eq_false_iff_ne]; omega
  go_enter Tryd.func68, Tryd.ntmps68
  go_wp2_with fail
  go_loopw [5, 41] (fun n i wr => wr = w ∧ ∃ k s : Nat, k ≤ l0.length ∧ i = .int .i64 k ∧ n = .int .i64 s ∧ s = T + sums ((bss l0).take k)) (fun _ i _ => l0.length - (intOf i).toNat)
  case atStart => exact ⟨rfl, 0, T, by omega, rfl, by rw [HTI.out, HW.out, HW.out], by simp [sums]⟩
  case round =>
    obtain ⟨hwr, k, s, hk, rfl, rfl, hsum⟩ := hrel
    have hwr' := hwr.symm
    clear hwr
    subst hwr'
    by_cases hlt : k < l0.length
    · have hcell := HC.out w (Below.refl _ w) k hlt
      have hst := sums_take (bss l0) k (by omega)
      have hle := sums_le (bss l0) (k + 1)
      have hl := HJ.out
      have hln1 := HL.out
      have hTl := HTL.out
      generalize hq : (bss l0)[k]'(by omega) = q at hcell hst
      have hw2 : wrap64 (9223372036854775807 - (s : Int)) = 9223372036854775807 - (s : Int) := w64 (by omega) (by omega)
      have hov : ¬ (9223372036854775807 - (s : Int)) < (q.length : Int) := by omega
      have hwq : wrap64 ((s : Int) + (q.length : Int)) = ((s + q.length : Nat) : Int) := by rw [w64 (by omega) (by omega)]; omega
      have HS := Lib.hid hst
      have HM := Lib.hid hsum
      clear hst hq hsum hle hl hln1 hTl
      go_wp2_with fail
      go_roundw
      case rel => exact ⟨trivial, k + 1, s + q.length, by omega, by go_num, by first | rfl | rw [hwq] | (congr 1; omega), by rw [HM.out, HS.out]; omega⟩
      case measure => simp [intOf]; omega
    · obtain rfl : k = l0.length := by omega
      have hs : s ≤ 1099511627776 := by
        have hl := HJ.out
        have hln1 := HL.out
        have hT := HT.out
        rw [hsum, List.take_of_length_le (by omega)]; omega
      clear hsum
      go_wp2_with fail
      refine (Tryd.Builder_Grow_fresh w.heap.size w.heap.size s _ (Nat.le_refl _) (heap_alloc_new w _) (by simp) (by omega)).mono ?_
      rintro e w1 ⟨rfl, h1, hb1⟩
      have hw1 : Below w.heap.size w w1 := ((Below.refl _ w).alloc (Nat.le_refl _) _).trans hb1
      have hz1 := hw1.size
      have hc0 : w1.cell? ad = some (.string (B ((bss l0)[0]'(by omega)))) := HC.out w1 hw1 0 (by omega)
      have hl1 : ((bss l0)[0]'(by omega)).length ≤ 1099511627776 := by
        have h1 := HJ.out
        have h2 := HL.out
        have h3 := sums_le (bss l0) (0 + 1)
        have h4 := sums_take (bss l0) 0 (by omega)
        omega
      have hj1 : joinB sep ((bss l0).take 1) = (bss l0)[0]'(by omega) := by
        rw [List.take_succ_eq_append_getElem (show 0 < (bss l0).length by omega)]; rfl
      generalize hq : (bss l0)[0]'(by omega) = q at hc0 hl1 hj1
      have HQ := Lib.hid hj1
      clear hj1 hq hb1
      go_wp2_with fail
      refine (Builder_WriteString w.heap.size w.heap.size [] (B q) w1 (Or.inr h1) (by simp; omega) hz1).mono ?_
      rintro e w2 ⟨rfl, h2, hb2⟩
      have hw2 := hw1.trans hb2
      have HB : Lib.IsBuilder 60 5 w.heap.size w.heap.size (Lib.byteCells (joinB sep ((bss l0).take (0 + 1)))) w2 := by
        refine Or.inr ?_
        rw [show (0 + 1) = 1 from rfl, HQ.out]
        exact h2
      clear h1 h2 hc0 hb2 hw1 hz1 HQ hl1
      have hm1 : 1 ≤ l0.length := by omega
      go_wp2_with fail
      go_loopw [10, 65] (fun _ i wx => ∃ k : Nat, k + 1 ≤ l0.length ∧ i = .int .i64 k ∧ Lib.IsBuilder 60 5 w.heap.size w.heap.size (Lib.byteCells (joinB sep ((bss l0).take (k + 1)))) wx ∧ Below w.heap.size w wx) (fun _ i _ => l0.length - (intOf i).toNat)
      case atStart => exact ⟨0, by omega, rfl, HB, hw2⟩
      case round =>
        obtain ⟨k, hk, rfl, hbld, hbw⟩ := hrel
        by_cases hlt : k + 1 < l0.length
        · have hst := join_take sep (bss l0) k (by omega)
          have hmx := join_take_le sep (bss l0) (k + 2)
          have ea : ad.add (k + 1) = ⟨ad.block, ad.off + 1 + k, none⟩ := by simp [Addr.add]; omega
          have hcell := HC.out wr hbw (k + 1) hlt
          rw [ea] at hcell
          generalize hq : (bss l0)[k + 1]'(by omega) = q at hcell hst
          have hl := HJ.out
          rw [hst, List.length_append, List.length_append] at hmx
          have hx1 : (joinB sep ((bss l0).take (k + 1))).length + sep.length ≤ 140737488355328 := by omega
          have hx2 : ((joinB sep ((bss l0).take (k + 1))).length + sep.length) + q.length ≤ 140737488355328 := by omega
          have HS := Lib.hid hst
          have hwz := hbw.size
          clear hst hmx hq hl ea
          go_wp2_with fail
          refine (Builder_WriteString w.heap.size w.heap.size _ (B sep) wr hbld (by simpa [jp_len] using hx1) hwz).mono ?_
          rintro e w5 ⟨rfl, h5, hb5⟩
          have hbw5 := hbw.trans hb5
          have hwz5 := hbw5.size
          clear hcell hbld hbw hb5 hwz
          go_wp2_with fail
          refine (Builder_WriteString w.heap.size w.heap.size _ (B q) w5 (Or.inr h5) (by simp [jp_len, Lib.strCells_length]; omega) hwz5).mono ?_
          rintro e w6 ⟨rfl, h6, hb6⟩
          have hbw6 := hbw5.trans hb6
          clear h5 hb6 hbw5 hwz5
          go_wp2_with fail
          go_roundw
          case rel => exact ⟨k + 1, by omega, by go_num, Or.inr (by rw [HS.out, jp_app, jp_app]; exact h6), hbw6⟩
          case measure => simp [intOf]; omega
        · obtain rfl : k = l0.length - 1 := by omega
          have hwz := hbw.size
          rw [List.take_of_length_le (by omega)] at hbld
          go_wp2_with fail
          refine (Tryd.Builder_String_any w.heap.size w.heap.size (joinB sep (bss l0)) wr hbld hwz).mono ?_
          rintro e w5 ⟨rfl, hb5⟩
          go_wp2_with fail
          go_ret
          exact ⟨rfl, hbw.trans hb5⟩
def strings_Join.f (l0 : List ByteArray) (a1 : ByteArray) : Option (ByteArray) := if 0 < a1.size ∧ l0.length ≤ 1099511627776 ∧ (joinB a1.data.toList (bss l0)).length ≤ 1099511627776 then some (B (joinB a1.data.toList (bss l0))) else none
set_option maxRecDepth 100000 in
theorem strings_Join.calls (A0 : Option Addr) (c0 : Nat) (l0 : List ByteArray) (a1 : ByteArray) (r : ByteArray) (w : World) (hr0 : Kd.C Kd.string w A0 l0.length l0) (hc0 : l0.length ≤ c0) (h : strings_Join.f l0 a1 = some r) :
    Calls Tryd.prog 68 #[.slice A0 l0.length c0, .string a1] w fun e w' => e = .returned (.string r) ∧ Below w.heap.size w w' := by
  unfold strings_Join.f at h
  split at h
  case isFalse => cases h
  rename_i c
  obtain rfl := Option.some.inj h
  obtain ⟨sep, rfl⟩ := exB a1
  rw [B_data] at c ⊢
  rw [B_size] at c
  clear h
  by_cases h2 : 2 ≤ l0.length
  · exact join_walk A0 c0 l0 sep w hr0 hc0 c.2.1 c.2.2 h2 c.1
  · by_cases h1 : l0.length = 1
    · match l0, h1, hr0, hc0 with
      | [x], _, hr0, hc0 =>
        obtain ⟨ad, e0, hcell⟩ := Kd.at_string hr0 ((0 : Nat) : Int) (by omega) (by simp)
        subst e0
        have hc : w.cell? ad = some (.string x) := hcell
        have n0 : (1 : Int) ≠ 0 := by omega
        have hr : B (joinB sep (bss [x])) = x := (eq_B x).symm
        rw [hr]
        clear hr c hr0 hcell h2
        simp only [List.length_cons, List.length_nil] at *
        go_enter Tryd.func68, Tryd.ntmps68
        go_wp2_with fail
        go_ret
        exact ⟨rfl, Below.refl _ _⟩
    · match l0, h1, h2, hr0, hc0 with
      | [], _, _, hr0, hc0 =>
        clear c hr0 h1 h2
        have hr : B (joinB sep (bss [])) = ⟨#[]⟩ := rfl
        rw [hr]
        simp only [List.length_nil] at *
        go_enter Tryd.func68, Tryd.ntmps68
        go_wp2_with fail
        go_ret
        exact ⟨rfl, Below.refl _ _⟩
      | [x], h1, _, _, _ => exact absurd rfl h1
      | x :: y :: t, _, h2, _, _ => exact absurd (by simp) h2
end Go.Proofs.YtekeimhhffnjpaaDoor.H
namespace Go.Proofs.YtekeimhhffnjpaaDoor.H
open Go.RowKit Go.Proofs.YtekeimhhffnjpaaDoorW.PrintWords Go.Proofs.YtekeimhhffnjpaaDoor.Base
theorem below_grow (w : World) (q : Nat) (os : Array Obj) : Below w.heap.size w (Go.Sort.grow (w.drewN q) os) :=
  ⟨rfl, rfl, rfl, by first | (simp [Go.Sort.grow]; done) | (simp [Go.Sort.grow]; omega), fun i hi => by
    show ((w.drewN q).heap ++ os)[i]? = _
    rw [Array.getElem?_append_left (by show i < w.heap.size; omega)]
    rfl⟩
def strconv_Itoa.f (a0 : Int) : Option ByteArray := if -9223372036854775808 ≤ a0 ∧ a0 ≤ 9223372036854775807 then some (B (Lib.itoa a0)) else none
theorem strconv_Itoa.calls (a0 : Int) (r : ByteArray) (w : World) (hT : TabI w) (h : strconv_Itoa.f a0 = some r) :
    Calls Tryd.prog 89 #[.int .i64 a0] w fun e w' => e = .returned (.string r) ∧ Below w.heap.size w w' := by
  unfold strconv_Itoa.f at h
  by_cases c : -9223372036854775808 ≤ a0 ∧ a0 ≤ 9223372036854775807
  · rw [if_pos c] at h
    obtain rfl := Option.some.inj h
    refine (Tryd.strconv_Itoa a0 c.1 c.2 w hT).mono ?_
    rintro e w' ⟨rfl, k, os, rfl⟩
    exact ⟨rfl, below_grow w k os⟩
  · rw [if_neg c] at h; cases h
end Go.Proofs.YtekeimhhffnjpaaDoor.H
