/- Texts of this claim, joined: HHost, HSite, HUrlR, HUrlN, LUrlXSSame. Conditions: each theorem's own. -/
import Derived.Test.YtndobphgeiamhaaGreatDoorA01
import Derived.Test.YtndobphgeiamhaaGreatDoorA02
import Derived.Test.YtndobphgeiamhaaGreatDoorA03
import Derived.Test.YtndobphgeiamhaaGreatDoorA04
import Derived.Test.YtndobphgeiamhaaGreatDoorA05
import Derived.Test.YtndobphgeiamhaaGreatDoorA06
import Derived.Test.YtndobphgeiamhaaGreatDoorA07
import Derived.Test.YtndobphgeiamhaaGreatDoorA08
import Derived.Test.YtndobphgeiamhaaGreatDoorA09
import Derived.Test.YtndobphgeiamhaaGreatDoorA10
import Derived.Test.YtndobphgeiamhaaGreatDoorA11
import Derived.Test.YtndobphgeiamhaaGreatDoorA12
import Derived.Test.YtndobphgeiamhaaGreatDoorA13
import Derived.Test.YtndobphgeiamhaaGreatDoorA14
import Derived.Test.YtndobphgeiamhaaGreatDoorA15
import Derived.Test.YtndobphgeiamhaaGreatDoorA16
import Derived.Test.YtndobphgeiamhaaGreatDoorA17
import Derived.Below
import Derived.Deep.Draws
import Derived.Deep.AppendLies
import Derived.Maps.AppendAt
import Derived.OwnWalk
import Derived.Laws.BytesArg
import Derived.Laws.MakeOwn
import Derived.Laws.OwnMore
import Derived.Deep.OwnRows
import Derived.Tactics
import Derived.Lib.ConvBytes
import Derived.Laws.Slices
import Derived.WalkKit
import Derived.KernelRfl
import Derived.RowKit3
import Derived.Deep.LoopGhost
import Derived.Deep.QuietTactic
import Derived.BigQuiet
import Derived.WideLaws
import Derived.Deep.DeepCutAuto
import Derived.Deep.CutBlock
import Derived.Deep.RegionHeld3
import Derived.Laws.Rows
import Derived.Lib.AppendStr
import Derived.ArgAppend
import Derived.Laws.IdiomCopy
import Derived.RowKit
import Derived.OrdersHeld
import Derived.Laws.BitsLemmas
import Derived.Lib.Strings
import Derived.Lib.SmallJoins
import Derived.Lib.LaidTab
import Derived.Lib.ItoaNum
import Derived.SizedLaws
import Derived.Handed
import Derived.LaidMore
import Derived.Stop.Joined
import Derived.Lib.Slices
import Derived.Lib.Walk
import Derived.Lib.Builder
import Derived.Lib.UnsafeStr
import Derived.Lib.MakeNoZero
import Derived.Laws.Externs
import Derived.Shelf.RegionOpenPlain
import Derived.Lib.Split
import Derived.Lib.Replace
import Derived.Lib.ReplaceLaws
import Derived.Lib.IndexLaws
import Derived.Lib.IndexMore
import Derived.Lib.CountLaws
import Derived.Shelf.Strings.Builder1
import Derived.Shelf.Strings.Builder2
import Derived.Shelf.Strings.OnBuilder
import Derived.Shelf.Small.Utf8
import Derived.Shelf.Small.Strs
import Derived.Shelf.Strconv.Itoa0
import Derived.Shelf.Strconv.Itoa1
import Derived.Shelf.LaysM
import Derived.Shelf.Strconv.Itoa2
import Derived.Shelf.Strconv.Itoa3
import Derived.Shelf.Strings.Search1
import Derived.Shelf.Strings.Search2
import Derived.Shelf.Strings.Search3
import Derived.Shelf.Strings.Cut
import Derived.Shelf.Strings.Count
import Derived.Shelf.Strings.Shaped
import Derived.Shelf.Strings.LastIndex
import Derived.Shelf.Strings.Prefix
import Derived.Shelf.Strings.Split
import Derived.Shelf.Strings.Replace
import Derived.Shelf.Strings.Runes
import Derived.Shelf.Strings.IndexAny
import Derived.Shelf.Strings.AsciiSet
import Derived.Shelf.Strings.IndexAnyAll
import Derived.Shelf.Unicode.DecodeSlow
import Derived.Shelf.Slices.Turned
import Derived.Ground.Names2Prog
import Derived.Shelf.Slices.Clone
import Derived.Lib.SplitLaws
import Derived.Lib.Hide
import Derived.Laws.AppendOwn
import Derived.Outline
import Derived.Sort.Grow
import Derived.Laws.StructEq
import Derived.StillTailTactics
import Derived.Deep.RegionWith
import Derived.Lib.Bytealg
import Derived.WalkSmall
import Derived.Lib.IndexAny
import Derived.Lib.LastIndexByte
import Derived.Laws.RangeString
import Derived.Laws.Strings3
import Derived.WalkMore
import Derived.Deep.Strs
import Derived.SliceStrings
import Derived.ChangeArms
import Derived.OpenShut
set_option linter.unusedVariables false
set_option linter.unusedSimpArgs false
namespace Go.Proofs.YtndobphgeiamhaaGreatDoor.Pure
open Go.RowKit Go.Proofs.YtndobphgeiamhaaGreatDoor.H Go.Proofs.YtndobphgeiamhaaGreatDoor.Lh Go.Proofs.YtndobphgeiamhaaGreatDoor.Lp Go.Proofs.YtndobphgeiamhaaGreatDoorW.PrintWords Go.Proofs.YtndobphgeiamhaaGreatDoorW.PrintLast Go.Proofs.YtndobphgeiamhaaGreatDoor.Base

theorem hostOk_eq (n0 n2 : Int) (l : Bs) (hl : l.length ≤ 1048576) : ∃ b : Bool, Ev (fun k => spec_HostOk.f k n0 (B l) n2) b ∧ Ev (fun k => impl_HostOk.f k n0 (B l) n2) b ∧ (b = true → n0 = 2 → 0 ≤ n2 ∧ n2 ≤ 4294967295) ∧ (b = true → n0 = 1 → plain l = true) := by
  obtain ⟨h1, h2⟩ := hostOk_val n0 n2 l hl
  refine ⟨_, h1, h2, ?_, ?_⟩
  · intro e e2; unfold hostOkV at e; rw [e2] at e; simp at e; omega
  · intro e e2; unfold hostOkV at e; rw [e2] at e; simp at e; exact e.2

theorem hostPut_eq (n0 n2 : Int) (l : Bs) (hl : l.length ≤ 1048576) : ∃ r : ByteArray, Ev (fun k => spec_HostPut.f k n0 (B l) n2) r ∧ Ev (fun k => impl_HostPut.f k n0 (B l) n2) r := by
  obtain ⟨b, h1, h2, hr, _⟩ := hostOk_eq n0 n2 l hl
  unfold spec_HostPut.f impl_HostPut.f
  cases b with
  | false =>
    refine ⟨⟨#[]⟩, ev_bind h1 ?_, ev_bind h2 ?_⟩
    · simp only [Bool.false_eq_true, if_false]; exact Ev.now _
    · simp only [Bool.false_eq_true, if_false]
      refine Ev.step (fun k => by rw [impl_HostPut.j0]) ?_
      simp only [if_true]
      refine ev_bind h2 ?_
      simp only [Bool.false_eq_true, if_false]
      exact Ev.now _
  | true =>
    by_cases c : n0 = 2
    · obtain ⟨a0, a1⟩ := hr rfl c
      obtain ⟨a, rfl⟩ := Int.eq_ofNat_of_zero_le a0
      have hb : (n0 != 2) = false := by simp [c]
      refine ⟨B (fourB a), ev_bind h1 ?_, ev_bind h2 ?_⟩
      · simp only [if_true, if_pos c]
        refine ev_bind (spec_Four4 a (by omega)) ?_
        exact Ev.now _
      · simp only [if_true, hb]
        refine Ev.step (fun k => by rw [impl_HostPut.j0]) ?_
        simp only [Bool.false_eq_true, if_false]
        exact impl_Put4 n0 (B l) a (by omega)
    · have hb : (n0 != 2) = true := by simp [c]
      refine ⟨B l, ev_bind h1 ?_, ev_bind h2 ?_⟩
      · simp only [if_true, if_neg c]
        exact Ev.now _
      · simp only [if_true, hb]
        refine Ev.step (fun k => by rw [impl_HostPut.j0]) ?_
        simp only [if_true]
        refine ev_bind h2 ?_
        simp only [if_true]
        exact Ev.now _

end Go.Proofs.YtndobphgeiamhaaGreatDoor.Pure
set_option linter.unusedVariables false
set_option linter.unusedSimpArgs false
namespace Go.Proofs.YtndobphgeiamhaaGreatDoor.Pure
open Go.RowKit Go.Proofs.YtndobphgeiamhaaGreatDoor.H Go.Proofs.YtndobphgeiamhaaGreatDoor.Lh Go.Proofs.YtndobphgeiamhaaGreatDoor.Lp Go.Proofs.YtndobphgeiamhaaGreatDoorW.PrintWords Go.Proofs.YtndobphgeiamhaaGreatDoorW.PrintLast Go.Proofs.YtndobphgeiamhaaGreatDoor.Base

def siteB (l : Bs) : Bs := joinB [46] ((parts l).drop ((parts l).length - 2))
theorem joinB_le (sep : Bs) (hs : sep.length = 1) (P : List Bs) (n m : Nat) (h1 : P.length ≤ n) (h2 : ∀ x ∈ P, x.length ≤ m) : (joinB sep P).length ≤ n * m + n := by
  rw [joinB_len, hs]
  have : (P.map List.length).sum ≤ P.length * m := by
    induction P with
    | nil => simp
    | cons a t ih =>
      have ha := h2 a (by simp)
      have := ih (by simp at h1; omega) (fun x hx => h2 x (by simp [hx]))
      simp only [List.map_cons, List.sum_cons, List.length_cons]
      rw [Nat.add_mul]; omega
  have h3 : P.length * m ≤ n * m := Nat.mul_le_mul_right _ h1
  omega
theorem spec_Site (l : Bs) (hl : l.length ≤ 1048576) : Ev (fun k => (spec_l2Parts.f k (B l)).bind fun t => (if (t.length : Int) < 2 then (if 0 < (t.length : Int) then (some (rdOf ByteArray.empty t 0)) else (none)) else (if 0 ≤ (wrap64 ((t.length : Int) - 2)) then (if (wrap64 ((t.length : Int) - 2)) < (t.length : Int) then (if (rdOf ByteArray.empty t (wrap64 ((t.length : Int) - 2))).size + 1 ≤ 9223372036854775807 then (if 0 ≤ (wrap64 ((t.length : Int) - 1)) then (if (wrap64 ((t.length : Int) - 1)) < (t.length : Int) then (if ((rdOf ByteArray.empty t (wrap64 ((t.length : Int) - 2))) ++ (⟨#[46]⟩ : ByteArray)).size + (rdOf ByteArray.empty t (wrap64 ((t.length : Int) - 1))).size ≤ 9223372036854775807 then (some (((rdOf ByteArray.empty t (wrap64 ((t.length : Int) - 2))) ++ (⟨#[46]⟩ : ByteArray)) ++ (rdOf ByteArray.empty t (wrap64 ((t.length : Int) - 1))))) else (none)) else (none)) else (none)) else (none)) else (none)) else (none)))) (B (siteB l)) := by
  refine ev_bind (spec_Parts l (by omega)) ?_
  have hne := parts_ne l
  have hlen := parts_len l
  have hmem := parts_mem_len l
  unfold siteB
  generalize parts l = P at hne hlen hmem ⊢
  have hp : 0 < P.length := List.length_pos_iff.2 hne
  simp only [List.length_map]
  by_cases c : P.length < 2
  · match P, hp, c with
    | [x], _, _ =>
      simp only [if_pos (show (([x] : List Bs).length : Int) < 2 by simp), if_pos (show 0 < (([x] : List Bs).length : Int) by simp)]
      exact Ev.now _
  · have w2 : wrap64 ((P.length : Int) - 2) = ((P.length - 2 : Nat) : Int) := by rw [w64 (by omega) (by omega)]; omega
    have w1 : wrap64 ((P.length : Int) - 1) = ((P.length - 1 : Nat) : Int) := by rw [w64 (by omega) (by omega)]; omega
    have r2 := rd_parts P (P.length - 2) (by omega)
    have r1 := rd_parts P (P.length - 1) (by omega)
    have m2 := hmem _ (List.getElem_mem (show P.length - 2 < P.length by omega))
    have m1 := hmem _ (List.getElem_mem (show P.length - 1 < P.length by omega))
    have k46 : (⟨#[46]⟩ : ByteArray) = B [46] := rfl
    simp only [if_neg (show ¬ (P.length : Int) < 2 by omega), w2, w1, r2, r1, k46, B_append, B_size, List.length_append, List.length_singleton]
    simp only [if_pos (show (0 : Int) ≤ ((P.length - 2 : Nat) : Int) by omega), if_pos (show ((P.length - 2 : Nat) : Int) < (P.length : Int) by omega), if_pos (show (0 : Int) ≤ ((P.length - 1 : Nat) : Int) by omega), if_pos (show ((P.length - 1 : Nat) : Int) < (P.length : Int) by omega)]
    simp only [if_pos (show P[P.length - 2].length + 1 ≤ 9223372036854775807 by omega), if_pos (show P[P.length - 2].length + 1 + P[P.length - 1].length ≤ 9223372036854775807 by omega)]
    have e : P.drop (P.length - 2) = [P[P.length - 2], P[P.length - 1]] := by
      rw [List.drop_eq_getElem_cons (by omega)]
      have : P.length - 2 + 1 = P.length - 1 := by omega
      simp only [this]
      rw [List.drop_eq_getElem_cons (by omega), List.drop_eq_nil_of_le (by omega)]
    rw [e]
    have : joinB [46] [P[P.length - 2], P[P.length - 1]] = P[P.length - 2] ++ [46] ++ P[P.length - 1] := by simp [joinB]
    rw [this]
    exact Ev.now _
theorem impl_Site (l : Bs) (hl : l.length ≤ 1048576) : ((impl_labels.f (B l)).bind fun t => (if 0 ≤ (mx 0 (wrap64 ((t.length : Int) - 2))) then (if (mx 0 (wrap64 ((t.length : Int) - 2))) ≤ (t.length : Int) then ((strings_Join.f (t.drop ((mx 0 (wrap64 ((t.length : Int) - 2))) : Int).toNat) (⟨#[46]⟩ : ByteArray)).bind fun t217 => (some t217)) else (none)) else (none))) = some (B (siteB l)) := by
  rw [impl_Labels l (by omega), Option.bind_some, List.length_map]
  have hlen := parts_len l
  have hmem := parts_mem_len l
  unfold siteB
  generalize parts l = P at hlen hmem ⊢
  have e : mx 0 (wrap64 ((P.length : Int) - 2)) = ((P.length - 2 : Nat) : Int) := by
    rw [w64 (by omega) (by omega)]; unfold mx; split <;> omega
  rw [e, if_pos (by omega), if_pos (by omega), Int.toNat_natCast]
  have k46 : (⟨#[46]⟩ : ByteArray) = B [46] := rfl
  have hb : bss ((P.map B).drop (P.length - 2)) = P.drop (P.length - 2) := by
    rw [← List.map_drop]; unfold bss; rw [List.map_map]
    conv => rhs; rw [← List.map_id (P.drop (P.length - 2))]
    exact List.map_congr_left fun x _ => B_data x
  have hj := joinB_le [46] rfl (P.drop (P.length - 2)) 2 1048576 (by simp; omega) (fun x hx => by have := hmem x (List.mem_of_mem_drop hx); omega)
  have hf : strings_Join.f ((P.map B).drop (P.length - 2)) (B [46]) = some (B (joinB [46] (P.drop (P.length - 2)))) := by
    unfold strings_Join.f
    rw [B_data, hb, if_pos ⟨by simp, by simp; omega, by omega⟩]
  rw [k46, hf]; rfl
theorem hostSite_eq (n0 n2 : Int) (l : Bs) (hl : l.length ≤ 1048576) : ∃ r : ByteArray, Ev (fun k => spec_HostSite.f k n0 (B l) n2) r ∧ Ev (fun k => impl_HostSite.f k n0 (B l) n2) r := by
  obtain ⟨b, h1, h2, _, _⟩ := hostOk_eq n0 n2 l hl
  obtain ⟨r, p1, p2⟩ := hostPut_eq n0 n2 l hl
  unfold spec_HostSite.f impl_HostSite.f
  cases b with
  | false =>
    have hr : r = (⟨#[]⟩ : ByteArray) := by
      obtain ⟨K1, e1⟩ := p1
      obtain ⟨K2, e2⟩ := h1
      have a1 : spec_HostPut.f (max K1 K2) n0 (B l) n2 = some r := e1 (max K1 K2) (Nat.le_max_left _ _)
      have a2 : spec_HostOk.f (max K1 K2) n0 (B l) n2 = some false := e2 (max K1 K2) (Nat.le_max_right _ _)
      unfold spec_HostPut.f at a1
      rw [a2] at a1
      simp only [Option.bind_some, Bool.false_eq_true, if_false, Option.some.injEq] at a1
      exact a1.symm
    subst hr
    refine ⟨⟨#[]⟩, ev_bind h1 ?_, ev_bind h2 ?_⟩
    · simp only [Bool.false_eq_true, if_false]; exact Ev.now _
    · simp only [Bool.false_eq_true, if_false]
      refine Ev.step (fun k => by rw [impl_HostSite.j0]) ?_
      simp only [if_true]
      refine ev_bind p2 ?_
      exact Ev.now _
  | true =>
    by_cases c : n0 = 1
    · have hb : (n0 != 1) = false := by simp [c]
      refine ⟨B (siteB l), ev_bind h1 ?_, ev_bind h2 ?_⟩
      · simp only [if_true, if_pos c]
        exact spec_Site l hl
      · simp only [if_true, hb]
        refine Ev.step (fun k => by rw [impl_HostSite.j0]) ?_
        simp only [Bool.false_eq_true, if_false]
        exact ev_of fun k => impl_Site l hl
    · have hb : (n0 != 1) = true := by simp [c]
      refine ⟨r, ev_bind h1 ?_, ev_bind h2 ?_⟩
      · simp only [if_true, if_neg c]
        refine ev_bind p1 ?_
        exact Ev.now _
      · simp only [if_true, hb]
        refine Ev.step (fun k => by rw [impl_HostSite.j0]) ?_
        simp only [if_true]
        refine ev_bind p2 ?_
        exact Ev.now _

structure SiteOf (n0 : Int) (l : Bs) (n2 : Int) (s : Bs) : Prop where
  sp : ∀ w : World, Calls Tryz.prog 39 #[.agg #[.int .i64 n0, .string (B l), .int .i64 n2]] w fun e w' => e = .returned (.string (B s)) ∧ Below w.heap.size w w'
  im : ∀ w : World, TabMI w → Calls Tryz.prog 41 #[.agg #[.int .i64 n0, .string (B l), .int .i64 n2]] w fun e w' => e = .returned (.string (B s)) ∧ Below w.heap.size w w'
theorem site_ex (n0 n2 : Int) (l : Bs) (hl : l.length ≤ 1048576) : ∃ s, SiteOf n0 l n2 s := by
  obtain ⟨r, h1, h2⟩ := hostSite_eq n0 n2 l hl
  obtain ⟨k1, e1⟩ := h1.rounds
  obtain ⟨k2, e2⟩ := h2.rounds
  obtain ⟨s, rfl⟩ := exB r
  exact ⟨s, ⟨fun w => spec_HostSite.calls k1 _ _ _ _ w e1, fun w hT => impl_HostSite.calls k2 _ _ _ _ w hT e2⟩⟩

end Go.Proofs.YtndobphgeiamhaaGreatDoor.Pure
set_option linter.unusedVariables false
namespace Go.Proofs.YtndobphgeiamhaaGreatDoor.H
open Go.RowKit Go.Proofs.YtndobphgeiamhaaGreatDoorW.PrintWords
theorem wp_region_below {P : Program} {id : Nat} {Q : Exit → Act → World → Prop} {a : Act} {w : World} {l : List Oper} (hm : P.follows .mixedOrders = true) (hB : Region.lexB .any l.toArray = true)
    (h : wpQuiet P l.toArray (fun w' => Below w.heap.size w w') (fun a' => ∀ w', Below w.heap.size w w' → Q .normal a' w') l a) : (Code.region id l.toArray true).wp P Q a w :=
  wp_region_quiet (C := fun w' => Below w.heap.size w w') hm hB (below_drew (Below.refl _ _)) (by simpa using h)
end Go.Proofs.YtndobphgeiamhaaGreatDoor.H
set_option linter.unusedVariables false
namespace Go.Proofs.YtndobphgeiamhaaGreatDoor.H
open Go.RowKit Go.Proofs.YtndobphgeiamhaaGreatDoorW.PrintWords Go.Proofs.YtndobphgeiamhaaGreatDoor.Base Go.Proofs.YtndobphgeiamhaaGreatDoor.Pure
def siteSameV (a b : Ur) (s t : Bs) : Bool := okU a && (okU b && (decide (0 ≤ ownP a.sch) && (a.sch == b.sch && s == t)))
theorem site_host (a b : Ur) (s t : Bs) : siteSameV a b s t = (hostedV a b && (a.sch == b.sch && s == t)) := by
  unfold siteSameV hostedV
  cases ha : okU a with
  | false => rfl
  | true =>
    cases hb : okU b with
    | false => rfl
    | true =>
      have h := ok_kind a ha
      simp only [Bool.true_and]
      congr 1
      by_cases q : a.hk = 0
      · rw [decide_eq_false (by have := h.1 q; omega), q]; rfl
      · rw [decide_eq_true (by omega)]; exact (bne_iff_ne.mpr q).symm
set_option maxHeartbeats 4000000 in
set_option maxRecDepth 100000 in
theorem implSiteSame_walk (a b : Ur) (s t : Bs) (pv qv : Value) (w : World) (ha : FitP a) (hb : FitP b) (hs : SiteOf a.hk a.hn a.ha s) (ht : SiteOf b.hk b.hn b.ha t) (hA : PathAt w pv a.path) (hB : PathAt w qv b.path) (hT : Tabs w) :
    Calls Tryz.prog 16 #[.agg (uCells a pv), .agg (uCells b qv)] w fun e w' => e = .returned (.bool (siteSameV a b s t)) ∧ Below w.heap.size w w' := by
  have HH := Lib.hid fun w1 (k : Below w.heap.size w w1) => hosted_walk a b pv qv w1 ha hb (hA.below k) (hB.below k) (hT.below k)
  have HA := Lib.hid fun w1 (k : Below w.heap.size w w1) => hs.im w1 ⟨(hT.below k).m, (hT.below k).i⟩
  have HB := Lib.hid fun w1 (k : Below w.heap.size w w1) => ht.im w1 ⟨(hT.below k).m, (hT.below k).i⟩
  obtain ⟨K1, K2, hW⟩ := two_objs w (.cells (uCells a pv) 33) (.cells (uCells b qv) 33)
  rw [site_host a b]
  generalize hostedV a b = z at HH ⊢
  obtain ⟨p, HPP⟩ : ∃ p, Hid ((a.sch == b.sch) = p) := ⟨_, Lib.hid rfl⟩
  obtain ⟨q, HQQ⟩ : ∃ q, Hid ((s == t) = q) := ⟨_, Lib.hid rfl⟩
  rw [HPP.out, HQQ.out]
  clear ha hb hA hB hT hs ht
  unfold uCells at *
  have HW := Lib.hid hW
  clear hW
  go_enter Tryz.func16, Tryz.ntmps16
  go_upto_region 1 with fail
  generalize (w.alloc _).alloc _ = w1 at K1 K2 HW ⊢
  generalize w.heap.size + 1 = g at K2 ⊢
  cases z with
  | false =>
    refine wp_region_below (by kernel_rfl) (by kernel_rfl) ?_
    repeat (with_reducible refine wpQuiet_step (fun K hK => ?_); go_simp; first | (refine hK _ ?_; clear hK K) | (refine ⟨_, fun _ _ => rfl, hK _ ?_⟩; clear hK K) | (apply Exists.intro; refine ⟨fun wq hq => ?_, hK _ ?_⟩; (first | (go_at_call 40; with_reducible refine ((HH.out _ (below_then HW.out HW.out.size hq))).mono ?_; rintro e w3 ⟨rfl, hb3⟩; exact ⟨rfl, below_then hq hq.size hb3⟩) | (go_at_call 41; with_reducible refine ((HA.out _ (below_then HW.out HW.out.size hq))).mono ?_; rintro e w3 ⟨rfl, hb3⟩; exact ⟨rfl, below_then hq hq.size hb3⟩) | (go_at_call 41; with_reducible refine ((HB.out _ (below_then HW.out HW.out.size hq))).mono ?_; rintro e w3 ⟨rfl, hb3⟩; exact ⟨rfl, below_then hq hq.size hb3⟩) | (have kk1 := cells13 (blk_below K1 hq); have kk2 := cells13 (blk_below K2 hq); go_simp; with_reducible rfl)); clear hK K))
    refine wpQuiet_nil ?_
    intro w2 hb2
    go_wp2
    go_ret
    exact ⟨rfl, below_then HW.out HW.out.size hb2⟩
  | true =>
    have hpp := HPP.out
    cases p with
    | false =>
      refine wp_region_below (by kernel_rfl) (by kernel_rfl) ?_
      repeat (with_reducible refine wpQuiet_step (fun K hK => ?_); go_simp; first | (refine hK _ ?_; clear hK K) | (refine ⟨_, fun _ _ => rfl, hK _ ?_⟩; clear hK K) | (apply Exists.intro; refine ⟨fun wq hq => ?_, hK _ ?_⟩; (first | (go_at_call 40; with_reducible refine ((HH.out _ (below_then HW.out HW.out.size hq))).mono ?_; rintro e w3 ⟨rfl, hb3⟩; exact ⟨rfl, below_then hq hq.size hb3⟩) | (go_at_call 41; with_reducible refine ((HA.out _ (below_then HW.out HW.out.size hq))).mono ?_; rintro e w3 ⟨rfl, hb3⟩; exact ⟨rfl, below_then hq hq.size hb3⟩) | (go_at_call 41; with_reducible refine ((HB.out _ (below_then HW.out HW.out.size hq))).mono ?_; rintro e w3 ⟨rfl, hb3⟩; exact ⟨rfl, below_then hq hq.size hb3⟩) | (have kk1 := cells13 (blk_below K1 hq); have kk2 := cells13 (blk_below K2 hq); go_simp; with_reducible rfl)); clear hK K))
      refine wpQuiet_nil ?_
      intro w2 hb2
      go_wp2
      go_ret
      exact ⟨rfl, below_then HW.out HW.out.size hb2⟩
    | true =>
      have hqq := HQQ.out
      cases q with
      | false =>
        refine wp_region_below (by kernel_rfl) (by kernel_rfl) ?_
        repeat (with_reducible refine wpQuiet_step (fun K hK => ?_); go_simp; first | (refine hK _ ?_; clear hK K) | (refine ⟨_, fun _ _ => rfl, hK _ ?_⟩; clear hK K) | (apply Exists.intro; refine ⟨fun wq hq => ?_, hK _ ?_⟩; (first | (go_at_call 40; with_reducible refine ((HH.out _ (below_then HW.out HW.out.size hq))).mono ?_; rintro e w3 ⟨rfl, hb3⟩; exact ⟨rfl, below_then hq hq.size hb3⟩) | (go_at_call 41; with_reducible refine ((HA.out _ (below_then HW.out HW.out.size hq))).mono ?_; rintro e w3 ⟨rfl, hb3⟩; exact ⟨rfl, below_then hq hq.size hb3⟩) | (go_at_call 41; with_reducible refine ((HB.out _ (below_then HW.out HW.out.size hq))).mono ?_; rintro e w3 ⟨rfl, hb3⟩; exact ⟨rfl, below_then hq hq.size hb3⟩) | (have kk1 := cells13 (blk_below K1 hq); have kk2 := cells13 (blk_below K2 hq); go_simp; with_reducible rfl)); clear hK K))
        refine wpQuiet_nil ?_
        intro w2 hb2
        go_wp2
        go_ret
        exact ⟨rfl, below_then HW.out HW.out.size hb2⟩
      | true =>
        refine wp_region_below (by kernel_rfl) (by kernel_rfl) ?_
        repeat (with_reducible refine wpQuiet_step (fun K hK => ?_); go_simp; first | (refine hK _ ?_; clear hK K) | (refine ⟨_, fun _ _ => rfl, hK _ ?_⟩; clear hK K) | (apply Exists.intro; refine ⟨fun wq hq => ?_, hK _ ?_⟩; (first | (go_at_call 40; with_reducible refine ((HH.out _ (below_then HW.out HW.out.size hq))).mono ?_; rintro e w3 ⟨rfl, hb3⟩; exact ⟨rfl, below_then hq hq.size hb3⟩) | (go_at_call 41; with_reducible refine ((HA.out _ (below_then HW.out HW.out.size hq))).mono ?_; rintro e w3 ⟨rfl, hb3⟩; exact ⟨rfl, below_then hq hq.size hb3⟩) | (go_at_call 41; with_reducible refine ((HB.out _ (below_then HW.out HW.out.size hq))).mono ?_; rintro e w3 ⟨rfl, hb3⟩; exact ⟨rfl, below_then hq hq.size hb3⟩) | (have kk1 := cells13 (blk_below K1 hq); have kk2 := cells13 (blk_below K2 hq); go_simp; with_reducible rfl)); clear hK K))
        refine wpQuiet_nil ?_
        intro w2 hb2
        go_wp2
        go_ret
        exact ⟨rfl, below_then HW.out HW.out.size hb2⟩
set_option maxHeartbeats 4000000 in
set_option maxRecDepth 100000 in
theorem specSiteSame_walk (a b : Ur) (s t : Bs) (pv qv : Value) (w : World) (ha : FitP a) (hb : FitP b) (hs : SiteOf a.hk a.hn a.ha s) (ht : SiteOf b.hk b.hn b.ha t) (hA : PathAt w pv a.path) (hB : PathAt w qv b.path) :
    Calls Tryz.prog 15 #[.agg (uCells a pv), .agg (uCells b qv)] w fun e w' => e = .returned (.bool (siteSameV a b s t)) ∧ Below w.heap.size w w' := by
  have HP := Lib.hid fun w1 (k : Below w.heap.size w w1) => specUrlOk_walk a pv w1 ha (hA.below k)
  have HQ := Lib.hid fun w1 (k : Below w.heap.size w w1) => specUrlOk_walk b qv w1 hb (hB.below k)
  have HO := Lib.hid fun w1 => (specOwn_walk a.sch w1).mono fun e w' h => (⟨h.1, h.2 ▸ Below.refl _ _⟩ : e = .returned (.int .i64 (ownP a.sch)) ∧ Below w1.heap.size w1 w')
  have HA := Lib.hid fun w1 => hs.sp w1
  have HB := Lib.hid fun w1 => ht.sp w1
  obtain ⟨K1, K2, hW⟩ := two_objs w (.cells (uCells a pv) 33) (.cells (uCells b qv) 33)
  unfold siteSameV
  generalize okU a = x at HP ⊢
  generalize okU b = y at HQ ⊢
  generalize ownP a.sch = n at HO ⊢
  obtain ⟨d, HD⟩ : ∃ d, Hid (decide (0 ≤ n) = d) := ⟨_, Lib.hid rfl⟩
  obtain ⟨p, HPP⟩ : ∃ p, Hid ((a.sch == b.sch) = p) := ⟨_, Lib.hid rfl⟩
  obtain ⟨q, HQQ⟩ : ∃ q, Hid ((s == t) = q) := ⟨_, Lib.hid rfl⟩
  rw [HD.out, HPP.out, HQQ.out]
  clear ha hb hA hB hs ht
  unfold uCells at *
  have HW := Lib.hid hW
  clear hW
  go_enter Tryz.func15, Tryz.ntmps15
  go_upto_region 1 with fail
  generalize (w.alloc _).alloc _ = w1 at K1 K2 HW ⊢
  generalize w.heap.size + 1 = g at K2 ⊢
  cases x with
  | false =>
    refine wp_region_below (by kernel_rfl) (by kernel_rfl) ?_
    repeat (with_reducible refine wpQuiet_step (fun K hK => ?_); go_simp; first | (refine hK _ ?_; clear hK K) | (refine ⟨_, fun _ _ => rfl, hK _ ?_⟩; clear hK K) | (apply Exists.intro; refine ⟨fun wq hq => ?_, hK _ ?_⟩; (first | (go_at_call 30; with_reducible refine ((HP.out _ (below_then HW.out HW.out.size hq))).mono ?_; rintro e w3 ⟨rfl, hb3⟩; exact ⟨rfl, below_then hq hq.size hb3⟩) | (go_at_call 30; with_reducible refine ((HQ.out _ (below_then HW.out HW.out.size hq))).mono ?_; rintro e w3 ⟨rfl, hb3⟩; exact ⟨rfl, below_then hq hq.size hb3⟩) | (go_at_call 38; with_reducible refine ((HO.out _)).mono ?_; rintro e w3 ⟨rfl, hb3⟩; exact ⟨rfl, below_then hq hq.size hb3⟩) | (go_at_call 39; with_reducible refine ((HA.out _)).mono ?_; rintro e w3 ⟨rfl, hb3⟩; exact ⟨rfl, below_then hq hq.size hb3⟩) | (go_at_call 39; with_reducible refine ((HB.out _)).mono ?_; rintro e w3 ⟨rfl, hb3⟩; exact ⟨rfl, below_then hq hq.size hb3⟩) | (have kk1 := cells13 (blk_below K1 hq); have kk2 := cells13 (blk_below K2 hq); go_simp; with_reducible rfl)); clear hK K))
    refine wpQuiet_nil ?_
    intro w2 hb2
    go_wp2
    go_ret
    exact ⟨rfl, below_then HW.out HW.out.size hb2⟩
  | true =>
    cases y with
    | false =>
      refine wp_region_below (by kernel_rfl) (by kernel_rfl) ?_
      repeat (with_reducible refine wpQuiet_step (fun K hK => ?_); go_simp; first | (refine hK _ ?_; clear hK K) | (refine ⟨_, fun _ _ => rfl, hK _ ?_⟩; clear hK K) | (apply Exists.intro; refine ⟨fun wq hq => ?_, hK _ ?_⟩; (first | (go_at_call 30; with_reducible refine ((HP.out _ (below_then HW.out HW.out.size hq))).mono ?_; rintro e w3 ⟨rfl, hb3⟩; exact ⟨rfl, below_then hq hq.size hb3⟩) | (go_at_call 30; with_reducible refine ((HQ.out _ (below_then HW.out HW.out.size hq))).mono ?_; rintro e w3 ⟨rfl, hb3⟩; exact ⟨rfl, below_then hq hq.size hb3⟩) | (go_at_call 38; with_reducible refine ((HO.out _)).mono ?_; rintro e w3 ⟨rfl, hb3⟩; exact ⟨rfl, below_then hq hq.size hb3⟩) | (go_at_call 39; with_reducible refine ((HA.out _)).mono ?_; rintro e w3 ⟨rfl, hb3⟩; exact ⟨rfl, below_then hq hq.size hb3⟩) | (go_at_call 39; with_reducible refine ((HB.out _)).mono ?_; rintro e w3 ⟨rfl, hb3⟩; exact ⟨rfl, below_then hq hq.size hb3⟩) | (have kk1 := cells13 (blk_below K1 hq); have kk2 := cells13 (blk_below K2 hq); go_simp; with_reducible rfl)); clear hK K))
      refine wpQuiet_nil ?_
      intro w2 hb2
      go_wp2
      go_ret
      exact ⟨rfl, below_then HW.out HW.out.size hb2⟩
    | true =>
      have hd := HD.out
      cases d with
      | false =>
        refine wp_region_below (by kernel_rfl) (by kernel_rfl) ?_
        repeat (with_reducible refine wpQuiet_step (fun K hK => ?_); go_simp; first | (refine hK _ ?_; clear hK K) | (refine ⟨_, fun _ _ => rfl, hK _ ?_⟩; clear hK K) | (apply Exists.intro; refine ⟨fun wq hq => ?_, hK _ ?_⟩; (first | (go_at_call 30; with_reducible refine ((HP.out _ (below_then HW.out HW.out.size hq))).mono ?_; rintro e w3 ⟨rfl, hb3⟩; exact ⟨rfl, below_then hq hq.size hb3⟩) | (go_at_call 30; with_reducible refine ((HQ.out _ (below_then HW.out HW.out.size hq))).mono ?_; rintro e w3 ⟨rfl, hb3⟩; exact ⟨rfl, below_then hq hq.size hb3⟩) | (go_at_call 38; with_reducible refine ((HO.out _)).mono ?_; rintro e w3 ⟨rfl, hb3⟩; exact ⟨rfl, below_then hq hq.size hb3⟩) | (go_at_call 39; with_reducible refine ((HA.out _)).mono ?_; rintro e w3 ⟨rfl, hb3⟩; exact ⟨rfl, below_then hq hq.size hb3⟩) | (go_at_call 39; with_reducible refine ((HB.out _)).mono ?_; rintro e w3 ⟨rfl, hb3⟩; exact ⟨rfl, below_then hq hq.size hb3⟩) | (have kk1 := cells13 (blk_below K1 hq); have kk2 := cells13 (blk_below K2 hq); go_simp; with_reducible rfl)); clear hK K))
        refine wpQuiet_nil ?_
        intro w2 hb2
        go_wp2
        go_ret
        exact ⟨rfl, below_then HW.out HW.out.size hb2⟩
      | true =>
        have hpp := HPP.out
        cases p with
        | false =>
          refine wp_region_below (by kernel_rfl) (by kernel_rfl) ?_
          repeat (with_reducible refine wpQuiet_step (fun K hK => ?_); go_simp; first | (refine hK _ ?_; clear hK K) | (refine ⟨_, fun _ _ => rfl, hK _ ?_⟩; clear hK K) | (apply Exists.intro; refine ⟨fun wq hq => ?_, hK _ ?_⟩; (first | (go_at_call 30; with_reducible refine ((HP.out _ (below_then HW.out HW.out.size hq))).mono ?_; rintro e w3 ⟨rfl, hb3⟩; exact ⟨rfl, below_then hq hq.size hb3⟩) | (go_at_call 30; with_reducible refine ((HQ.out _ (below_then HW.out HW.out.size hq))).mono ?_; rintro e w3 ⟨rfl, hb3⟩; exact ⟨rfl, below_then hq hq.size hb3⟩) | (go_at_call 38; with_reducible refine ((HO.out _)).mono ?_; rintro e w3 ⟨rfl, hb3⟩; exact ⟨rfl, below_then hq hq.size hb3⟩) | (go_at_call 39; with_reducible refine ((HA.out _)).mono ?_; rintro e w3 ⟨rfl, hb3⟩; exact ⟨rfl, below_then hq hq.size hb3⟩) | (go_at_call 39; with_reducible refine ((HB.out _)).mono ?_; rintro e w3 ⟨rfl, hb3⟩; exact ⟨rfl, below_then hq hq.size hb3⟩) | (have kk1 := cells13 (blk_below K1 hq); have kk2 := cells13 (blk_below K2 hq); go_simp; with_reducible rfl)); clear hK K))
          refine wpQuiet_nil ?_
          intro w2 hb2
          go_wp2
          go_ret
          exact ⟨rfl, below_then HW.out HW.out.size hb2⟩
        | true =>
          have hqq := HQQ.out
          cases q with
          | false =>
            refine wp_region_below (by kernel_rfl) (by kernel_rfl) ?_
            repeat (with_reducible refine wpQuiet_step (fun K hK => ?_); go_simp; first | (refine hK _ ?_; clear hK K) | (refine ⟨_, fun _ _ => rfl, hK _ ?_⟩; clear hK K) | (apply Exists.intro; refine ⟨fun wq hq => ?_, hK _ ?_⟩; (first | (go_at_call 30; with_reducible refine ((HP.out _ (below_then HW.out HW.out.size hq))).mono ?_; rintro e w3 ⟨rfl, hb3⟩; exact ⟨rfl, below_then hq hq.size hb3⟩) | (go_at_call 30; with_reducible refine ((HQ.out _ (below_then HW.out HW.out.size hq))).mono ?_; rintro e w3 ⟨rfl, hb3⟩; exact ⟨rfl, below_then hq hq.size hb3⟩) | (go_at_call 38; with_reducible refine ((HO.out _)).mono ?_; rintro e w3 ⟨rfl, hb3⟩; exact ⟨rfl, below_then hq hq.size hb3⟩) | (go_at_call 39; with_reducible refine ((HA.out _)).mono ?_; rintro e w3 ⟨rfl, hb3⟩; exact ⟨rfl, below_then hq hq.size hb3⟩) | (go_at_call 39; with_reducible refine ((HB.out _)).mono ?_; rintro e w3 ⟨rfl, hb3⟩; exact ⟨rfl, below_then hq hq.size hb3⟩) | (have kk1 := cells13 (blk_below K1 hq); have kk2 := cells13 (blk_below K2 hq); go_simp; with_reducible rfl)); clear hK K))
            refine wpQuiet_nil ?_
            intro w2 hb2
            go_wp2
            go_ret
            exact ⟨rfl, below_then HW.out HW.out.size hb2⟩
          | true =>
            refine wp_region_below (by kernel_rfl) (by kernel_rfl) ?_
            repeat (with_reducible refine wpQuiet_step (fun K hK => ?_); go_simp; first | (refine hK _ ?_; clear hK K) | (refine ⟨_, fun _ _ => rfl, hK _ ?_⟩; clear hK K) | (apply Exists.intro; refine ⟨fun wq hq => ?_, hK _ ?_⟩; (first | (go_at_call 30; with_reducible refine ((HP.out _ (below_then HW.out HW.out.size hq))).mono ?_; rintro e w3 ⟨rfl, hb3⟩; exact ⟨rfl, below_then hq hq.size hb3⟩) | (go_at_call 30; with_reducible refine ((HQ.out _ (below_then HW.out HW.out.size hq))).mono ?_; rintro e w3 ⟨rfl, hb3⟩; exact ⟨rfl, below_then hq hq.size hb3⟩) | (go_at_call 38; with_reducible refine ((HO.out _)).mono ?_; rintro e w3 ⟨rfl, hb3⟩; exact ⟨rfl, below_then hq hq.size hb3⟩) | (go_at_call 39; with_reducible refine ((HA.out _)).mono ?_; rintro e w3 ⟨rfl, hb3⟩; exact ⟨rfl, below_then hq hq.size hb3⟩) | (go_at_call 39; with_reducible refine ((HB.out _)).mono ?_; rintro e w3 ⟨rfl, hb3⟩; exact ⟨rfl, below_then hq hq.size hb3⟩) | (have kk1 := cells13 (blk_below K1 hq); have kk2 := cells13 (blk_below K2 hq); go_simp; with_reducible rfl)); clear hK K))
            refine wpQuiet_nil ?_
            intro w2 hb2
            go_wp2
            go_ret
            exact ⟨rfl, below_then HW.out HW.out.size hb2⟩
end Go.Proofs.YtndobphgeiamhaaGreatDoor.H
set_option linter.unusedVariables false
namespace Go.Proofs.YtndobphgeiamhaaGreatDoor.H
open Go.RowKit Go.Proofs.YtndobphgeiamhaaGreatDoorW.PrintWords Go.Proofs.YtndobphgeiamhaaGreatDoor.Base Go.Proofs.YtndobphgeiamhaaGreatDoor.Pure
set_option maxHeartbeats 8000000 in
set_option maxRecDepth 100000 in
theorem FnExactSiteSame_walk (u : Ur) (pv : Value) (v : Ur) (qv : Value) (w : World) (hP : PathAt w pv u.path) (hu : WfU u) (hQ : PathAt w qv v.path) (hv : WfU v) (hT : Tabs w) :
    Calls Tryz.prog 4 #[.agg (uCells u pv), .agg (uCells v qv)] w fun e w' => e = .returned (.bool true) ∧ Below w.heap.size w w' := by
  have HZ1 := Lib.hid fun w1 (hb : Below w.heap.size w w1) => szUrl_walk u pv 1048576 w1 (hP.below hb) hu (by omega) (by omega)
  obtain ⟨K1, K2, HW⟩ := two_objs w (.cells (uCells u pv) 26) (.cells (uCells v qv) 26)
  have HW1 := Lib.hid HW
  clear HW
  by_cases hz : szU u ≤ 1048576
  · have hs : szV u 1048576 = 1048576 - (szU u : Int) := by unfold szV; rw [if_pos (by omega)]
    have hd : decide (1048576 - (szU u : Int) < 0) = false := decide_eq_false (by omega)
    have HZ2 := Lib.hid fun w1 (hb : Below w.heap.size w w1) => szUrl_walk v qv (1048576 - (szU u : Int)) w1 (hQ.below hb) hv (by omega) (by omega)
    rw [hs] at HZ1
    have HZV : Hid (szV v (1048576 - (szU u : Int)) = if (szU v : Int) ≤ 1048576 - (szU u : Int) then 1048576 - (szU u : Int) - (szU v : Int) else -1) := Lib.hid rfl
    have hux := Lib.hid (fit_of_sz u hu hz)
    have HZU := Lib.hid hz
    have hvx : szU v ≤ 1048576 → FitP v := fit_of_sz v hv
    have HVX := Lib.hid hvx
    clear hs hu hv hz hvx
    obtain ⟨m, hm⟩ : ∃ m, m = 1048576 - (szU u : Int) := ⟨_, rfl⟩
    rw [← hm] at HZ1 HZ2 HZV hd
    have HM := Lib.hid hm
    clear hm
    by_cases hy : (szU v : Int) ≤ m
    · have hs2 : szV v m = m - (szU v : Int) := by rw [HZV.out, if_pos hy]
      have hd2 : decide (m - (szU v : Int) < 0) = false := decide_eq_false (by omega)
      have fu := hux.out
      have fv := HVX.out (by have := HM.out; omega)
      have hpl := fu.fit.pl
      have hql := fv.fit.pl
      obtain ⟨s, hS⟩ := site_ex u.hk u.ha u.hn fu.fit.hn
      obtain ⟨t, hS'⟩ := site_ex v.hk v.ha v.hn fv.fit.hn
      have HTA := Lib.hid fun w1 (hb : Below w.heap.size w w1) => toUrl_walk u pv w1 (hP.below hb) hpl
      have HTB := Lib.hid fun w1 (hb : Below w.heap.size w w1) => toUrl_walk v qv w1 (hQ.below hb) hql
      have HSP := Lib.hid fun p q w1 (hp : PathAt w1 p u.path) (hq : PathAt w1 q v.path) => specSiteSame_walk u v s t p q w1 fu fv hS hS' hp hq
      have HIM := Lib.hid fun p q w1 (hp : PathAt w1 p u.path) (hq : PathAt w1 q v.path) (hb : Below w.heap.size w w1) => implSiteSame_walk u v s t p q w1 fu fv hS hS' hp hq (hT.below hb)
      have HE1 := Lib.hid fun p q w1 (hp : PathAt w1 p u.path) (hq : PathAt w1 q u.path) => eqUrl_walk u p q w1 hp hq hpl
      have HE2 := Lib.hid fun p q w1 (hp : PathAt w1 p v.path) (hq : PathAt w1 q v.path) => eqUrl_walk v p q w1 hp hq hql
      rw [hs2] at HZ2
      generalize m - (szU v : Int) = n at HZ2 hd2
      generalize siteSameV u v s t = z at HSP HIM
      have hzz : (z != z) = false := by cases z <;> rfl
      clear hs2 hy fu fv HZV HM hux HVX HZU
      unfold uCells at *
      go_enter Tryz.func4, Tryz.ntmps4
      go_upto_region 2 with fail
      generalize (w.alloc _).alloc _ = w1 at K1 K2 HW1 ⊢
      generalize w.heap.size + 1 = g at K2 ⊢
      have kc := cells13 K1
      go_wp2_with fail
      refine (HZ1.out _ HW1.out).mono ?_
      rintro e w2 ⟨rfl, hb2⟩
      clear kc
      have K12 := blk_below K1 hb2
      have K22 := blk_below K2 hb2
      have HW2 := Lib.hid (below_then HW1.out HW1.out.size hb2)
      clear K1 K2 HW1 hb2
      have kc := cells13 K22
      go_wp2_with fail
      refine (HZ2.out _ HW2.out).mono ?_
      rintro e w3 ⟨rfl, hb3⟩
      clear kc
      have K13 := blk_below K12 hb3
      have K23 := blk_below K22 hb3
      have HW3 := Lib.hid (below_then HW2.out HW2.out.size hb3)
      clear K12 K22 HW2 hb3
      go_upto_region 8 with fail
      go_cut [6] (fun x wc => x = .bool z ∧ ∃ w7, w7 = wc ∧ w7.heap[w.heap.size]? = some (.cells #[.string (B u.sch), .string (B u.usr), .string (B u.pas), .int .i64 u.hk, .string (B u.hn), .int .i64 u.ha, .int .i64 u.port, pv, .string (B u.opq), .bool u.hq, .string (B u.qry), .bool u.hf, .string (B u.frg)] 26 (0, 0)) ∧ w7.heap[g]? = some (.cells #[.string (B v.sch), .string (B v.usr), .string (B v.pas), .int .i64 v.hk, .string (B v.hn), .int .i64 v.ha, .int .i64 v.port, qv, .string (B v.opq), .bool v.hq, .string (B v.qry), .bool v.hf, .string (B v.frg)] 26 (0, 0)) ∧ Below w.heap.size w w7)
      case first =>
        have D1 : w3.drew.heap[w.heap.size]? = _ := K13
        have D2 : w3.drew.heap[g]? = _ := K23
        have HW4 := Lib.hid (below_drew HW3.out)
        have kd1 := cells13 D1
        have kd2 := cells13 D2
        go_region_with (first | ((go_at_call 11; with_reducible refine (HTA.out _ HW4.out).mono ?_; rintro e w5 ⟨q1, rfl, hQ1, hb5⟩; have K15 := blk_below D1 hb5; have K25 := blk_below D2 hb5; have HW5 := Lib.hid (below_then HW4.out HW4.out.size hb5); have kz5 := cells13 K25; clear hb5)) | ((go_at_call 11; with_reducible refine (HTB.out _ HW5.out).mono ?_; rintro e w6 ⟨q2, rfl, hQ2, hb6⟩; have hQ1' := hQ1.below hb6; have K16 := blk_below K15 hb6; have K26 := blk_below K25 hb6; have HW6 := Lib.hid (below_then HW5.out HW5.out.size hb6); clear hb6)) | ((go_at_call 15; refine (HSP.out _ _ _ hQ1' hQ2).mono ?_; rintro e w7 ⟨rfl, hb7⟩; have K17 := blk_below K16 hb7; have K27 := blk_below K26 hb7; have HW7 := Lib.hid (below_then HW6.out HW6.out.size hb7); clear hb7)))
        all_goals
          go_wp2
          go_meet
          case rel => exact ⟨rfl, _, rfl, K17, K27, HW7.out⟩
      case rest =>
        obtain ⟨rfl, w7, rfl, K17, K27, hw7⟩ := hcut
        have HW7 := Lib.hid hw7
        clear hw7 K13 K23 HW3
        have kc := cells13 K17
        go_wp2_with fail
        refine (HTA.out _ HW7.out).mono ?_
        rintro e w8a ⟨q3, rfl, hQ3, hb8⟩
        clear kc
        have hQ3' := hQ3
        obtain ⟨A3, c3, rfl, _, _⟩ := hQ3
        have hal := below_alloc (Below.refl _ w8a) (.cells (uCells u (.slice A3 u.path.length c3)) 33)
        have K78 := blk_new w8a (.cells (uCells u (.slice A3 u.path.length c3)) 33)
        have hb9 := below_then hb8 hb8.size hal
        have K18 := blk_below K17 hb9
        have K28 := blk_below K27 hb9
        have HW8 := Lib.hid (below_then HW7.out HW7.out.size hb9)
        have HQ8 := Lib.hid (hQ3'.below hal)
        clear hal hb8 hb9 hQ3' K17 K27 HW7
        unfold uCells at K78 K18 K28 HW8 HQ8
        go_upto_region 10 with fail
        generalize w8a.alloc _ = w8 at K78 K18 K28 HW8 HQ8 ⊢
        generalize w8a.heap.size = g7 at K78 ⊢
        have kc := cells13 K28
        go_wp2_with fail
        refine (HTB.out _ HW8.out).mono ?_
        rintro e w9a ⟨q4, rfl, hQ4, hb9⟩
        clear kc
        have hQ4' := hQ4
        obtain ⟨A4, c4, rfl, _, _⟩ := hQ4
        have hal := below_alloc (Below.refl _ w9a) (.cells (uCells v (.slice A4 v.path.length c4)) 33)
        have K89 := blk_new w9a (.cells (uCells v (.slice A4 v.path.length c4)) 33)
        have hbx := below_then hb9 hb9.size hal
        have K19 := blk_below K18 hbx
        have K29 := blk_below K28 hbx
        have K79 := blk_below K78 hbx
        have HW9 := Lib.hid (below_then HW8.out HW8.out.size hbx)
        have HQ9 := Lib.hid (HQ8.out.below hbx)
        have HR9 := Lib.hid (hQ4'.below hal)
        clear hal hb9 hbx hQ4' K18 K28 K78 HW8 HQ8
        unfold uCells at K89 K19 K29 K79 HW9 HQ9 HR9
        go_upto_region 11 with fail
        generalize w9a.alloc _ = w9 at K89 K19 K29 K79 HW9 HQ9 HR9 ⊢
        generalize w9a.heap.size = g8 at K89 ⊢
        have kc1 := cells13 K79
        have kc2 := cells13 K89
        go_wp2_with fail
        refine (HIM.out _ _ _ HQ9.out HR9.out HW9.out).mono ?_
        rintro e w10 ⟨rfl, hb10⟩
        clear kc1 kc2
        have HQ10 := Lib.hid (HQ9.out.below hb10)
        have HR10 := Lib.hid (HR9.out.below hb10)
        have HW10 := Lib.hid (below_then HW9.out HW9.out.size hb10)
        have K110 := blk_below K19 hb10
        have K210 := blk_below K29 hb10
        have K710 := blk_below K79 hb10
        have K810 := blk_below K89 hb10
        clear K19 K29 K79 K89 HQ9 HR9 HW9 hb10
        go_upto_if 39 with fail
        go_cut [39] (fun x wc => x = .bool false ∧ ∃ w12, w12 = wc ∧ w12.heap[w.heap.size]? = some (.cells #[.string (B u.sch), .string (B u.usr), .string (B u.pas), .int .i64 u.hk, .string (B u.hn), .int .i64 u.ha, .int .i64 u.port, pv, .string (B u.opq), .bool u.hq, .string (B u.qry), .bool u.hf, .string (B u.frg)] 26 (0, 0)) ∧ w12.heap[g]? = some (.cells #[.string (B v.sch), .string (B v.usr), .string (B v.pas), .int .i64 v.hk, .string (B v.hn), .int .i64 v.ha, .int .i64 v.port, qv, .string (B v.opq), .bool v.hq, .string (B v.qry), .bool v.hf, .string (B v.frg)] 26 (0, 0)) ∧ w12.heap[g7]? = some (.cells #[.string (B u.sch), .string (B u.usr), .string (B u.pas), .int .i64 u.hk, .string (B u.hn), .int .i64 u.ha, .int .i64 u.port, .slice A3 u.path.length c3, .string (B u.opq), .bool u.hq, .string (B u.qry), .bool u.hf, .string (B u.frg)] 33 (0, 0)) ∧ w12.heap[g8]? = some (.cells #[.string (B v.sch), .string (B v.usr), .string (B v.pas), .int .i64 v.hk, .string (B v.hn), .int .i64 v.ha, .int .i64 v.port, .slice A4 v.path.length c4, .string (B v.opq), .bool v.hq, .string (B v.qry), .bool v.hf, .string (B v.frg)] 33 (0, 0)) ∧ PathAt w12 (.slice A3 u.path.length c3) u.path ∧ PathAt w12 (.slice A4 v.path.length c4) v.path ∧ Below w.heap.size w w12)
        case first =>
          have D1 : w10.drew.heap[_]? = _ := K110
          have D2 : w10.drew.heap[_]? = _ := K210
          have D7 : w10.drew.heap[_]? = _ := K710
          have D8 : w10.drew.heap[_]? = _ := K810
          have HWd := Lib.hid (below_drew HW10.out)
          have kd1 := cells13 D1
          have kd2 := cells13 D7
          go_region_with (first | ((go_at_call 11; refine (HTA.out _ HWd.out).mono ?_; rintro e wa ⟨qa, rfl, hQa, hba⟩; have HQa := Lib.hid (PathAt.below (w := w10.drew) (HQ10.out.below (below_drew (Below.refl _ _))) hba); have HRa := Lib.hid (PathAt.below (w := w10.drew) (HR10.out.below (below_drew (Below.refl _ _))) hba); have L1 := blk_below D1 hba; have L2 := blk_below D2 hba; have L7 := blk_below D7 hba; have L8 := blk_below D8 hba; have HWa := Lib.hid (below_then HWd.out HWd.out.size hba); have kza := cells13 L7; clear hba)) | ((go_at_call 14; refine (HE1.out _ _ _ HQa.out hQa).mono ?_; rintro e w12 ⟨rfl, hbb⟩; have K112 := blk_below L1 hbb; have K212 := blk_below L2 hbb; have K712 := blk_below L7 hbb; have K812 := blk_below L8 hbb; have HQ12 := Lib.hid (HQa.out.below hbb); have HR12 := Lib.hid (HRa.out.below hbb); have HW12 := Lib.hid (below_then HWa.out HWa.out.size hbb); clear hbb)))
          all_goals
            go_wp2
            go_meet
            case rel => exact ⟨rfl, _, rfl, K112, K212, K712, K812, HQ12.out, HR12.out, HW12.out⟩
        case rest =>
          obtain ⟨rfl, w12, rfl, K112, K212, K712, K812, hq12, hr12, hw12⟩ := hcut
          have HQ12 := Lib.hid hq12
          have HR12 := Lib.hid hr12
          have HW12 := Lib.hid hw12
          clear hq12 hr12 hw12 K110 K210 K710 K810 HQ10 HR10 HW10
          go_upto_region 16 with fail
          have D1 : w12.drew.heap[_]? = _ := K112
          have D2 : w12.drew.heap[_]? = _ := K212
          have D7 : w12.drew.heap[_]? = _ := K712
          have D8 : w12.drew.heap[_]? = _ := K812
          have HWd := Lib.hid (below_drew HW12.out)
          have kd1 := cells13 D2
          have kd2 := cells13 D8
          go_region_with (first | ((go_at_call 11; refine (HTB.out _ HWd.out).mono ?_; rintro e wa ⟨qa, rfl, hQa, hba⟩; have HQa := Lib.hid (PathAt.below (w := w12.drew) (HQ12.out.below (below_drew (Below.refl _ _))) hba); have HRa := Lib.hid (PathAt.below (w := w12.drew) (HR12.out.below (below_drew (Below.refl _ _))) hba); have L1 := blk_below D1 hba; have L2 := blk_below D2 hba; have L7 := blk_below D7 hba; have L8 := blk_below D8 hba; have HWa := Lib.hid (below_then HWd.out HWd.out.size hba); have kza := cells13 L8; clear hba)) | ((go_at_call 14; refine (HE2.out _ _ _ HRa.out hQa).mono ?_; rintro e w13 ⟨rfl, hbb⟩; have K113 := blk_below L1 hbb; have K213 := blk_below L2 hbb; have K713 := blk_below L7 hbb; have K813 := blk_below L8 hbb; have HQ13 := Lib.hid (HQa.out.below hbb); have HR13 := Lib.hid (HRa.out.below hbb); have HW13 := Lib.hid (below_then HWa.out HWa.out.size hbb); clear hbb)))
          all_goals
            go_wp2
            go_ret
            exact ⟨rfl, HW13.out⟩
    · have hs2 : szV v m = -1 := by rw [HZV.out, if_neg hy]
      rw [hs2] at HZ2
      clear hs2 hy HZV HM hux HVX HZU hP hT
      unfold uCells at *
      go_enter Tryz.func4, Tryz.ntmps4
      go_upto_region 2 with fail
      generalize (w.alloc _).alloc _ = w1 at K1 K2 HW1 ⊢
      generalize w.heap.size + 1 = g at K2 ⊢
      have kc := cells13 K1
      go_wp2_with fail
      refine (HZ1.out _ HW1.out).mono ?_
      rintro e w2 ⟨rfl, hb2⟩
      clear kc
      have K12 := blk_below K1 hb2
      have K22 := blk_below K2 hb2
      have HW2 := Lib.hid (below_then HW1.out HW1.out.size hb2)
      clear K1 K2 HW1 hb2
      have kc := cells13 K22
      go_wp2_with fail
      refine (HZ2.out _ HW2.out).mono ?_
      rintro e w3 ⟨rfl, hb3⟩
      have HW3 := Lib.hid (below_then HW2.out HW2.out.size hb3)
      clear kc K12 K22 HW2 hb3
      go_wp2
      go_ret
      exact ⟨rfl, HW3.out⟩
  · have hs : szV u 1048576 = -1 := by unfold szV; rw [if_neg (by omega)]
    rw [hs] at HZ1
    clear hs hz hP hQ hT hu hv
    unfold uCells at *
    go_enter Tryz.func4, Tryz.ntmps4
    go_upto_region 2 with fail
    generalize (w.alloc _).alloc _ = w1 at K1 K2 HW1 ⊢
    generalize w.heap.size + 1 = g at K2 ⊢
    have kc := cells13 K1
    go_wp2_with fail
    refine (HZ1.out _ HW1.out).mono ?_
    rintro e w2 ⟨rfl, hb2⟩
    clear kc
    have K12 := blk_below K1 hb2
    have K22 := blk_below K2 hb2
    have HW2 := Lib.hid (below_then HW1.out HW1.out.size hb2)
    clear K1 K2 HW1 hb2
    go_wp2
    go_ret
    exact ⟨rfl, HW2.out⟩
end Go.Proofs.YtndobphgeiamhaaGreatDoor.H
