/- Texts of this claim, joined: HDraw, UrlSp, DUrlP, DUrlG. Conditions: each theorem's own. -/
import Derived.Test.YtkfieoembkiopaaGreatDoorA01
import Derived.Test.YtkfieoembkiopaaGreatDoorA02
import Derived.Test.YtkfieoembkiopaaGreatDoorA03
import Derived.Test.YtkfieoembkiopaaGreatDoorA04
import Derived.Test.YtkfieoembkiopaaGreatDoorA05
import Derived.Test.YtkfieoembkiopaaGreatDoorA06
import Derived.Test.YtkfieoembkiopaaGreatDoorA07
import Derived.Test.YtkfieoembkiopaaGreatDoorA08
import Derived.Test.YtkfieoembkiopaaGreatDoorA09
import Derived.Test.YtkfieoembkiopaaGreatDoorA10
import Derived.Test.YtkfieoembkiopaaGreatDoorA11
import Derived.Test.YtkfieoembkiopaaGreatDoorA12
import Derived.Test.YtkfieoembkiopaaGreatDoorA13
import Derived.Test.YtkfieoembkiopaaGreatDoorA14
import Derived.Test.YtkfieoembkiopaaGreatDoorA15
import Derived.Test.YtkfieoembkiopaaGreatDoorA16
import Derived.Test.YtkfieoembkiopaaGreatDoorA17
import Derived.Test.YtkfieoembkiopaaGreatDoorA18
import Derived.Below
import Derived.Deep.Draws
import Derived.Deep.AppendLies
import Derived.Maps.AppendAt
import Derived.OwnWalk
import Derived.Laws.BytesArg
import Derived.Laws.MakeOwn
import Derived.Laws.OwnMore
import Derived.Deep.OwnRows
import Derived.Tactics
import Derived.Lib.ConvBytes
import Derived.Laws.Slices
import Derived.WalkKit
import Derived.KernelRfl
import Derived.RowKit3
import Derived.Deep.LoopGhost
import Derived.Deep.QuietTactic
import Derived.BigQuiet
import Derived.WideLaws
import Derived.Deep.DeepCutAuto
import Derived.Deep.CutBlock
import Derived.Deep.RegionHeld3
import Derived.Laws.Rows
import Derived.Lib.AppendStr
import Derived.ArgAppend
import Derived.Laws.IdiomCopy
import Derived.RowKit
import Derived.OrdersHeld
import Derived.Laws.BitsLemmas
import Derived.Lib.Strings
import Derived.Lib.SmallJoins
import Derived.Lib.LaidTab
import Derived.Lib.ItoaNum
import Derived.SizedLaws
import Derived.Handed
import Derived.LaidMore
import Derived.Stop.Joined
import Derived.Lib.Slices
import Derived.Lib.Walk
import Derived.Lib.Builder
import Derived.Lib.UnsafeStr
import Derived.Lib.MakeNoZero
import Derived.Laws.Externs
import Derived.Shelf.RegionOpenPlain
import Derived.Shelf.Strings.Builder1
import Derived.Shelf.Strings.Builder2
import Derived.Shelf.Strings.OnBuilder
import Derived.Shelf.Small.Utf8
import Derived.Shelf.Small.Strs
import Derived.Shelf.Strconv.Itoa0
import Derived.Shelf.Strconv.Itoa1
import Derived.Shelf.LaysM
import Derived.Shelf.Strconv.Itoa2
import Derived.Shelf.Strconv.Itoa3
import Derived.Shelf.Strings.Search1
import Derived.Shelf.Strings.Search2
import Derived.Shelf.Strings.Search3
import Derived.Shelf.Strings.Cut
import Derived.Shelf.Strings.Count
import Derived.Shelf.Strings.Shaped
import Derived.Shelf.Strings.LastIndex
import Derived.Shelf.Strings.Prefix
import Derived.Shelf.Strings.Split
import Derived.Shelf.Strings.Replace
import Derived.Shelf.Strings.Runes
import Derived.Shelf.Strings.IndexAny
import Derived.Shelf.Strings.AsciiSet
import Derived.Shelf.Strings.IndexAnyAll
import Derived.Shelf.Unicode.DecodeSlow
import Derived.Shelf.Slices.Turned
import Derived.Ground.Names2Prog
import Derived.Shelf.Slices.Clone
import Derived.Lib.Split
import Derived.Lib.Replace
import Derived.Lib.ReplaceLaws
import Derived.Lib.IndexLaws
import Derived.Lib.IndexMore
import Derived.Lib.CountLaws
import Derived.Laws.StructEq
import Derived.Outline
import Derived.Lib.Hide
import Derived.StillTailTactics
import Derived.Deep.RegionWith
import Derived.Lib.Bytealg
import Derived.Lib.SplitLaws
import Derived.Laws.AppendOwn
import Derived.Sort.Grow
import Derived.WalkSmall
import Derived.Lib.IndexAny
import Derived.Lib.LastIndexByte
import Derived.Laws.RangeString
import Derived.Laws.Strings3
import Derived.WalkMore
import Derived.Deep.RegionLaw
import Derived.ChangeSlices
set_option linter.unusedVariables false
set_option linter.unusedSimpArgs false
namespace Go.Proofs.YtkfieoembkiopaaGreatDoor.Pure
open Go.RowKit Go.Proofs.YtkfieoembkiopaaGreatDoor.H Go.Proofs.YtkfieoembkiopaaGreatDoor.Lh Go.Proofs.YtkfieoembkiopaaGreatDoor.Lp Go.Proofs.YtkfieoembkiopaaGreatDoorW.PrintWords Go.Proofs.YtkfieoembkiopaaGreatDoorW.PrintLast Go.Proofs.YtkfieoembkiopaaGreatDoor.Base

theorem many_l0 : ∀ (d : Nat) (s out : Bs) (n : Nat), n < 2 ^ d → d ≤ 8 → s.length * 2 ^ d ≤ 512 → out.length ≤ 512 * (8 - d) → ∃ b : Bs, b.length ≤ 5000 ∧ Ev (fun k => spec_l1Many.l0 k (B s) (n : Int) (B out)) (B b) := by
  intro d
  induction d with
  | zero =>
    intro s out n hn hd hs ho
    refine ⟨out, by omega, ev_1 fun k => ?_⟩
    have h0 : n = 0 := by simpa using hn
    simp only [spec_l1Many.l0]
    rw [if_neg (by omega)]
  | succ d ih =>
    intro s out n hn hd hs ho
    by_cases h0 : n = 0
    · refine ⟨out, by omega, ev_1 fun k => ?_⟩
      simp only [spec_l1Many.l0]
      rw [if_neg (by omega)]
    · have hsl : s.length ≤ 512 := Nat.le_trans (Nat.le_mul_of_pos_right _ (Nat.two_pow_pos _)) hs
      have hs' : (s ++ s).length * 2 ^ d ≤ 512 := by
        rw [List.length_append]
        rw [Nat.pow_succ, Nat.mul_comm (2 ^ d) 2, ← Nat.mul_assoc, Nat.mul_two] at hs
        exact hs
      have hn' : n / 2 < 2 ^ d := by rw [Nat.pow_succ] at hn; omega
      have hq : wrap64 (Int.tdiv (n : Int) 2) = ((n / 2 : Nat) : Int) := by
        have e : Int.tdiv (n : Int) 2 = ((n / 2 : Nat) : Int) := rfl
        have : n < 2 ^ 8 := Nat.lt_of_lt_of_le hn (Nat.pow_le_pow_right (by decide) hd)
        rw [e, w64 (by omega) (by omega)]
      have hm : Int.tmod (n : Int) 2 = ((n % 2 : Nat) : Int) := rfl
      by_cases h1 : n % 2 = 1
      · obtain ⟨b, hb, e⟩ := ih (s ++ s) (out ++ s) (n / 2) hn' (by omega) hs' (by rw [List.length_append]; omega)
        refine ⟨b, hb, ?_⟩
        refine Ev.step (fun k => by rw [spec_l1Many.l0]) ?_
        simp only [if_pos (show (n : Int) > 0 by omega), hm, h1, if_pos (show ((1 : Nat) : Int) = 1 from rfl), B_size, B_append, if_pos (show out.length + s.length ≤ 9223372036854775807 by omega), if_pos (show s.length + s.length ≤ 9223372036854775807 by omega), hq]
        exact e
      · obtain ⟨b, hb, e⟩ := ih (s ++ s) out (n / 2) hn' (by omega) hs' (by omega)
        refine ⟨b, hb, ?_⟩
        refine Ev.step (fun k => by rw [spec_l1Many.l0]) ?_
        simp only [if_pos (show (n : Int) > 0 by omega), hm, if_neg (show ¬ ((n % 2 : Nat) : Int) = 1 by omega), B_size, B_append, if_pos (show s.length + s.length ≤ 9223372036854775807 by omega), hq]
        exact e
theorem many_ev (s : Bs) (n : Int) (hs : s.length ≤ 2) (h0 : 0 ≤ n) (h1 : n ≤ 200) : ∃ b : Bs, b.length ≤ 5000 ∧ Ev (fun k => spec_l1Many.f k (B s) n) (B b) := by
  obtain ⟨m, rfl⟩ := Int.eq_ofNat_of_zero_le h0
  exact many_l0 8 s [] m (by omega) (by omega) (by omega) (by simp)

end Go.Proofs.YtkfieoembkiopaaGreatDoor.Pure
namespace Go.Proofs.YtkfieoembkiopaaGreatDoor.H
open Go.RowKit Go.Proofs.YtkfieoembkiopaaGreatDoorW.PrintWords Go.Proofs.YtkfieoembkiopaaGreatDoor.Base Go.Proofs.YtkfieoembkiopaaGreatDoor.Pure
theorem lend_low (c : UInt8) (h : low c = false) : lend c = false := by
  have h1 := of_decide_eq_false h
  unfold lend
  have h2 : ∀ n : UInt8, n.toNat ≤ 32 → (c == n) = false := fun n hn => by
    rw [beq_eq_false_iff_ne]; intro e; subst e; omega
  rw [h2 9 (by decide), h2 10 (by decide), h2 13 (by decide)]; rfl
theorem noEnds_cons (c : UInt8) (t : Bs) : noEnds (c :: t) = if lend c = true then noEnds t else c :: noEnds t := by
  unfold noEnds; rw [List.filter_cons]; cases lend c <;> simp
theorem ltrim_noEnds : ∀ l : Bs, ltrim (noEnds l) = noEnds (ltrim l)
  | [] => rfl
  | c :: t => by
    rw [ltrim_cons, noEnds_cons]
    cases hc : low c with
    | true =>
      rw [if_pos rfl, ← ltrim_noEnds t]
      cases lend c with
      | true => rw [if_pos rfl]
      | false => rw [if_neg (by simp), ltrim_cons, hc, if_pos rfl]
    | false =>
      rw [lend_low c hc, if_neg (by simp), if_neg (by simp), noEnds_cons, lend_low c hc, if_neg (by simp), ltrim_cons, hc, if_neg (by simp)]
theorem noEnds_reverse (l : Bs) : noEnds l.reverse = (noEnds l).reverse := by unfold noEnds; rw [List.filter_reverse]
theorem rtrim_l (l : Bs) : rtrim l = (ltrim l.reverse).reverse := rfl
theorem rtrim_noEnds (l : Bs) : rtrim (noEnds l) = noEnds (rtrim l) := by
  rw [rtrim_l, rtrim_l, ← noEnds_reverse, ltrim_noEnds, noEnds_reverse]
theorem trimU_eq (l : Bs) : trimU l = rtrim (ltrim (noEnds l)) := by
  unfold trimU; rw [ltrim_noEnds, rtrim_noEnds]
theorem rtrim_back (l : Bs) (c : UInt8) (h : low c = true) : rtrim (l ++ [c]) = rtrim l := by rw [rtrim_snoc, if_pos h]
theorem ltrim_app_low (l : Bs) (c : UInt8) (h : low c = true) : rtrim (ltrim (l ++ [c])) = rtrim (ltrim l) := by
  induction l with
  | nil => show rtrim (ltrim (c :: [])) = _; rw [ltrim_cons, if_pos h]
  | cons d t ih =>
    rw [List.cons_append, ltrim_cons, ltrim_cons]
    cases low d with
    | true => exact ih
    | false => rw [if_neg (by simp), if_neg (by simp), ← List.cons_append, rtrim_back _ _ h]
theorem trim_space (a b : Bs) : trimU (32 :: 9 :: (a ++ (10 :: (b ++ [13, 32])))) = trimU (a ++ b) := by
  rw [trimU_eq, trimU_eq]
  have e1 : noEnds (32 :: 9 :: (a ++ (10 :: (b ++ [13, 32])))) = 32 :: (noEnds (a ++ b) ++ [32]) := by
    unfold noEnds
    rw [List.filter_cons, if_pos (by decide), List.filter_cons, if_neg (by decide), List.filter_append, List.filter_cons, if_neg (by decide), List.filter_append, List.filter_cons, if_neg (by decide), List.filter_cons, if_pos (by decide), List.filter_append]
    simp
  rw [e1, ltrim_cons, if_pos (by decide), ltrim_app_low _ _ (by decide)]
theorem urlG_space (l : Bs) (k : Nat) (hl : l.length ≤ 100) : urlG (32 :: 9 :: (l.take k ++ (10 :: (l.drop k ++ [13, 32])))) = urlG l := by
  unfold urlG
  rw [trim_space, List.take_append_drop, if_pos (by simp; omega), if_pos (by omega)]
end Go.Proofs.YtkfieoembkiopaaGreatDoor.H
set_option linter.unusedVariables false
namespace Go.Proofs.YtkfieoembkiopaaGreatDoor.H
open Go.RowKit Go.Proofs.YtkfieoembkiopaaGreatDoorW.PrintWords Go.Proofs.YtkfieoembkiopaaGreatDoor.Base Go.Proofs.YtkfieoembkiopaaGreatDoor.Pure
theorem urlG_nil : urlG [] = (Ur.zero, false) := rfl
theorem text_back (u : Ur) : (urlG (urlPutV u)).2 = !(urlPutV u).isEmpty ∧ ((urlG (urlPutV u)).2 = true → (urlG (urlPutV u)).1 = u) := by
  unfold urlPutV
  cases h : okU u with
  | false => exact ⟨rfl, fun q => by cases q⟩
  | true =>
    rw [if_pos rfl]
    have e := (okU_iff u).1 h
    rw [e]
    refine ⟨?_, fun _ => rfl⟩
    cases hp : putU u with
    | nil => rw [hp, urlG_nil] at e; cases e
    | cons c t => rfl
theorem text_again (t : Bs) (h : (urlG t).2 = true) (hl : t.length ≤ 60) : okU (urlG t).1 = true ∧ urlG (urlPutV (urlG t).1) = ((urlG t).1, true) := by
  obtain ⟨g, hp⟩ := good_of t h
  have e := good_put _ g (by omega)
  have ho := (okU_iff _).2 e
  refine ⟨ho, ?_⟩
  unfold urlPutV
  rw [if_pos ho]; exact e
theorem goodH_len (u : Ur) (h : GoodH u) (hl : (putU u).length ≤ 200) (S : Bs) (hS : S.length = u.sch.length) (x : UInt8) (p : Bs) (hp5 : p.length = (pathPut u.path).length) : (S ++ 58 :: (x :: x :: (authB u ++ (p ++ tailB u)))).length ≤ 200 := by
  obtain ⟨_, _, s3⟩ := http_sch _ h.s
  rw [putU_H u s3] at hl
  simp only [List.length_append, List.length_cons] at hl ⊢
  omega
theorem goodH_any (u : Ur) (h : GoodH u) (hl : (putU u).length ≤ 600) (S : Bs) (s1 : schOk S = true) (s2 : lower S = u.sch) (x : UInt8) (hx : x = 47 ∨ x = 92) (p : Bs)
    (hp1 : p = [] ∨ ∃ c t, p = c :: t ∧ isSl c = true) (hp2 : ∀ c ∈ p, ([63, 35] : Bs).contains c = false) (hp3 : Seen p) (hp4 : pathB (setB 1) p = u.path) (hlen : (S ++ 58 :: (x :: x :: (authB u ++ (p ++ tailB u)))).length ≤ 200) :
    urlG (S ++ 58 :: (x :: x :: (authB u ++ (p ++ tailB u)))) = (u, true) := by
  obtain ⟨_, _, s3⟩ := http_sch _ h.s
  obtain ⟨c1, c2, c3⟩ := auth_chars u h.a
  obtain ⟨a1, a2⟩ := auth_back u h.a (baseU u.sch) rfl rfl rfl
  have f2 : formU u.sch (authB u) p (tailB u) = u := by
    unfold formU
    rw [a2, hp4, tail_back u _ h.t]
    unfold baseU Ur.zero
    have ho := h.o
    cases u; simp at ho ⊢; exact ho
  have hxs : isSl x = true := by rcases hx with rfl | rfl <;> rfl
  have hx32 : 32 < x.toNat := by rcases hx with rfl | rfl <;> decide
  have hseen : Seen (S ++ 58 :: (x :: x :: (authB u ++ (p ++ tailB u)))) :=
    Seen.app (sch_seen _ s1) (Seen.cons (by decide) (Seen.cons hx32 (Seen.cons hx32 (Seen.app c2 (Seen.app hp3 (tailB_seen u h.t))))))
  obtain ⟨g0, g1, g2⟩ := hosted_form u.sch (authB u) p (tailB u) x x hxs hxs c3 c1 hp1 hp2 (tailB_head u)
  unfold urlG
  rw [if_pos hlen, trimU_seen _ hseen]
  rw [scheme_form _ _ s1, s2]
  exact readU_hosted _ _ u s3 (by rw [g0, g1]; exact a1) (by rw [g2, f2]) h.pl hl
theorem pathB_self (u : Ur) (h : GoodH u) (hl : (putU u).length ≤ 200) : pathB (setB 1) (pathPut u.path) = u.path := by
  obtain ⟨_, _, s3⟩ := http_sch _ h.s
  refine path_put u.path h.pn h.po ?_
  rw [putU_H u s3] at hl
  simp only [List.length_append, List.length_cons] at hl
  omega
theorem case_law (u : Ur) (h : okU u = true) (hn : 0 ≤ portU u) : urlG (upK u.sch.length (putU u)) = (u, true) := by
  obtain ⟨g, hl⟩ := ok_hosted u h hn
  obtain ⟨_, _, s3⟩ := http_sch _ g.s
  have e : upK u.sch.length (putU u) = u.sch.map (fun c => c - 32) ++ 58 :: (47 :: 47 :: (authB u ++ (pathPut u.path ++ tailB u))) := by
    unfold upK
    rw [putU_H u s3, List.take_left, List.drop_left]
  rw [e]
  obtain ⟨d1, d2⟩ := path_chars u.path g.po
  exact goodH_any u g (by omega) _ (by rcases g.s with q | q <;> (rw [q]; decide)) (by rcases g.s with q | q <;> (rw [q]; decide)) 47 (.inl rfl) _ (.inr (path_head _ g.pn)) d1 d2 (pathB_self u g hl) (goodH_len u g hl _ (by simp) 47 _ rfl)
theorem swap_no (l : Bs) (h : ∀ c ∈ l, c ≠ 47) : swapC 47 92 l = l := by
  unfold swapC
  have e : l.map (fun x => if x = 47 then (92 : UInt8) else x) = l.map id := List.map_congr_left fun c hc => if_neg (h c hc)
  rw [e, List.map_id]
theorem swap_back (l : Bs) : swapC 92 47 (swapC 47 92 l) = swapC 92 47 l := by
  unfold swapC
  rw [List.map_map]
  refine List.map_congr_left fun c _ => ?_
  show (if (if c = 47 then (92 : UInt8) else c) = 92 then (47 : UInt8) else (if c = 47 then 92 else c)) = if c = 92 then 47 else c
  by_cases h : c = 47
  · subst h; decide
  · rw [if_neg h]
theorem pathB_swap (p : Bs) (hp : ∃ c t, p = c :: t ∧ isSl c = true) : pathB (setB 1) (swapC 47 92 p) = pathB (setB 1) p := by
  obtain ⟨c, t, rfl, hc⟩ := hp
  have e1 : (swapC 47 92 (c :: t)).length = (c :: t).length := by unfold swapC; rw [List.length_map]
  have e2 : offSlash (swapC 47 92 (c :: t)) = swapC 47 92 t := by
    have : swapC 47 92 (c :: t) = (if c = 47 then 92 else c) :: swapC 47 92 t := rfl
    rw [this]
    show (if isSl (if c = 47 then 92 else c) = true then swapC 47 92 t else _) = _
    rw [if_pos]
    by_cases h : c = 47
    · rw [if_pos h]; rfl
    · rw [if_neg h]; exact hc
  have e3 : offSlash (c :: t) = t := by show (if isSl c = true then t else c :: t) = t; rw [if_pos hc]
  unfold pathB pieces
  rw [e1, e2, e3, swap_back]
theorem slash_law (u : Ur) (h : okU u = true) (hn : 0 ≤ portU u) : urlG (turnS (putU u)) = (u, true) := by
  obtain ⟨g, hl⟩ := ok_hosted u h hn
  obtain ⟨s1, s2, s3⟩ := http_sch _ g.s
  obtain ⟨c1, c2, c3⟩ := auth_chars u g.a
  obtain ⟨d1, d2⟩ := path_chars u.path g.po
  have hsch : ∀ c ∈ u.sch, ([63, 35] : Bs).contains c = false ∧ c ≠ 47 := by rcases g.s with q | q <;> (rw [q]; decide)
  have hauth : ∀ c ∈ authB u, ([63, 35] : Bs).contains c = false ∧ c ≠ 47 := fun c hc => by
    have := c1 c hc
    simp only [List.contains_eq_mem, List.mem_cons, List.not_mem_nil, or_false, decide_eq_false_iff_not] at this ⊢
    refine ⟨fun q => this ?_, fun q => this ?_⟩
    · rcases q with q | q <;> simp [q]
    · simp [q]
  have hput : putU u = (u.sch ++ 58 :: (47 :: 47 :: (authB u ++ pathPut u.path))) ++ tailB u := by rw [putU_H u s3]; simp
  have hA : ∀ c ∈ u.sch ++ 58 :: (47 :: 47 :: (authB u ++ pathPut u.path)), ([63, 35] : Bs).contains c = false := fun c hc => by
    rcases List.mem_append.1 hc with hc | hc
    · exact (hsch c hc).1
    · rcases List.mem_cons.1 hc with rfl | hc
      · decide
      · rcases List.mem_cons.1 hc with rfl | hc
        · decide
        · rcases List.mem_cons.1 hc with rfl | hc
          · decide
          · rcases List.mem_append.1 hc with hc | hc
            · exact (hauth c hc).1
            · exact d1 c hc
  obtain ⟨e1, e2⟩ := upA_cut [63, 35] _ (tailB u) hA (tailB_head u)
  have e : turnS (putU u) = u.sch ++ 58 :: (92 :: 92 :: (authB u ++ (swapC 47 92 (pathPut u.path) ++ tailB u))) := by
    unfold turnS
    rw [hput, e1, e2]
    have a1 : swapC 47 92 u.sch = u.sch := swap_no _ fun c hc => (hsch c hc).2
    have a2 : swapC 47 92 (authB u) = authB u := swap_no _ fun c hc => (hauth c hc).2
    have a3 : ∀ a b : Bs, swapC 47 92 (a ++ b) = swapC 47 92 a ++ swapC 47 92 b := fun a b => by unfold swapC; exact List.map_append
    have a4 : ∀ (c : UInt8) (b : Bs), swapC 47 92 (c :: b) = (if c = 47 then 92 else c) :: swapC 47 92 b := fun c b => rfl
    rw [a3, a1, a4, a4, a4, a3, a2]
    simp
  rw [e]
  obtain ⟨c, t, hc, hsl⟩ := path_head _ g.pn
  refine goodH_any u g (by omega) _ s1 s2 92 (.inr rfl) _ (.inr ⟨_, _, by rw [hc]; rfl, ?_⟩) (fun x hx => ?_) (fun x hx => ?_) ?_ (goodH_len u g hl _ rfl 92 _ (by unfold swapC; rw [List.length_map]))
  · show isSl (if c = 47 then 92 else c) = true
    by_cases h : c = 47
    · rw [if_pos h]; rfl
    · rw [if_neg h]; exact hsl
  · unfold swapC at hx
    obtain ⟨y, hy, rfl⟩ := List.mem_map.1 hx
    by_cases h : y = 47
    · rw [if_pos h]; decide
    · rw [if_neg h]; exact d1 y hy
  · unfold swapC at hx
    obtain ⟨y, hy, rfl⟩ := List.mem_map.1 hx
    by_cases h : y = 47
    · rw [if_pos h]; decide
    · rw [if_neg h]; exact d2 y hy
  · rw [pathB_swap _ ⟨c, t, hc, hsl⟩]; exact pathB_self u g hl
end Go.Proofs.YtkfieoembkiopaaGreatDoor.H
set_option linter.unusedVariables false
namespace Go.Proofs.YtkfieoembkiopaaGreatDoor.H
open Go.RowKit Go.Proofs.YtkfieoembkiopaaGreatDoorW.PrintWords Go.Proofs.YtkfieoembkiopaaGreatDoor.Base Go.Proofs.YtkfieoembkiopaaGreatDoor.Pure Go.Proofs.YtkfieoembkiopaaGreatDoor.Lh Go.Proofs.YtkfieoembkiopaaGreatDoor.Lp
theorem many_walk (s : Bs) (n : Int) (w : World) (hs : s.length ≤ 2) (h0 : 0 ≤ n) (h1 : n ≤ 200) : Calls Tryz.prog 49 #[.string (B s), .int .i64 n] w fun e w' => ∃ x : Bs, e = .returned (.string (B x)) ∧ x.length ≤ 5000 ∧ Below w.heap.size w w' := by
  obtain ⟨b, hb, ev⟩ := many_ev s n hs h0 h1
  obtain ⟨k, e⟩ := ev.rounds
  refine (spec_l1Many.calls k (B s) n (B b) w e).mono ?_
  rintro e w' ⟨rfl, hd⟩
  exact ⟨b, rfl, hb, hd.below⟩
set_option maxHeartbeats 1000000 in
set_option maxRecDepth 100000 in
theorem code_urlGet (a0 : Option Addr) (len0 cap0 : Nat) (z0 : List Int) (w : World) (w0 : CodeRow w a0 len0 cap0 z0) :
    Calls Tryz.prog 14 #[.slice a0 len0 cap0] w fun e w' => ∃ x : Bs, e = .returned (.string (B x)) ∧ x.length ≤ 6000 ∧ Below w.heap.size w w' := by
  have eap := bapp
  have e9 : (⟨#[104, 116, 116, 112, 58, 47, 47, 97, 47]⟩ : ByteArray) = B [104, 116, 116, 112, 58, 47, 47, 97, 47] := rfl
  go_enter Tryz.func14, Tryz.ntmps14
  go_wp2_with fail
  refine (open_draw a0 len0 cap0 z0 w w0).mono ?_
  rintro e w1 ⟨g, rfl, hg, D1, _⟩
  clear w0
  go_wp2_with fail
  refine (pick_draw g 999999 40 w w1 w1 D1 (by omega) (by omega)).mono ?_
  rintro e w2 ⟨r, rfl, hr, D2⟩
  clear D1
  by_cases c0 : r = 0
  · have d0 : ((r : Int) == 0) = true := by rw [beq_iff_eq]; omega
    go_wp2_with fail
    refine (of_lit g 999998 2 3 w w2 w2 _ _ D2.at (by rfl) (by rfl) (by omega) (by omega)).mono ?_
    rintro e w3 ⟨x, rfl, hx, D3⟩
    clear D2
    go_wp2_with fail
    refine (one_lit g 999997 7 6 192 w w3 w3 _ _ D3.at (by rfl) (by rfl) (by omega) (by omega)).mono ?_
    rintro e w4 ⟨m, rfl, hm, D4⟩
    clear D3
    go_wp2_with fail
    refine (many_walk x m w4 hx (by omega) (by omega)).mono ?_
    rintro e w5 ⟨y, rfl, hy, hb5⟩
    have HB := Lib.hid (below_then D4.b D4.b.size hb5)
    have k1 : ¬ 9223372036854775807 < 9 + y.length := by omega
    clear D4 hb5
    go_wp2
    go_ret
    exact ⟨[104, 116, 116, 112, 58, 47, 47, 97, 47] ++ y, rfl, by simp; omega, HB.out⟩
  · have d0 : ((r : Int) == 0) = false := by rw [beq_eq_false_iff_ne]; omega
    go_wp2_with fail
    refine (text_draw g 1000 w w2 (D2.at.less (by omega))).mono ?_
    rintro e w3 ⟨x, rfl, hx, D3⟩
    have HB := Lib.hid D3.b
    clear D2 D3
    go_wp2
    go_ret
    exact ⟨x, rfl, by omega, HB.out⟩
end Go.Proofs.YtkfieoembkiopaaGreatDoor.H
