/- Texts of this claim, joined: HEntQ. Conditions: each theorem's own. -/
import Derived.Test.YtndobphgeiamhaaGreatDoorA01
import Derived.Test.YtndobphgeiamhaaGreatDoorA02
import Derived.Test.YtndobphgeiamhaaGreatDoorA03
import Derived.Test.YtndobphgeiamhaaGreatDoorA04
import Derived.Test.YtndobphgeiamhaaGreatDoorA05
import Derived.Test.YtndobphgeiamhaaGreatDoorA06
import Derived.Test.YtndobphgeiamhaaGreatDoorA07
import Derived.Test.YtndobphgeiamhaaGreatDoorA08
import Derived.Test.YtndobphgeiamhaaGreatDoorA09
import Derived.Test.YtndobphgeiamhaaGreatDoorA10
import Derived.Test.YtndobphgeiamhaaGreatDoorA11
import Derived.Test.YtndobphgeiamhaaGreatDoorA12
import Derived.Test.YtndobphgeiamhaaGreatDoorA13
import Derived.Test.YtndobphgeiamhaaGreatDoorA14
import Derived.Test.YtndobphgeiamhaaGreatDoorA15
import Derived.Test.YtndobphgeiamhaaGreatDoorA16
import Derived.Test.YtndobphgeiamhaaGreatDoorA17
import Derived.Below
import Derived.Deep.Draws
import Derived.Deep.AppendLies
import Derived.Maps.AppendAt
import Derived.OwnWalk
import Derived.Laws.BytesArg
import Derived.Laws.MakeOwn
import Derived.Laws.OwnMore
import Derived.Deep.OwnRows
import Derived.Tactics
import Derived.Lib.ConvBytes
import Derived.Laws.Slices
import Derived.WalkKit
import Derived.KernelRfl
import Derived.RowKit3
import Derived.Deep.LoopGhost
import Derived.Deep.QuietTactic
import Derived.BigQuiet
import Derived.WideLaws
import Derived.Deep.DeepCutAuto
import Derived.Deep.CutBlock
import Derived.Deep.RegionHeld3
import Derived.Laws.Rows
import Derived.Lib.AppendStr
import Derived.ArgAppend
import Derived.Laws.IdiomCopy
import Derived.RowKit
import Derived.OrdersHeld
import Derived.Laws.BitsLemmas
import Derived.Lib.Strings
import Derived.Lib.SmallJoins
import Derived.Lib.LaidTab
import Derived.Lib.ItoaNum
import Derived.SizedLaws
import Derived.Handed
import Derived.LaidMore
import Derived.Stop.Joined
import Derived.Lib.Slices
import Derived.Lib.Walk
import Derived.Lib.Builder
import Derived.Lib.UnsafeStr
import Derived.Lib.MakeNoZero
import Derived.Laws.Externs
import Derived.Shelf.RegionOpenPlain
import Derived.Lib.Split
import Derived.Lib.Replace
import Derived.Lib.ReplaceLaws
import Derived.Lib.IndexLaws
import Derived.Lib.IndexMore
import Derived.Lib.CountLaws
import Derived.Shelf.Strings.Builder1
import Derived.Shelf.Strings.Builder2
import Derived.Shelf.Strings.OnBuilder
import Derived.Shelf.Small.Utf8
import Derived.Shelf.Small.Strs
import Derived.Shelf.Strconv.Itoa0
import Derived.Shelf.Strconv.Itoa1
import Derived.Shelf.LaysM
import Derived.Shelf.Strconv.Itoa2
import Derived.Shelf.Strconv.Itoa3
import Derived.Shelf.Strings.Search1
import Derived.Shelf.Strings.Search2
import Derived.Shelf.Strings.Search3
import Derived.Shelf.Strings.Cut
import Derived.Shelf.Strings.Count
import Derived.Shelf.Strings.Shaped
import Derived.Shelf.Strings.LastIndex
import Derived.Shelf.Strings.Prefix
import Derived.Shelf.Strings.Split
import Derived.Shelf.Strings.Replace
import Derived.Shelf.Strings.Runes
import Derived.Shelf.Strings.IndexAny
import Derived.Shelf.Strings.AsciiSet
import Derived.Shelf.Strings.IndexAnyAll
import Derived.Shelf.Unicode.DecodeSlow
import Derived.Shelf.Slices.Turned
import Derived.Ground.Names2Prog
import Derived.Shelf.Slices.Clone
import Derived.Lib.SplitLaws
import Derived.Lib.Hide
import Derived.Laws.AppendOwn
import Derived.Outline
import Derived.Sort.Grow
import Derived.Laws.StructEq
import Derived.StillTailTactics
import Derived.Deep.RegionWith
import Derived.Lib.Bytealg
import Derived.WalkSmall
import Derived.Lib.IndexAny
import Derived.Lib.LastIndexByte
import Derived.Laws.RangeString
import Derived.Laws.Strings3
import Derived.WalkMore
import Derived.WalkSpells
import Derived.Deep.Strs
import Derived.SliceStrings
import Derived.ChangeArms
import Derived.OpenShut
import Derived.Test.YtndobphgeiamhaaGreatDoorC01
import Derived.Test.YtndobphgeiamhaaGreatDoorC11
set_option linter.unusedVariables false
namespace Go.Proofs.YtndobphgeiamhaaGreatDoor.H
open Go.ChangeShapes Go.WideShapes Go.ChangeAt Go.RowKit Go.Proofs.YtndobphgeiamhaaGreatDoorW.PrintWords Go.Proofs.YtndobphgeiamhaaGreatDoor.Base Go.Proofs.YtndobphgeiamhaaGreatDoor.Pure
set_option maxRecDepth 100000 in
theorem entry_open {H : Type} {enc : TypeId × Value → H} {W : World} {fuel : Nat} {cs : List Value} {x : DataW H × List MemPlace} (h : DataW.trod enc Tryz.prog W 0 (fun _ => true) true fuel 60 cs = some x) :
    ∃ e pv, cs = (eCells e pv).toList ∧ PathAt W pv e.u.path ∧ WfE e := by
  obtain ⟨xs, n, _, _, hl, hlen, hf⟩ := DataW.trod_struct Tryz.underlying60 h
  have k17 : Tryz.prog.cellsOf 60 = 17 := by kernel_rfl
  have kS : Tryz.prog.cellsOf 9 = 1 := by kernel_rfl
  have kI : Tryz.prog.cellsOf 3 = 1 := by kernel_rfl
  have kU : Tryz.prog.cellsOf 26 = 13 := by kernel_rfl
  obtain ⟨c0, c1, c2, c3, c4, c5, c6, c7, c8, c9, c10, c11, c12, c13, c14, c15, c16, rfl⟩ : ∃ c0 c1 c2 c3 c4 c5 c6 c7 c8 c9 c10 c11 c12 c13 c14 c15 c16, cs = [c0, c1, c2, c3, c4, c5, c6, c7, c8, c9, c10, c11, c12, c13, c14, c15, c16] := by
    match cs, hl.trans k17 with
    | [c0, c1, c2, c3, c4, c5, c6, c7, c8, c9, c10, c11, c12, c13, c14, c15, c16], _ => exact ⟨_, _, _, _, _, _, _, _, _, _, _, _, _, _, _, _, _, rfl⟩
  obtain ⟨y0, y1, y2, y3, y4, rfl⟩ : ∃ y0 y1 y2 y3 y4, xs = [y0, y1, y2, y3, y4] := by
    match xs, hlen with
    | [y0, y1, y2, y3, y4], _ => exact ⟨_, _, _, _, _, rfl⟩
  have g0 : DataW.trod enc Tryz.prog W 0 (fun _ => true) true n 3 [c0] = some y0 := by simpa [kI] using hf 0 _ rfl
  have g1 : DataW.trod enc Tryz.prog W 0 (fun _ => true) true n 26 [c1, c2, c3, c4, c5, c6, c7, c8, c9, c10, c11, c12, c13] = some y1 := by simpa [kU] using hf 1 _ rfl
  have g2 : DataW.trod enc Tryz.prog W 0 (fun _ => true) true n 3 [c14] = some y2 := by simpa [kI] using hf 2 _ rfl
  have g3 : DataW.trod enc Tryz.prog W 0 (fun _ => true) true n 3 [c15] = some y3 := by simpa [kI] using hf 3 _ rfl
  have g4 : DataW.trod enc Tryz.prog W 0 (fun _ => true) true n 9 [c16] = some y4 := by simpa [kS] using hf 4 _ rfl
  obtain ⟨n0, rfl, _, _⟩ := int_open g0
  obtain ⟨u, pv, he, hP, hu⟩ := url_open g1
  obtain ⟨n2, rfl, _, _⟩ := int_open g2
  obtain ⟨n3, rfl, _, _⟩ := int_open g3
  obtain ⟨s4, rfl, l4⟩ := text_open g4
  refine ⟨⟨n0, u, n2, n3, s4⟩, pv, ?_, hP, ⟨hu, l4⟩⟩
  show _ :: ([c1, c2, c3, c4, c5, c6, c7, c8, c9, c10, c11, c12, c13] ++ _) = _
  rw [he]
  rfl
set_option maxRecDepth 100000 in
theorem entries_open {H : Type} {enc : TypeId × Value → H} {W : World} {fuel : Nat} {c : Value} {x : DataW H × List MemPlace} (h : DataW.trod enc Tryz.prog W 0 (fun _ => true) true fuel 39 [c] = some x) :
    ∃ es, RowE W c es ∧ es.length ≤ 9223372036854775807 ∧ ∀ e ∈ es, WfE e := by
  have hml := maxLen_le
  rcases DataW.trod_slice Tryz.underlying39 h with ⟨hcs, _⟩ | ⟨a, len, cap, elems, rest, n, _, hcs, _, _, hl, hm, hlen, hel, _, _⟩
  · obtain rfl : c = .slice none 0 0 := by simpa using hcs
    exact ⟨[], ⟨none, 0, rfl, Nat.le_refl _, fun k hk => absurd hk (by simp)⟩, by simp, fun s h => by cases h⟩
  · obtain rfl : c = .slice (some a) len cap := by simpa using hcs
    have k17 : Tryz.prog.cellsOf 60 = 17 := by kernel_rfl
    have each : ∀ i, i < len → ∃ e pv, PathAt W pv e.u.path ∧ WfE e ∧ ∀ j y, (eCells e pv)[j]? = some y → W.cell? (a.add (i * 17 + j)) = some y := by
      intro i hi
      have h := hel i hi
      rw [List.getElem?_eq_getElem (by omega), k17, Option.bind_eq_some_iff] at h
      obtain ⟨cs, hcs, hy⟩ := h
      obtain ⟨e, pv, he, hP, hw⟩ := entry_open hy
      obtain ⟨_, hlen2, hcell⟩ := World.cells?_some hcs
      refine ⟨e, pv, hP, hw, fun j y hj => ?_⟩
      have hj17 : j < 17 := (Array.getElem?_eq_some_iff.1 hj).1
      have g := hcell j (by omega)
      have ha : (a.add (i * 17)).add j = a.add (i * 17 + j) := by
        unfold Addr.add
        by_cases hz : i * 17 = 0
        · rw [if_pos hz, hz, Nat.zero_add]
        · rw [if_neg hz]
          by_cases hj0 : j = 0
          · rw [if_pos hj0, hj0, Nat.add_zero, if_neg hz]
          · rw [if_neg hj0, if_neg (by omega)]; simp; omega
      rw [ha] at g
      rw [g]
      have e2 : cs[j]? = some y := by rw [he, ← hj]; simp
      exact e2
    have hf := fun i hi => Classical.choose_spec (each i hi)
    refine ⟨List.ofFn (fun i : Fin len => Classical.choose (each i.1 i.2)), ⟨some a, cap, by simp, by simpa using hl, fun k hk => ?_⟩, by rw [List.length_ofFn]; omega, fun e he => ?_⟩
    · have hk' : k < len := by simpa using hk
      obtain ⟨pv, h1, _, h3⟩ := hf k hk'
      simp only [List.getElem_ofFn]
      exact ⟨a, pv, rfl, h1, h3⟩
    · obtain ⟨j, hj', hp'⟩ := List.getElem_of_mem he
      have hj : j < len := by simpa using hj'
      rw [List.getElem_ofFn] at hp'
      subst hp'
      obtain ⟨_, _, h2, _⟩ := hf j hj
      exact h2
end Go.Proofs.YtndobphgeiamhaaGreatDoor.H
