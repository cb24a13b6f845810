/- Texts of this claim, joined: LEntXAt. Conditions: each theorem's own. -/
import Derived.Test.YtndobphgeiamhaaGreatDoorA01
import Derived.Test.YtndobphgeiamhaaGreatDoorA02
import Derived.Test.YtndobphgeiamhaaGreatDoorA03
import Derived.Test.YtndobphgeiamhaaGreatDoorA04
import Derived.Test.YtndobphgeiamhaaGreatDoorA05
import Derived.Test.YtndobphgeiamhaaGreatDoorA06
import Derived.Test.YtndobphgeiamhaaGreatDoorA07
import Derived.Test.YtndobphgeiamhaaGreatDoorA08
import Derived.Test.YtndobphgeiamhaaGreatDoorA09
import Derived.Test.YtndobphgeiamhaaGreatDoorA10
import Derived.Test.YtndobphgeiamhaaGreatDoorA11
import Derived.Test.YtndobphgeiamhaaGreatDoorA12
import Derived.Test.YtndobphgeiamhaaGreatDoorA13
import Derived.Test.YtndobphgeiamhaaGreatDoorA14
import Derived.Test.YtndobphgeiamhaaGreatDoorA15
import Derived.Test.YtndobphgeiamhaaGreatDoorA16
import Derived.Test.YtndobphgeiamhaaGreatDoorA17
import Derived.Below
import Derived.Deep.Draws
import Derived.Deep.AppendLies
import Derived.Maps.AppendAt
import Derived.OwnWalk
import Derived.Laws.BytesArg
import Derived.Laws.MakeOwn
import Derived.Laws.OwnMore
import Derived.Deep.OwnRows
import Derived.Tactics
import Derived.Lib.ConvBytes
import Derived.Laws.Slices
import Derived.WalkKit
import Derived.KernelRfl
import Derived.RowKit3
import Derived.Deep.LoopGhost
import Derived.Deep.QuietTactic
import Derived.BigQuiet
import Derived.WideLaws
import Derived.Deep.DeepCutAuto
import Derived.Deep.CutBlock
import Derived.Deep.RegionHeld3
import Derived.Laws.Rows
import Derived.Lib.AppendStr
import Derived.ArgAppend
import Derived.Laws.IdiomCopy
import Derived.RowKit
import Derived.OrdersHeld
import Derived.Laws.BitsLemmas
import Derived.Lib.Strings
import Derived.Lib.SmallJoins
import Derived.Lib.LaidTab
import Derived.Lib.ItoaNum
import Derived.SizedLaws
import Derived.Handed
import Derived.LaidMore
import Derived.Stop.Joined
import Derived.Lib.Slices
import Derived.Lib.Walk
import Derived.Lib.Builder
import Derived.Lib.UnsafeStr
import Derived.Lib.MakeNoZero
import Derived.Laws.Externs
import Derived.Shelf.RegionOpenPlain
import Derived.Lib.Split
import Derived.Lib.Replace
import Derived.Lib.ReplaceLaws
import Derived.Lib.IndexLaws
import Derived.Lib.IndexMore
import Derived.Lib.CountLaws
import Derived.Shelf.Strings.Builder1
import Derived.Shelf.Strings.Builder2
import Derived.Shelf.Strings.OnBuilder
import Derived.Shelf.Small.Utf8
import Derived.Shelf.Small.Strs
import Derived.Shelf.Strconv.Itoa0
import Derived.Shelf.Strconv.Itoa1
import Derived.Shelf.LaysM
import Derived.Shelf.Strconv.Itoa2
import Derived.Shelf.Strconv.Itoa3
import Derived.Shelf.Strings.Search1
import Derived.Shelf.Strings.Search2
import Derived.Shelf.Strings.Search3
import Derived.Shelf.Strings.Cut
import Derived.Shelf.Strings.Count
import Derived.Shelf.Strings.Shaped
import Derived.Shelf.Strings.LastIndex
import Derived.Shelf.Strings.Prefix
import Derived.Shelf.Strings.Split
import Derived.Shelf.Strings.Replace
import Derived.Shelf.Strings.Runes
import Derived.Shelf.Strings.IndexAny
import Derived.Shelf.Strings.AsciiSet
import Derived.Shelf.Strings.IndexAnyAll
import Derived.Shelf.Unicode.DecodeSlow
import Derived.Shelf.Slices.Turned
import Derived.Ground.Names2Prog
import Derived.Shelf.Slices.Clone
import Derived.Lib.SplitLaws
import Derived.Lib.Hide
import Derived.Laws.AppendOwn
import Derived.Outline
import Derived.Sort.Grow
import Derived.Laws.StructEq
import Derived.StillTailTactics
import Derived.Deep.RegionWith
import Derived.Lib.Bytealg
import Derived.WalkSmall
import Derived.Lib.IndexAny
import Derived.Lib.LastIndexByte
import Derived.Laws.RangeString
import Derived.Laws.Strings3
import Derived.WalkMore
import Derived.WalkSpells
import Derived.Deep.Strs
import Derived.SliceStrings
import Derived.ChangeArms
import Derived.OpenShut
import Derived.Test.YtndobphgeiamhaaGreatDoorC01
import Derived.Test.YtndobphgeiamhaaGreatDoorC09
import Derived.Test.YtndobphgeiamhaaGreatDoorC10
import Derived.Test.YtndobphgeiamhaaGreatDoorC11
set_option linter.unusedVariables false
namespace Go.Proofs.YtndobphgeiamhaaGreatDoor.H
open Go.RowKit Go.Proofs.YtndobphgeiamhaaGreatDoorW.PrintWords Go.Proofs.YtndobphgeiamhaaGreatDoor.Base Go.Proofs.YtndobphgeiamhaaGreatDoor.Pure
set_option maxHeartbeats 4000000 in
set_option maxRecDepth 100000 in
theorem FnExactHistAt_walk (v : Value) (es : List En) (n : Int) (w : World) (hR : RowE w v es) (hl : ∀ x ∈ es, WfE x) (hm : es.length ≤ 9223372036854775807) (wn : (Lit.int .i64 n).wf = true) (hT : Tabs w) :
    Calls Tryz.prog 8 #[v, .int .i64 n] w fun e w' => e = .returned (.bool true) ∧ Below w.heap.size w w' := by
  have HZ := Lib.hid (szEntryS_walk v es 1048576 w hR hl hm (by omega) (by omega))
  by_cases hz : ((es.length + sumE es : Nat) : Int) ≤ 1048576
  · have hs : szEsV es 1048576 = 1048576 - ((es.length + sumE es : Nat) : Int) := if_pos hz
    have hn : es.length ≤ 1048576 := by omega
    have hf : ∀ x ∈ es, FitP x.u := fun x hx => by
      obtain ⟨k, hk, rfl⟩ := List.mem_iff_getElem.1 hx
      have := sumE_le es k hk
      have h2 : szE es[k] = szU (es[k]).u + (es[k]).st.length := rfl
      exact fit_of_sz _ (hl _ hx).u (by omega)
    have hp : ∀ x ∈ es, x.u.path.length ≤ 1048576 := fun x hx => (hf x hx).fit.pl
    have HTO := Lib.hid fun w1 (hb : Below w.heap.size w w1) => toEntryS_walk v es w1 (hR.below hb) hp hn
    have HSP := Lib.hid fun q w1 (hQ : RowE w1 q es) => specHistAt_walk q es n w1 hQ hf hn
    have HIM := Lib.hid fun q w1 (hQ : RowE w1 q es) (hb : Below w.heap.size w w1) => implHistAt_walk q es n w1 hQ hf hn (hT.below hb)
    have HEQ := Lib.hid fun p q w1 (hP : RowE w1 p es) (hQ : RowE w1 q es) => eqEntryS_walk p q es w1 hP hQ hp hn
    rw [hs] at HZ
    have hd : decide (1048576 - ((es.length + sumE es : Nat) : Int) < 0) = false := decide_eq_false (by omega)
    generalize 1048576 - ((es.length + sumE es : Nat) : Int) = m at HZ hd
    generalize histAtV es n = z at HSP HIM
    have hz1 : (z == z) = true := beq_self_eq_true z
    have hz2 : (z != z) = false := by rw [bne, hz1]; rfl
    clear hs hz hn hf hp hR hl hm hT
    go_enter Tryz.func8, Tryz.ntmps8
    go_wp2_with fail
    refine HZ.out.mono ?_
    rintro e w2 ⟨rfl, hb2⟩
    have HW2 := Lib.hid hb2
    clear hb2
    go_wp2_with fail
    refine (HTO.out _ HW2.out).mono ?_
    rintro e w3 ⟨q1, rfl, hQ1, hb3⟩
    have HW3 := Lib.hid (below_then HW2.out HW2.out.size hb3)
    clear hb3
    go_wp2_with fail
    refine (HSP.out _ _ hQ1).mono ?_
    rintro e w4 ⟨rfl, hb4⟩
    have HW4 := Lib.hid (below_then HW3.out HW3.out.size hb4)
    clear hb4 hQ1
    go_wp2_with fail
    refine (HTO.out _ HW4.out).mono ?_
    rintro e w5 ⟨q2, rfl, hQ2, hb5⟩
    have HW5 := Lib.hid (below_then HW4.out HW4.out.size hb5)
    clear hb5
    go_wp2_with fail
    refine (HIM.out _ _ hQ2 HW5.out).mono ?_
    rintro e w6 ⟨rfl, hb6⟩
    have HW6 := Lib.hid (below_then HW5.out HW5.out.size hb6)
    have hQ6 := hQ2.below hb6
    clear hb6 hQ2
    go_wp2_with fail
    refine (HTO.out _ HW6.out).mono ?_
    rintro e w7 ⟨q3, rfl, hQ3, hb7⟩
    have HW7 := Lib.hid (below_then HW6.out HW6.out.size hb7)
    have hQ7 := hQ6.below hb7
    clear hb7 hQ6
    go_wp2_with fail
    refine (HEQ.out _ _ _ hQ7 hQ3).mono ?_
    rintro e w8 ⟨rfl, hb8⟩
    have HW8 := Lib.hid (below_then HW7.out HW7.out.size hb8)
    clear hb8 hQ7 hQ3
    go_wp2
    go_ret
    exact ⟨rfl, HW8.out⟩
  · have hs : szEsV es 1048576 = -1 := if_neg hz
    rw [hs] at HZ
    clear hs hz hR hl hm hT
    go_enter Tryz.func8, Tryz.ntmps8
    go_wp2_with fail
    refine HZ.out.mono ?_
    rintro e w2 ⟨rfl, hb2⟩
    have HW2 := Lib.hid hb2
    clear hb2
    go_wp2
    go_ret
    exact ⟨rfl, HW2.out⟩
end Go.Proofs.YtndobphgeiamhaaGreatDoor.H
