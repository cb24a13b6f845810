/- Texts of this claim, joined: HEntR. Conditions: each theorem's own. -/
import Derived.Test.YtndobphgeiamhaaGreatDoorA01
import Derived.Test.YtndobphgeiamhaaGreatDoorA02
import Derived.Test.YtndobphgeiamhaaGreatDoorA03
import Derived.Test.YtndobphgeiamhaaGreatDoorA04
import Derived.Test.YtndobphgeiamhaaGreatDoorA05
import Derived.Test.YtndobphgeiamhaaGreatDoorA06
import Derived.Test.YtndobphgeiamhaaGreatDoorA07
import Derived.Test.YtndobphgeiamhaaGreatDoorA08
import Derived.Test.YtndobphgeiamhaaGreatDoorA09
import Derived.Test.YtndobphgeiamhaaGreatDoorA10
import Derived.Test.YtndobphgeiamhaaGreatDoorA11
import Derived.Test.YtndobphgeiamhaaGreatDoorA12
import Derived.Test.YtndobphgeiamhaaGreatDoorA13
import Derived.Test.YtndobphgeiamhaaGreatDoorA14
import Derived.Test.YtndobphgeiamhaaGreatDoorA15
import Derived.Test.YtndobphgeiamhaaGreatDoorA16
import Derived.Test.YtndobphgeiamhaaGreatDoorA17
import Derived.Below
import Derived.Deep.Draws
import Derived.Deep.AppendLies
import Derived.Maps.AppendAt
import Derived.OwnWalk
import Derived.Laws.BytesArg
import Derived.Laws.MakeOwn
import Derived.Laws.OwnMore
import Derived.Deep.OwnRows
import Derived.Tactics
import Derived.Lib.ConvBytes
import Derived.Laws.Slices
import Derived.WalkKit
import Derived.KernelRfl
import Derived.RowKit3
import Derived.Deep.LoopGhost
import Derived.Deep.QuietTactic
import Derived.BigQuiet
import Derived.WideLaws
import Derived.Deep.DeepCutAuto
import Derived.Deep.CutBlock
import Derived.Deep.RegionHeld3
import Derived.Laws.Rows
import Derived.Lib.AppendStr
import Derived.ArgAppend
import Derived.Laws.IdiomCopy
import Derived.RowKit
import Derived.OrdersHeld
import Derived.Laws.BitsLemmas
import Derived.Lib.Strings
import Derived.Lib.SmallJoins
import Derived.Lib.LaidTab
import Derived.Lib.ItoaNum
import Derived.SizedLaws
import Derived.Handed
import Derived.LaidMore
import Derived.Stop.Joined
import Derived.Lib.Slices
import Derived.Lib.Walk
import Derived.Lib.Builder
import Derived.Lib.UnsafeStr
import Derived.Lib.MakeNoZero
import Derived.Laws.Externs
import Derived.Shelf.RegionOpenPlain
import Derived.Lib.Split
import Derived.Lib.Replace
import Derived.Lib.ReplaceLaws
import Derived.Lib.IndexLaws
import Derived.Lib.IndexMore
import Derived.Lib.CountLaws
import Derived.Shelf.Strings.Builder1
import Derived.Shelf.Strings.Builder2
import Derived.Shelf.Strings.OnBuilder
import Derived.Shelf.Small.Utf8
import Derived.Shelf.Small.Strs
import Derived.Shelf.Strconv.Itoa0
import Derived.Shelf.Strconv.Itoa1
import Derived.Shelf.LaysM
import Derived.Shelf.Strconv.Itoa2
import Derived.Shelf.Strconv.Itoa3
import Derived.Shelf.Strings.Search1
import Derived.Shelf.Strings.Search2
import Derived.Shelf.Strings.Search3
import Derived.Shelf.Strings.Cut
import Derived.Shelf.Strings.Count
import Derived.Shelf.Strings.Shaped
import Derived.Shelf.Strings.LastIndex
import Derived.Shelf.Strings.Prefix
import Derived.Shelf.Strings.Split
import Derived.Shelf.Strings.Replace
import Derived.Shelf.Strings.Runes
import Derived.Shelf.Strings.IndexAny
import Derived.Shelf.Strings.AsciiSet
import Derived.Shelf.Strings.IndexAnyAll
import Derived.Shelf.Unicode.DecodeSlow
import Derived.Shelf.Slices.Turned
import Derived.Ground.Names2Prog
import Derived.Shelf.Slices.Clone
import Derived.Lib.SplitLaws
import Derived.Lib.Hide
import Derived.Laws.AppendOwn
import Derived.Outline
import Derived.Sort.Grow
import Derived.Laws.StructEq
import Derived.StillTailTactics
import Derived.Deep.RegionWith
import Derived.Lib.Bytealg
import Derived.WalkSmall
import Derived.Lib.IndexAny
import Derived.Lib.LastIndexByte
import Derived.Laws.RangeString
import Derived.Laws.Strings3
import Derived.WalkMore
import Derived.WalkSpells
import Derived.Deep.Strs
import Derived.SliceStrings
import Derived.ChangeArms
import Derived.OpenShut
import Derived.Test.YtndobphgeiamhaaGreatDoorC01
import Derived.Test.YtndobphgeiamhaaGreatDoorC06
import Derived.Test.YtndobphgeiamhaaGreatDoorC08
set_option linter.unusedVariables false
namespace Go.Proofs.YtndobphgeiamhaaGreatDoor.H
open Go.RowKit Go.Proofs.YtndobphgeiamhaaGreatDoorW.PrintWords Go.Proofs.YtndobphgeiamhaaGreatDoor.Base Go.Proofs.YtndobphgeiamhaaGreatDoor.Pure
def histAtV (es : List En) (s : Int) : Int := if histOkV es = true then atE es s es.length else -1
def histKeyV (es : List En) (k : Int) : Int := if histOkV es = true then keyV es k else -1
set_option maxRecDepth 100000 in
theorem specHistAt_walk (v : Value) (es : List En) (s : Int) (w : World) (hR : RowE w v es) (hf : ∀ x ∈ es, FitP x.u) (hn : es.length ≤ 1048576) :
    Calls Tryz.prog 26 #[v, .int .i64 s] w fun e w' => e = .returned (.int .i64 (histAtV es s)) ∧ Below w.heap.size w w' := by
  have HO := Lib.hid (specHistOk_walk v es w hR hf hn)
  have HA := Lib.hid fun w1 (hb : Below w.heap.size w w1) => l5At_walk v es s w1 (hR.below hb) hn
  unfold histAtV
  generalize histOkV es = b at HO ⊢
  clear hR hf
  go_enter Tryz.func26, Tryz.ntmps26
  go_wp2_with fail
  refine HO.out.mono ?_
  rintro e w2 ⟨rfl, hb2⟩
  have HB2 := Lib.hid hb2
  clear hb2
  cases b with
  | false =>
    go_wp2
    go_ret
    exact ⟨rfl, HB2.out⟩
  | true =>
    go_wp2_with fail
    refine (HA.out _ HB2.out).mono ?_
    rintro e w3 ⟨rfl, hb3⟩
    have HB3 := Lib.hid (below_then HB2.out HB2.out.size hb3)
    clear hb3
    go_wp2
    go_ret
    exact ⟨rfl, HB3.out⟩
set_option maxRecDepth 100000 in
theorem implHistAt_walk (v : Value) (es : List En) (s : Int) (w : World) (hR : RowE w v es) (hf : ∀ x ∈ es, FitP x.u) (hn : es.length ≤ 1048576) (hT : Tabs w) :
    Calls Tryz.prog 27 #[v, .int .i64 s] w fun e w' => e = .returned (.int .i64 (histAtV es s)) ∧ Below w.heap.size w w' := by
  have HO := Lib.hid (implHistOk_walk v es w hR hf hn hT)
  have HA := Lib.hid fun w1 (hb : Below w.heap.size w w1) => histAt_walk v es s w1 (hR.below hb) hn
  unfold histAtV
  generalize histOkV es = b at HO ⊢
  clear hR hf hT
  go_enter Tryz.func27, Tryz.ntmps27
  go_wp2_with fail
  refine HO.out.mono ?_
  rintro e w2 ⟨rfl, hb2⟩
  have HB2 := Lib.hid hb2
  clear hb2
  cases b with
  | false =>
    go_wp2
    go_ret
    exact ⟨rfl, HB2.out⟩
  | true =>
    go_wp2_with fail
    refine (HA.out _ HB2.out).mono ?_
    rintro e w3 ⟨rfl, hb3⟩
    have HB3 := Lib.hid (below_then HB2.out HB2.out.size hb3)
    clear hb3
    go_wp2
    go_ret
    exact ⟨rfl, HB3.out⟩
set_option maxRecDepth 100000 in
theorem implHistKey_walk (v : Value) (es : List En) (s : Int) (w : World) (hR : RowE w v es) (hf : ∀ x ∈ es, FitP x.u) (hn : es.length ≤ 1048576) (hT : Tabs w) :
    Calls Tryz.prog 25 #[v, .int .i64 s] w fun e w' => e = .returned (.int .i64 (histKeyV es s)) ∧ Below w.heap.size w w' := by
  have HO := Lib.hid (implHistOk_walk v es w hR hf hn hT)
  have HA := Lib.hid fun w1 (hb : Below w.heap.size w w1) => keyAt_walk v es s w1 (hR.below hb) hn
  unfold histKeyV
  generalize histOkV es = b at HO ⊢
  clear hR hf hT
  go_enter Tryz.func25, Tryz.ntmps25
  go_wp2_with fail
  refine HO.out.mono ?_
  rintro e w2 ⟨rfl, hb2⟩
  have HB2 := Lib.hid hb2
  clear hb2
  cases b with
  | false =>
    go_wp2
    go_ret
    exact ⟨rfl, HB2.out⟩
  | true =>
    go_wp2_with fail
    refine (HA.out _ HB2.out).mono ?_
    rintro e w3 ⟨rfl, hb3⟩
    have HB3 := Lib.hid (below_then HB2.out HB2.out.size hb3)
    clear hb3
    go_wp2
    go_ret
    exact ⟨rfl, HB3.out⟩
set_option maxHeartbeats 2000000 in
set_option maxRecDepth 100000 in
theorem specHistKey_walk (v : Value) (es : List En) (s : Int) (w : World) (hR : RowE w v es) (hf : ∀ x ∈ es, FitP x.u) (hn : es.length ≤ 1048576) :
    Calls Tryz.prog 24 #[v, .int .i64 s] w fun e w' => e = .returned (.int .i64 (histKeyV es s)) ∧ Below w.heap.size w w' := by
  have HA := Lib.hid hR
  have HO := Lib.hid fun w1 (hb : Below w.heap.size w w1) => specHistOk_walk _ es w1 (HA.out.below hb) hf hn
  obtain ⟨A, c, rfl, hc, _⟩ := hR
  obtain ⟨r, HR⟩ : ∃ r, Hid (r = histKeyV es s) := ⟨_, Lib.hid rfl⟩
  rw [← HR.out]
  have HV : Hid (histKeyV es s = if histOkV es = true then keyV es s else -1) := Lib.hid rfl
  generalize histOkV es = b at HO HV
  clear hf
  go_enter Tryz.func24, Tryz.ntmps24
  go_wp2
  go_loopw [5] (fun i wr => ∃ k : Nat, k ≤ es.length ∧ i = .int .i64 k ∧ (∀ j (q : j < es.length), j < k → ¬ es[j].key = s) ∧ Below w.heap.size w wr) (fun i _ => es.length - (intOf i).toNat)
  case atStart => exact ⟨0, by omega, rfl, fun j _ h => absurd h (by omega), Below.refl _ _⟩
  case round =>
    obtain ⟨k, hk, rfl, hne, hb⟩ := hrel
    have HN := Lib.hid hne
    have HB := Lib.hid hb
    clear hne hb
    by_cases hlt : k < es.length
    · have i1 : ((k : Int) < (es.length : Int)) := by omega
      have it : ((k : Int)).toNat = k := rfl
      go_wp2_with fail
      refine (HO.out _ HB.out).mono ?_
      rintro e w2 ⟨rfl, hb2⟩
      have HB2 := Lib.hid (below_then HB.out HB.out.size hb2)
      clear hb2
      cases b with
      | false =>
        have HY : Hid (r = -1) := Lib.hid (by rw [HR.out, HV.out]; rfl)
        go_wp2
        go_ret
        exact ⟨by rw [HY.out]; rfl, HB2.out⟩
      | true =>
        obtain ⟨ad, e0, _, _, hck⟩ := (HA.out.below HB2.out).cell k hlt
        subst e0
        have HX : ∃ x, Hid (x = es[k].key) := ⟨_, Lib.hid rfl⟩
        obtain ⟨x, HX⟩ := HX
        rw [← HX.out] at hck
        obtain ⟨q, HQ⟩ : ∃ q, Hid ((x == s) = q) := ⟨_, Lib.hid rfl⟩
        cases q with
        | true =>
          have hq := HQ.out
          have HY : Hid (r = (k : Int)) := Lib.hid (by rw [HR.out, HV.out, if_pos rfl]; exact keyV_some k hlt (by rw [← HX.out]; exact eq_of_beq HQ.out) HN.out)
          go_wp2
          go_ret
          exact ⟨by rw [HY.out]; rfl, HB2.out⟩
        | false =>
          have hq := HQ.out
          have HN2 : Hid (∀ j (q : j < es.length), j < k + 1 → ¬ es[j].key = s) := Lib.hid fun j q hj => by
            by_cases e : j = k
            · subst e; rw [← HX.out]; exact beq_eq_false_iff_ne.1 HQ.out
            · exact HN.out j q (by omega)
          go_wp2
          go_roundw
          case rel => exact ⟨k + 1, by omega, by go_num, HN2.out, HB2.out⟩
          case measure => simp only [intOf]; omega
    · have hn2 : decide ((k : Int) < (es.length : Int)) = false := decide_eq_false (by omega)
      have HY : Hid (r = -1) := Lib.hid (by
        rw [HR.out, HV.out, keyV_none fun j q => HN.out j q (by omega)]
        split <;> rfl)
      go_wp2
      go_ret
      exact ⟨by rw [HY.out]; rfl, HB.out⟩
end Go.Proofs.YtndobphgeiamhaaGreatDoor.H
