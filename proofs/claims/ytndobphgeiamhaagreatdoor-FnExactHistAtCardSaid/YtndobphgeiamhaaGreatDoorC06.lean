/- Texts of this claim, joined: HEntP. Conditions: each theorem's own. -/
import Derived.Test.YtndobphgeiamhaaGreatDoorA01
import Derived.Test.YtndobphgeiamhaaGreatDoorA02
import Derived.Test.YtndobphgeiamhaaGreatDoorA03
import Derived.Test.YtndobphgeiamhaaGreatDoorA04
import Derived.Test.YtndobphgeiamhaaGreatDoorA05
import Derived.Test.YtndobphgeiamhaaGreatDoorA06
import Derived.Test.YtndobphgeiamhaaGreatDoorA07
import Derived.Test.YtndobphgeiamhaaGreatDoorA08
import Derived.Test.YtndobphgeiamhaaGreatDoorA09
import Derived.Test.YtndobphgeiamhaaGreatDoorA10
import Derived.Test.YtndobphgeiamhaaGreatDoorA11
import Derived.Test.YtndobphgeiamhaaGreatDoorA12
import Derived.Test.YtndobphgeiamhaaGreatDoorA13
import Derived.Test.YtndobphgeiamhaaGreatDoorA14
import Derived.Test.YtndobphgeiamhaaGreatDoorA15
import Derived.Test.YtndobphgeiamhaaGreatDoorA16
import Derived.Test.YtndobphgeiamhaaGreatDoorA17
import Derived.Below
import Derived.Deep.Draws
import Derived.Deep.AppendLies
import Derived.Maps.AppendAt
import Derived.OwnWalk
import Derived.Laws.BytesArg
import Derived.Laws.MakeOwn
import Derived.Laws.OwnMore
import Derived.Deep.OwnRows
import Derived.Tactics
import Derived.Lib.ConvBytes
import Derived.Laws.Slices
import Derived.WalkKit
import Derived.KernelRfl
import Derived.RowKit3
import Derived.Deep.LoopGhost
import Derived.Deep.QuietTactic
import Derived.BigQuiet
import Derived.WideLaws
import Derived.Deep.DeepCutAuto
import Derived.Deep.CutBlock
import Derived.Deep.RegionHeld3
import Derived.Laws.Rows
import Derived.Lib.AppendStr
import Derived.ArgAppend
import Derived.Laws.IdiomCopy
import Derived.RowKit
import Derived.OrdersHeld
import Derived.Laws.BitsLemmas
import Derived.Lib.Strings
import Derived.Lib.SmallJoins
import Derived.Lib.LaidTab
import Derived.Lib.ItoaNum
import Derived.SizedLaws
import Derived.Handed
import Derived.LaidMore
import Derived.Stop.Joined
import Derived.Lib.Slices
import Derived.Lib.Walk
import Derived.Lib.Builder
import Derived.Lib.UnsafeStr
import Derived.Lib.MakeNoZero
import Derived.Laws.Externs
import Derived.Shelf.RegionOpenPlain
import Derived.Lib.Split
import Derived.Lib.Replace
import Derived.Lib.ReplaceLaws
import Derived.Lib.IndexLaws
import Derived.Lib.IndexMore
import Derived.Lib.CountLaws
import Derived.Shelf.Strings.Builder1
import Derived.Shelf.Strings.Builder2
import Derived.Shelf.Strings.OnBuilder
import Derived.Shelf.Small.Utf8
import Derived.Shelf.Small.Strs
import Derived.Shelf.Strconv.Itoa0
import Derived.Shelf.Strconv.Itoa1
import Derived.Shelf.LaysM
import Derived.Shelf.Strconv.Itoa2
import Derived.Shelf.Strconv.Itoa3
import Derived.Shelf.Strings.Search1
import Derived.Shelf.Strings.Search2
import Derived.Shelf.Strings.Search3
import Derived.Shelf.Strings.Cut
import Derived.Shelf.Strings.Count
import Derived.Shelf.Strings.Shaped
import Derived.Shelf.Strings.LastIndex
import Derived.Shelf.Strings.Prefix
import Derived.Shelf.Strings.Split
import Derived.Shelf.Strings.Replace
import Derived.Shelf.Strings.Runes
import Derived.Shelf.Strings.IndexAny
import Derived.Shelf.Strings.AsciiSet
import Derived.Shelf.Strings.IndexAnyAll
import Derived.Shelf.Unicode.DecodeSlow
import Derived.Shelf.Slices.Turned
import Derived.Ground.Names2Prog
import Derived.Shelf.Slices.Clone
import Derived.Lib.SplitLaws
import Derived.Lib.Hide
import Derived.Laws.AppendOwn
import Derived.Outline
import Derived.Sort.Grow
import Derived.Laws.StructEq
import Derived.StillTailTactics
import Derived.Deep.RegionWith
import Derived.Lib.Bytealg
import Derived.WalkSmall
import Derived.Lib.IndexAny
import Derived.Lib.LastIndexByte
import Derived.Laws.RangeString
import Derived.Laws.Strings3
import Derived.WalkMore
import Derived.WalkSpells
import Derived.Deep.Strs
import Derived.SliceStrings
import Derived.ChangeArms
import Derived.OpenShut
import Derived.Test.YtndobphgeiamhaaGreatDoorC01
import Derived.Test.YtndobphgeiamhaaGreatDoorC05
set_option linter.unusedVariables false
namespace Go.Proofs.YtndobphgeiamhaaGreatDoor.H
open Go.RowKit Go.Proofs.YtndobphgeiamhaaGreatDoorW.PrintWords Go.Proofs.YtndobphgeiamhaaGreatDoor.Base Go.Proofs.YtndobphgeiamhaaGreatDoor.Pure
set_option maxHeartbeats 8000000 in
set_option maxRecDepth 100000 in
theorem implHistOk_walk (v : Value) (es : List En) (w : World) (hR : RowE w v es) (hf : ∀ x ∈ es, FitP x.u) (hn : es.length ≤ 1048576) (hT : Tabs w) :
    Calls Tryz.prog 22 #[v] w fun e w' => e = .returned (.bool (histOkV es)) ∧ Below w.heap.size w w' := by
  have HA := Lib.hid hR
  obtain ⟨A, c, rfl, hc, _⟩ := hR
  obtain ⟨r, HR⟩ : ∃ r, Hid (r = histOkV es) := ⟨_, Lib.hid rfl⟩
  rw [← HR.out]
  have HU := Lib.hid fun (k : Nat) (h : k < es.length) pv w1 (hP : PathAt w1 pv (es[k]).u.path) (hb : Below w.heap.size w w1) => implUrlOk_walk es[k].u pv w1 (hf _ (List.getElem_mem h)) hP (hT.below hb)
  have HK := Lib.hid fun key w1 (hb : Below w.heap.size w w1) => keyAt_walk _ es key w1 (HA.out.below hb) hn
  clear hf hT
  go_enter Tryz.func22, Tryz.ntmps22
  go_wp2
  go_loopw [8, 3] (fun i l wr => ∃ k : Nat, k ≤ es.length ∧ i = .int .i64 k ∧ l = .int .i64 (lastE es k) ∧ (∀ j, j < k → okE es j = true) ∧ Below w.heap.size w wr) (fun i _ _ => es.length - (intOf i).toNat)
  case atStart => exact ⟨0, by omega, rfl, rfl, fun j h => absurd h (by omega), Below.refl _ _⟩
  case round =>
    obtain ⟨k, hk, rfl, rfl, hall, hb⟩ := hrel
    by_cases hlt : k < es.length
    · have HALL := Lib.hid hall
      obtain ⟨ad, pv, e0, hpv, hcell⟩ := (HA.out.below hb).at k hlt
      subst e0
      have i1 : ((k : Int) < (es.length : Int)) := by omega
      have it : ((k : Int)).toNat = k := rfl
      have hlb := lastE_bound (Nat.le_of_lt hlt) hall
      have HOK := Lib.hid (okE_impl hlt hall)
      have HL := Lib.hid (lastE_step hlt)
      obtain ⟨Ap, cp, rfl, _, _⟩ := id hpv
      have HU2 := Lib.hid fun w1 (h1 : Below wr.heap.size wr w1) => HU.out k hlt _ w1 (hpv.below h1) (below_then hb hb.size h1)
      have hwl : IntKind.i64.wrap (lastE es k + 1) = lastE es k + 1 := by rw [IntKind.wrap_i64]; omega
      generalize lastE es k = l0 at HOK hwl hlb ⊢
      have HX : ∃ x, Hid (x = es[k]) := ⟨_, Lib.hid rfl⟩
      obtain ⟨x, HX⟩ := HX
      rw [← HX.out] at hcell HU2 HOK HL
      have H1 := Lib.hid fun w1 => implInV_walk x.step (l0 + 1) 60 w1
      have H3 := Lib.hid fun w1 => implInV_walk x.doc 0 9999 w1
      have H4 := Lib.hid fun w1 => implInV_walk x.key 0 9999 w1
      have H5 := Lib.hid fun w1 h1 => HK.out x.key w1 h1
      have hl : decide ((20 : Int) < ((x.st.length : Nat) : Int)) = !(decide (x.st.length ≤ 20)) := by rw [← decide_not, decide_eq_decide]; omega
      generalize inV x.step (l0 + 1) 60 = b1 at H1 HOK
      generalize okU x.u = b2 at HU2 HOK
      generalize inV x.doc 0 9999 = b3 at H3 HOK
      generalize inV x.key 0 9999 = b4 at H4 HOK
      obtain ⟨b5, HB5⟩ : ∃ b5, Hid ((keyV es x.key == (k : Int)) = b5) := ⟨_, Lib.hid rfl⟩
      rw [HB5.out] at HOK
      generalize keyV es x.key = n5 at H5 HB5
      obtain ⟨b6, HB6⟩ : ∃ b6, Hid (decide (x.st.length ≤ 20) = b6) := ⟨_, Lib.hid rfl⟩
      rw [HB6.out] at HOK hl
      have HB := Lib.hid hb
      have HHL := Lib.hid hl
      have K0 := blk_new wr (.cells #[.int .i64 x.step, .string (B x.u.sch), .string (B x.u.usr), .string (B x.u.pas), .int .i64 x.u.hk, .string (B x.u.hn), .int .i64 x.u.ha, .int .i64 x.u.port, .slice Ap x.u.path.length cp, .string (B x.u.opq), .bool x.u.hq, .string (B x.u.qry), .bool x.u.hf, .string (B x.u.frg), .int .i64 x.doc, .int .i64 x.key, .string (B x.st)] 63)
      have hb0 := (Below.refl wr.heap.size wr).alloc (Nat.le_refl _) (.cells #[.int .i64 x.step, .string (B x.u.sch), .string (B x.u.usr), .string (B x.u.pas), .int .i64 x.u.hk, .string (B x.u.hn), .int .i64 x.u.ha, .int .i64 x.u.port, .slice Ap x.u.path.length cp, .string (B x.u.opq), .bool x.u.hq, .string (B x.u.qry), .bool x.u.hf, .string (B x.u.frg), .int .i64 x.doc, .int .i64 x.key, .string (B x.st)] 63)
      clear hpv hb hall hlb hl
      unfold eCells C17 at hcell
      unfold uCells at HU2
      go_wp2_with fail
      generalize wr.alloc _ = w1 at K0 hb0 ⊢
      have hsz : wr.heap.size = wr.heap.size := rfl
      clear hsz
      have HW1 := Lib.hid hb0
      clear hb0
      generalize wr.heap.size = g at K0 ⊢
      refine (H1.out _).mono ?_
      rintro e w2 ⟨rfl, hb2⟩
      have K2 := blk_below K0 hb2
      have HW2 := Lib.hid (below_then HW1.out HW1.out.size hb2)
      clear K0 hb2 hcell
      cases b1 with
      | false =>
        have HY : Hid (r = false) := Lib.hid (by rw [HR.out]; exact hist_bad k hlt (by rw [HOK.out]; rfl))
        go_wp2
        go_ret
        exact ⟨by rw [HY.out]; rfl, below_then HB.out HB.out.size HW2.out⟩
      | true =>
        have kc := (cells17 K2).1
        go_wp2_with fail
        refine (HU2.out _ HW2.out).mono ?_
        rintro e w3 ⟨rfl, hb3⟩
        have K3 := blk_below K2 hb3
        have HW3 := Lib.hid (below_then HW2.out HW2.out.size hb3)
        clear kc K2 hb3
        cases b2 with
        | false =>
          have HY : Hid (r = false) := Lib.hid (by rw [HR.out]; exact hist_bad k hlt (by rw [HOK.out]; rfl))
          go_wp2
          go_ret
          exact ⟨by rw [HY.out]; rfl, below_then HB.out HB.out.size HW3.out⟩
        | true =>
          have kc := (cells17 K3).1
          go_wp2_with fail
          refine (H3.out _).mono ?_
          rintro e w4 ⟨rfl, hb4⟩
          have K4 := blk_below K3 hb4
          have HW4 := Lib.hid (below_then HW3.out HW3.out.size hb4)
          clear kc K3 hb4
          cases b3 with
          | false =>
            have HY : Hid (r = false) := Lib.hid (by rw [HR.out]; exact hist_bad k hlt (by rw [HOK.out]; rfl))
            go_wp2
            go_ret
            exact ⟨by rw [HY.out]; rfl, below_then HB.out HB.out.size HW4.out⟩
          | true =>
            have kc := (cells17 K4).1
            go_wp2_with fail
            refine (H4.out _).mono ?_
            rintro e w5 ⟨rfl, hb5⟩
            have K5 := blk_below K4 hb5
            have HW5 := Lib.hid (below_then HW4.out HW4.out.size hb5)
            clear kc K4 hb5
            cases b4 with
            | false =>
              have HY : Hid (r = false) := Lib.hid (by rw [HR.out]; exact hist_bad k hlt (by rw [HOK.out]; rfl))
              go_wp2
              go_ret
              exact ⟨by rw [HY.out]; rfl, below_then HB.out HB.out.size HW5.out⟩
            | true =>
              have kc := (cells17 K5).1
              go_wp2_with fail
              refine (H5.out _ (below_then HB.out HB.out.size HW5.out)).mono ?_
              rintro e w6 ⟨rfl, hb6⟩
              have K6 := blk_below K5 hb6
              have HW6 := Lib.hid (below_then HW5.out HW5.out.size hb6)
              clear kc K5 hb6
              cases b5 with
              | false =>
                have hq := HB5.out
                have hq2 : (n5 != (k : Int)) = true := by rw [bne, hq]; rfl
                have HY : Hid (r = false) := Lib.hid (by rw [HR.out]; exact hist_bad k hlt (by rw [HOK.out]; rfl))
                go_wp2
                go_ret
                exact ⟨by rw [HY.out]; rfl, below_then HB.out HB.out.size HW6.out⟩
              | true =>
                have hq := HB5.out
                have hq2 : (n5 != (k : Int)) = false := by rw [bne, hq]; rfl
                have kc := (cells17 K6).1
                cases b6 with
                | false =>
                  have hl := HHL.out
                  rw [Bool.not_false] at hl
                  have HY : Hid (r = false) := Lib.hid (by rw [HR.out]; exact hist_bad k hlt (by rw [HOK.out]; rfl))
                  go_wp2
                  go_ret
                  exact ⟨by rw [HY.out]; rfl, below_then HB.out HB.out.size HW6.out⟩
                | true =>
                  have hl := HHL.out
                  rw [Bool.not_true] at hl
                  have HALL2 : Hid (∀ j, j < k + 1 → okE es j = true) := Lib.hid fun j hj => by
                    by_cases e : j = k
                    · subst e; rw [HOK.out]; rfl
                    · exact HALL.out j (by omega)
                  go_wp2
                  go_roundw
                  case rel => exact ⟨k + 1, by omega, by go_num, by rw [HL.out], HALL2.out, below_then HB.out HB.out.size HW6.out⟩
                  case measure => simp only [intOf]; omega
    · have hn2 : decide ((k : Int) < (es.length : Int)) = false := decide_eq_false (by omega)
      have HX : Hid (r = decide (((es.length : Nat) : Int) ≤ 20)) := Lib.hid (by rw [HR.out, hist_all fun i hi => hall i (by omega), decide_eq_decide]; omega)
      clear hall
      go_wp2
      go_ret
      exact ⟨by rw [HX.out]; rfl, hb⟩
end Go.Proofs.YtndobphgeiamhaaGreatDoor.H
