/- Texts of this claim, joined: HEntO. Conditions: each theorem's own. -/
import Derived.Test.YtndobphgeiamhaaGreatDoorA01
import Derived.Test.YtndobphgeiamhaaGreatDoorA02
import Derived.Test.YtndobphgeiamhaaGreatDoorA03
import Derived.Test.YtndobphgeiamhaaGreatDoorA04
import Derived.Test.YtndobphgeiamhaaGreatDoorA05
import Derived.Test.YtndobphgeiamhaaGreatDoorA06
import Derived.Test.YtndobphgeiamhaaGreatDoorA07
import Derived.Test.YtndobphgeiamhaaGreatDoorA08
import Derived.Test.YtndobphgeiamhaaGreatDoorA09
import Derived.Test.YtndobphgeiamhaaGreatDoorA10
import Derived.Test.YtndobphgeiamhaaGreatDoorA11
import Derived.Test.YtndobphgeiamhaaGreatDoorA12
import Derived.Test.YtndobphgeiamhaaGreatDoorA13
import Derived.Test.YtndobphgeiamhaaGreatDoorA14
import Derived.Test.YtndobphgeiamhaaGreatDoorA15
import Derived.Test.YtndobphgeiamhaaGreatDoorA16
import Derived.Test.YtndobphgeiamhaaGreatDoorA17
import Derived.Below
import Derived.Deep.Draws
import Derived.Deep.AppendLies
import Derived.Maps.AppendAt
import Derived.OwnWalk
import Derived.Laws.BytesArg
import Derived.Laws.MakeOwn
import Derived.Laws.OwnMore
import Derived.Deep.OwnRows
import Derived.Tactics
import Derived.Lib.ConvBytes
import Derived.Laws.Slices
import Derived.WalkKit
import Derived.KernelRfl
import Derived.RowKit3
import Derived.Deep.LoopGhost
import Derived.Deep.QuietTactic
import Derived.BigQuiet
import Derived.WideLaws
import Derived.Deep.DeepCutAuto
import Derived.Deep.CutBlock
import Derived.Deep.RegionHeld3
import Derived.Laws.Rows
import Derived.Lib.AppendStr
import Derived.ArgAppend
import Derived.Laws.IdiomCopy
import Derived.RowKit
import Derived.OrdersHeld
import Derived.Laws.BitsLemmas
import Derived.Lib.Strings
import Derived.Lib.SmallJoins
import Derived.Lib.LaidTab
import Derived.Lib.ItoaNum
import Derived.SizedLaws
import Derived.Handed
import Derived.LaidMore
import Derived.Stop.Joined
import Derived.Lib.Slices
import Derived.Lib.Walk
import Derived.Lib.Builder
import Derived.Lib.UnsafeStr
import Derived.Lib.MakeNoZero
import Derived.Laws.Externs
import Derived.Shelf.RegionOpenPlain
import Derived.Lib.Split
import Derived.Lib.Replace
import Derived.Lib.ReplaceLaws
import Derived.Lib.IndexLaws
import Derived.Lib.IndexMore
import Derived.Lib.CountLaws
import Derived.Shelf.Strings.Builder1
import Derived.Shelf.Strings.Builder2
import Derived.Shelf.Strings.OnBuilder
import Derived.Shelf.Small.Utf8
import Derived.Shelf.Small.Strs
import Derived.Shelf.Strconv.Itoa0
import Derived.Shelf.Strconv.Itoa1
import Derived.Shelf.LaysM
import Derived.Shelf.Strconv.Itoa2
import Derived.Shelf.Strconv.Itoa3
import Derived.Shelf.Strings.Search1
import Derived.Shelf.Strings.Search2
import Derived.Shelf.Strings.Search3
import Derived.Shelf.Strings.Cut
import Derived.Shelf.Strings.Count
import Derived.Shelf.Strings.Shaped
import Derived.Shelf.Strings.LastIndex
import Derived.Shelf.Strings.Prefix
import Derived.Shelf.Strings.Split
import Derived.Shelf.Strings.Replace
import Derived.Shelf.Strings.Runes
import Derived.Shelf.Strings.IndexAny
import Derived.Shelf.Strings.AsciiSet
import Derived.Shelf.Strings.IndexAnyAll
import Derived.Shelf.Unicode.DecodeSlow
import Derived.Shelf.Slices.Turned
import Derived.Ground.Names2Prog
import Derived.Shelf.Slices.Clone
import Derived.Lib.SplitLaws
import Derived.Lib.Hide
import Derived.Laws.AppendOwn
import Derived.Outline
import Derived.Sort.Grow
import Derived.Laws.StructEq
import Derived.StillTailTactics
import Derived.Deep.RegionWith
import Derived.Lib.Bytealg
import Derived.WalkSmall
import Derived.Lib.IndexAny
import Derived.Lib.LastIndexByte
import Derived.Laws.RangeString
import Derived.Laws.Strings3
import Derived.WalkMore
import Derived.WalkSpells
import Derived.Deep.Strs
import Derived.SliceStrings
import Derived.ChangeArms
import Derived.OpenShut
import Derived.Test.YtndobphgeiamhaaGreatDoorC01
import Derived.Test.YtndobphgeiamhaaGreatDoorC05
import Derived.Test.YtndobphgeiamhaaGreatDoorC07
set_option linter.unusedVariables false
namespace Go.Proofs.YtndobphgeiamhaaGreatDoor.H
open Go.RowKit Go.Proofs.YtndobphgeiamhaaGreatDoorW.PrintWords Go.Proofs.YtndobphgeiamhaaGreatDoor.Base Go.Proofs.YtndobphgeiamhaaGreatDoor.Pure
theorem C17.later {w w1 : World} {a : Addr} {x : En} {pv : Value} (h : C17 w a (eCells x pv)) (hb : Below w.heap.size w w1) : C17 w1 a (eCells x pv) := by
  obtain ⟨h0, h1, h2, h3, h4, h5, h6, h7, h8, h9, h10, h11, h12, h13, h14, h15, h16⟩ := h
  exact ⟨cell_later hb h0, cell_later hb h1, cell_later hb h2, cell_later hb h3, cell_later hb h4, cell_later hb h5, cell_later hb h6, cell_later hb h7, cell_later hb h8, cell_later hb h9, cell_later hb h10, cell_later hb h11, cell_later hb h12, cell_later hb h13, cell_later hb h14, cell_later hb h15, cell_later hb h16⟩
set_option maxHeartbeats 8000000 in
set_option maxRecDepth 100000 in
theorem specHistOk_walk (v : Value) (es : List En) (w : World) (hR : RowE w v es) (hf : ∀ x ∈ es, FitP x.u) (hn : es.length ≤ 1048576) :
    Calls Tryz.prog 20 #[v] w fun e w' => e = .returned (.bool (histOkV es)) ∧ Below w.heap.size w w' := by
  have HA := Lib.hid hR
  obtain ⟨A, c, rfl, hc, _⟩ := hR
  obtain ⟨r, HR⟩ : ∃ r, Hid (r = histOkV es) := ⟨_, Lib.hid rfl⟩
  rw [← HR.out]
  have HO := Lib.hid fun (k : Nat) (h : k < es.length) pv w1 (hP : PathAt w1 pv (es[k]).u.path) => specOne_walk es[k] pv w1 (hf _ (List.getElem_mem h)) hP
  clear hf
  go_enter Tryz.func20, Tryz.ntmps20
  go_wp2
  go_loopw [3] (fun i wr => ∃ k : Nat, k ≤ es.length ∧ i = .int .i64 k ∧ (∀ j, j < k → okE es j = true) ∧ Below w.heap.size w wr) (fun i _ => es.length - (intOf i).toNat)
  case atStart => exact ⟨0, by omega, rfl, fun j h => absurd h (by omega), Below.refl _ _⟩
  case round =>
    obtain ⟨k, hk, rfl, hall, hb⟩ := hrel
    by_cases hlt : k < es.length
    · have HALL := Lib.hid hall
      obtain ⟨ad, pv, e0, hpv, hcell⟩ := (HA.out.below hb).at k hlt
      subst e0
      have i1 : ((k : Int) < (es.length : Int)) := by omega
      have it : ((k : Int)).toNat = k := rfl
      have HC := Lib.hid fun w1 (h1 : Below wr.heap.size wr w1) => HO.out k hlt pv w1 (hpv.below h1)
      have HOK := Lib.hid (okE_at hlt)
      have HX : ∃ x, Hid (x = es[k]) := ⟨_, Lib.hid rfl⟩
      obtain ⟨x, HX⟩ := HX
      rw [← HX.out] at hcell HC HOK
      have HCL := Lib.hid fun w1 (h1 : Below wr.heap.size wr w1) => hcell.later h1
      have HB := Lib.hid hb
      clear hpv hb hall hcell
      unfold eCells C17 at HCL
      unfold eCells at HC
      obtain ⟨b, HBV⟩ : ∃ b, Hid (oneV x = b) := ⟨_, Lib.hid rfl⟩
      rw [HBV.out] at HC HOK
      obtain ⟨q, HQV⟩ : ∃ q, Hid (decide (stepE es (k - 1) < stepE es k) = q) := ⟨_, Lib.hid rfl⟩
      rw [HQV.out] at HOK
      obtain ⟨cc, HCV⟩ : ∃ cc, Hid ((b && (decide (k = 0) || q)) = cc) := ⟨_, Lib.hid rfl⟩
      obtain ⟨dd, HDD⟩ : ∃ dd, Hid (dd = !cc) := ⟨_, Lib.hid rfl⟩
      have HSX := Lib.hid (stepE_at hlt)
      rw [← HX.out] at HSX
      go_upto_if 34 with fail
      go_cut [34] (fun z wc => z = .bool dd ∧ ∃ w2, w2 = wc ∧ Below w.heap.size w w2)
      case first =>
        cases b with
        | false =>
          obtain rfl : cc = false := by rw [← HCV.out]; rfl
          obtain rfl : dd = true := HDD.out
          refine wp_region_below (by kernel_rfl) (by kernel_rfl) ?_
          repeat (with_reducible refine wpQuiet_step (fun K hK => ?_); go_simp; first | (refine hK _ ?_; clear hK K) | (refine ⟨_, fun _ _ => rfl, hK _ ?_⟩; clear hK K) | (rw [if_neg (by decide)]; refine hK _ ?_; clear hK K) | (apply Exists.intro; refine ⟨fun wq hq => ?_, hK _ ?_⟩; (first | (go_at_call 44; refine (HC.out _ hq).mono ?_; rintro e w3 ⟨rfl, hb3⟩; exact ⟨rfl, below_then hq hq.size hb3⟩) | (have kk := HCL.out _ hq; go_simp; with_reducible rfl)); clear hK K))
          with_reducible refine wpQuiet_nil ?_
          intro w2 hb2
          go_wp2
          go_meet
          case rel => exact ⟨rfl, _, rfl, below_then HB.out HB.out.size hb2⟩
        | true =>
          by_cases k0 : k = 0
          · obtain rfl : cc = true := by rw [← HCV.out]; simp [k0]
            have hk0 : decide (0 < (k : Int)) = false := decide_eq_false (by omega)
            have hk1 : decide (0 < k) = false := decide_eq_false (by omega)
            clear k0
            obtain rfl : dd = false := HDD.out
            refine wp_region_below (by kernel_rfl) (by kernel_rfl) ?_
            repeat (with_reducible refine wpQuiet_step (fun K hK => ?_); go_simp; first | (refine hK _ ?_; clear hK K) | (refine ⟨_, fun _ _ => rfl, hK _ ?_⟩; clear hK K) | (rw [if_neg (by decide)]; refine hK _ ?_; clear hK K) | (apply Exists.intro; refine ⟨fun wq hq => ?_, hK _ ?_⟩; (first | (go_at_call 44; refine (HC.out _ hq).mono ?_; rintro e w3 ⟨rfl, hb3⟩; exact ⟨rfl, below_then hq hq.size hb3⟩) | (have kk := HCL.out _ hq; go_simp; with_reducible rfl)); clear hK K))
            with_reducible refine wpQuiet_nil ?_
            intro w2 hb2
            go_wp2
            go_meet
            case rel => exact ⟨rfl, _, rfl, below_then HB.out HB.out.size hb2⟩
          · obtain ⟨m, hm⟩ : ∃ m, k = m + 1 := ⟨k - 1, by omega⟩
            have hml : m < es.length := by omega
            have i2 : ((m : Int) < (es.length : Int)) := by omega
            have it2 : ((m : Int)).toNat = m := rfl
            have hw : IntKind.i64.wrap ((k : Int) - 1) = (m : Int) := by rw [IntKind.wrap_i64]; omega
            have hk0 : decide (0 < (k : Int)) = true := decide_eq_true (by omega)
            have hk1 : decide (0 < k) = true := decide_eq_true (by omega)
            have HSY := Lib.hid (stepE_at hml)
            have hkm : k - 1 = m := by omega
            rw [hkm] at HQV
            obtain rfl : cc = q := by rw [← HCV.out]; simp [k0]
            have hcmp : decide (x.step ≤ es[m].step) = !cc := by
              rw [← HQV.out, HSX.out, HSY.out, ← decide_not, decide_eq_decide]; omega
            have HM := Lib.hid fun w2 (hb : Below w.heap.size w w2) => (HA.out.below hb).cell m hml
            have HK := Lib.hid fun w2 (hb : Below w.heap.size w w2) => (HA.out.below hb).cell k hlt
            rw [← HX.out] at HK
            generalize es[m] = y at hcmp HM
            clear hkm hm k0
            cases cc <;> simp only [Bool.not_true, Bool.not_false] at hcmp
            all_goals
              first | obtain rfl : dd = true := HDD.out | obtain rfl : dd = false := HDD.out
              refine wp_region_below (by kernel_rfl) (by kernel_rfl) ?_
              repeat (with_reducible refine wpQuiet_step (fun K hK => ?_); go_simp; first | (refine hK _ ?_; clear hK K) | (refine ⟨_, fun _ _ => rfl, hK _ ?_⟩; clear hK K) | (rw [if_neg (by decide)]; refine hK _ ?_; clear hK K) | (apply Exists.intro; refine ⟨fun wq hq => ?_, hK _ ?_⟩; (first | (go_at_call 44; refine (HC.out _ hq).mono ?_; rintro e w3 ⟨rfl, hb3⟩; exact ⟨rfl, below_then hq hq.size hb3⟩) | (have kk := HCL.out _ hq; go_simp; with_reducible rfl) | (obtain ⟨ad2, e2, hcm, _, _⟩ := HM.out _ (below_then HB.out HB.out.size hq); obtain rfl := Option.some.inj e2; obtain ⟨ad3, e3, hck, _, _⟩ := HK.out _ (below_then HB.out HB.out.size hq); obtain rfl := Option.some.inj e3; go_simp; with_reducible rfl)); clear hK K))
              with_reducible refine wpQuiet_nil ?_
              intro w2 hb2
              go_wp2
              go_meet
              case rel => exact ⟨rfl, _, rfl, below_then HB.out HB.out.size hb2⟩
      case rest =>
        obtain ⟨rfl, w2, rfl, hb2⟩ := hcut
        have HB2 := Lib.hid hb2
        clear hb2 HC HCL
        have HOK2 : Hid (okE es k = (cc && decide (∀ j, j < k → keyE es j ≠ keyE es k))) := Lib.hid (by rw [HOK.out, ← HCV.out, Bool.and_assoc])
        cases dd with
        | true =>
          obtain rfl : cc = false := by cases cc with | false => rfl | true => exact absurd HDD.out (by decide)
          have HY : Hid (r = false) := Lib.hid (by rw [HR.out]; exact hist_bad k hlt (by rw [HOK2.out]; rfl))
          go_wp2
          go_ret
          exact ⟨by rw [HY.out]; rfl, HB2.out⟩
        | false =>
          obtain rfl : cc = true := by cases cc with | true => rfl | false => exact absurd HDD.out (by decide)
          go_wp2
          go_loopw [4] (fun j wi => ∃ p : Nat, p ≤ k ∧ j = .int .i64 p ∧ (∀ z, z < p → keyE es z ≠ keyE es k) ∧ Below w.heap.size w wi) (fun j _ => k - (intOf j).toNat)
          case atStart => exact ⟨0, by omega, rfl, fun z hz => absurd hz (by omega), HB2.out⟩
          case round =>
            obtain ⟨p, hp, rfl, hne, hb3⟩ := hrel
            have HNE := Lib.hid hne
            clear hne
            by_cases hpl : p < k
            · have hpe : p < es.length := by omega
              obtain ⟨ad2, e2, _, _, hcp⟩ := (HA.out.below hb3).cell p hpe
              obtain rfl := Option.some.inj e2
              obtain ⟨ad3, e3, _, _, hck⟩ := (HA.out.below hb3).cell k hlt
              obtain rfl := Option.some.inj e3
              have j1 : ((p : Int) < (k : Int)) := by omega
              have j2 : ((p : Int) < (es.length : Int)) := by omega
              have j3 : ((p : Int)).toNat = p := rfl
              have HKP := Lib.hid (keyE_at hpe)
              have HKK := Lib.hid (keyE_at hlt)
              generalize es[p].key = y1 at hcp HKP
              generalize es[k].key = y2 at hck HKK
              have HB3 := Lib.hid hb3
              clear hb3
              obtain ⟨qq, HQQ⟩ : ∃ qq, Hid ((y1 == y2) = qq) := ⟨_, Lib.hid rfl⟩
              cases qq with
              | true =>
                have hqq := HQQ.out
                have HY : Hid (r = false) := Lib.hid (by
                  rw [HR.out]
                  refine hist_bad k hlt ?_
                  rw [HOK2.out, decide_eq_false fun h => h p hpl (by rw [HKP.out, HKK.out]; exact eq_of_beq HQQ.out)]; rfl)
                go_wp2_with fail
                go_quiet (fail)
                go_wp2
                go_ret
                exact ⟨by rw [HY.out]; rfl, below_drewN HB3.out _⟩
              | false =>
                have hqq := HQQ.out
                have HNE2 : Hid (∀ z, z < p + 1 → keyE es z ≠ keyE es k) := Lib.hid fun z hz => by
                  by_cases e : z = p
                  · subst e; rw [HKP.out, HKK.out]; exact beq_eq_false_iff_ne.1 HQQ.out
                  · exact HNE.out z (by omega)
                go_wp2_with fail
                go_quiet (fail)
                go_wp2
                go_roundw
                case rel => exact ⟨p + 1, by omega, by go_num, HNE2.out, below_drewN HB3.out _⟩
                case measure => simp only [intOf]; omega
            · have hn3 : decide ((p : Int) < (k : Int)) = false := decide_eq_false (by omega)
              have HALL2 : Hid (∀ j, j < k + 1 → okE es j = true) := Lib.hid fun j hj => by
                by_cases e : j = k
                · subst e; rw [HOK2.out, decide_eq_true fun z hz => HNE.out z (by omega)]; rfl
                · exact HALL.out j (by omega)
              go_wp2
              go_roundw
              case rel => exact ⟨k + 1, by omega, by go_num, HALL2.out, hb3⟩
              case measure => simp only [intOf]; omega
    · have hn2 : decide ((k : Int) < (es.length : Int)) = false := decide_eq_false (by omega)
      have HX : Hid (r = decide (((es.length : Nat) : Int) ≤ 20)) := Lib.hid (by rw [HR.out, hist_all fun i hi => hall i (by omega), decide_eq_decide]; omega)
      clear hall
      go_wp2
      go_ret
      exact ⟨by rw [HX.out]; rfl, hb⟩
end Go.Proofs.YtndobphgeiamhaaGreatDoor.H
