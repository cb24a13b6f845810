/- Texts of this claim, joined: LUrlDSlash. Conditions: each theorem's own. -/
import Derived.Test.YtkfieoembkiopaaGreatDoorA01
import Derived.Test.YtkfieoembkiopaaGreatDoorA02
import Derived.Test.YtkfieoembkiopaaGreatDoorA03
import Derived.Test.YtkfieoembkiopaaGreatDoorA04
import Derived.Test.YtkfieoembkiopaaGreatDoorA05
import Derived.Test.YtkfieoembkiopaaGreatDoorA06
import Derived.Test.YtkfieoembkiopaaGreatDoorA07
import Derived.Test.YtkfieoembkiopaaGreatDoorA08
import Derived.Test.YtkfieoembkiopaaGreatDoorA09
import Derived.Test.YtkfieoembkiopaaGreatDoorA10
import Derived.Test.YtkfieoembkiopaaGreatDoorA11
import Derived.Test.YtkfieoembkiopaaGreatDoorA12
import Derived.Test.YtkfieoembkiopaaGreatDoorA13
import Derived.Test.YtkfieoembkiopaaGreatDoorA14
import Derived.Test.YtkfieoembkiopaaGreatDoorA15
import Derived.Test.YtkfieoembkiopaaGreatDoorA16
import Derived.Test.YtkfieoembkiopaaGreatDoorA17
import Derived.Test.YtkfieoembkiopaaGreatDoorA18
import Derived.Below
import Derived.Deep.Draws
import Derived.Deep.AppendLies
import Derived.Maps.AppendAt
import Derived.OwnWalk
import Derived.Laws.BytesArg
import Derived.Laws.MakeOwn
import Derived.Laws.OwnMore
import Derived.Deep.OwnRows
import Derived.Tactics
import Derived.Lib.ConvBytes
import Derived.Laws.Slices
import Derived.WalkKit
import Derived.KernelRfl
import Derived.RowKit3
import Derived.Deep.LoopGhost
import Derived.Deep.QuietTactic
import Derived.BigQuiet
import Derived.WideLaws
import Derived.Deep.DeepCutAuto
import Derived.Deep.CutBlock
import Derived.Deep.RegionHeld3
import Derived.Laws.Rows
import Derived.Lib.AppendStr
import Derived.ArgAppend
import Derived.Laws.IdiomCopy
import Derived.RowKit
import Derived.OrdersHeld
import Derived.Laws.BitsLemmas
import Derived.Lib.Strings
import Derived.Lib.SmallJoins
import Derived.Lib.LaidTab
import Derived.Lib.ItoaNum
import Derived.SizedLaws
import Derived.Handed
import Derived.LaidMore
import Derived.Stop.Joined
import Derived.Lib.Slices
import Derived.Lib.Walk
import Derived.Lib.Builder
import Derived.Lib.UnsafeStr
import Derived.Lib.MakeNoZero
import Derived.Laws.Externs
import Derived.Shelf.RegionOpenPlain
import Derived.Shelf.Strings.Builder1
import Derived.Shelf.Strings.Builder2
import Derived.Shelf.Strings.OnBuilder
import Derived.Shelf.Small.Utf8
import Derived.Shelf.Small.Strs
import Derived.Shelf.Strconv.Itoa0
import Derived.Shelf.Strconv.Itoa1
import Derived.Shelf.LaysM
import Derived.Shelf.Strconv.Itoa2
import Derived.Shelf.Strconv.Itoa3
import Derived.Shelf.Strings.Search1
import Derived.Shelf.Strings.Search2
import Derived.Shelf.Strings.Search3
import Derived.Shelf.Strings.Cut
import Derived.Shelf.Strings.Count
import Derived.Shelf.Strings.Shaped
import Derived.Shelf.Strings.LastIndex
import Derived.Shelf.Strings.Prefix
import Derived.Shelf.Strings.Split
import Derived.Shelf.Strings.Replace
import Derived.Shelf.Strings.Runes
import Derived.Shelf.Strings.IndexAny
import Derived.Shelf.Strings.AsciiSet
import Derived.Shelf.Strings.IndexAnyAll
import Derived.Shelf.Unicode.DecodeSlow
import Derived.Shelf.Slices.Turned
import Derived.Ground.Names2Prog
import Derived.Shelf.Slices.Clone
import Derived.Lib.Split
import Derived.Lib.Replace
import Derived.Lib.ReplaceLaws
import Derived.Lib.IndexLaws
import Derived.Lib.IndexMore
import Derived.Lib.CountLaws
import Derived.Laws.StructEq
import Derived.Outline
import Derived.Lib.Hide
import Derived.StillTailTactics
import Derived.Deep.RegionWith
import Derived.Lib.Bytealg
import Derived.Lib.SplitLaws
import Derived.Laws.AppendOwn
import Derived.Sort.Grow
import Derived.WalkSmall
import Derived.Lib.IndexAny
import Derived.Lib.LastIndexByte
import Derived.Laws.RangeString
import Derived.Laws.Strings3
import Derived.WalkMore
import Derived.Deep.RegionLaw
import Derived.ChangeSlices
import Derived.Test.YtkfieoembkiopaaGreatDoorB01
set_option linter.unusedVariables false
namespace Go.Proofs.YtkfieoembkiopaaGreatDoor.H
open Go.RowKit Go.Proofs.YtkfieoembkiopaaGreatDoorW.PrintWords Go.Proofs.YtkfieoembkiopaaGreatDoor.Base Go.Proofs.YtkfieoembkiopaaGreatDoor.Pure
theorem u8_ne (c d : UInt8) (h : c ≠ d) : ((c.toNat : Int) == (d.toNat : Int)) = false := by
  rw [beq_eq_false_iff_ne]
  intro e
  exact h (UInt8.toNat_inj.1 (by omega))
theorem u8_ne2 (c d : UInt8) (h : c ≠ d) : ((c.toNat : Int) != (d.toNat : Int)) = true := by
  show (!((c.toNat : Int) == (d.toNat : Int))) = true
  rw [u8_ne c d h]; rfl
theorem turnS_length (l : Bs) : (turnS l).length = l.length := by
  unfold turnS
  rw [List.length_append, swapC_length, up_len]
theorem turn_at (s : Bs) (k : Nat) (hk : k ≤ s.length) (hall : ∀ j (h : j < s.length), j < k → s[j] ≠ 63 ∧ s[j] ≠ 35) (hend : k = s.length ∨ ∃ h : k < s.length, s[k] = 63 ∨ s[k] = 35) : swK 47 92 s k = turnS s := by
  have h1 : ∀ c ∈ s.take k, ([63, 35] : Bs).contains c = false := fun c hc => by
    obtain ⟨j, hj, rfl⟩ := List.mem_iff_getElem.1 hc
    rw [List.length_take] at hj
    rw [List.getElem_take]
    obtain ⟨a, b⟩ := hall j (by omega) (by omega)
    simp [a, b]
  have h2 : s.drop k = [] ∨ ∃ c t, s.drop k = c :: t ∧ ([63, 35] : Bs).contains c = true := by
    rcases hend with e | ⟨h, e⟩
    · exact .inl (List.drop_eq_nil_of_le (by omega))
    · refine .inr ⟨_, _, List.drop_eq_getElem_cons h, ?_⟩
      rcases e with e | e <;> (rw [e]; decide)
  obtain ⟨e1, e2⟩ := upA_cut [63, 35] (s.take k) (s.drop k) h1 h2
  rw [List.take_append_drop] at e1 e2
  unfold turnS swK
  rw [e1, e2]
set_option maxHeartbeats 8000000 in
set_option maxRecDepth 100000 in
theorem FnUrlSlash_walk (a0 : Option Addr) (len0 cap0 : Nat) (z0 : List Int) (w : World) (w0 : CodeRow w a0 len0 cap0 z0) (y0 : len0 * 1 ≤ 140737488351232) (hT : Tabs w) :
    Calls Tryz.prog 7 #[.slice a0 len0 cap0] w fun e w' => e = .returned (.bool true) ∧ Below w.heap.size w w' := by
  have HDR := Lib.hid (code_DrawUrlPut a0 len0 cap0 z0 w w0)
  by_cases hbig : 1048576 < len0
  · have hd : decide (1048576 < (len0 : Int)) = true := decide_eq_true (by omega)
    clear hT
    go_enter Tryz.func7, Tryz.ntmps7
    go_wp2
    go_ret
    exact ⟨rfl, Below.refl _ _⟩
  have hd : decide (1048576 < (len0 : Int)) = false := decide_eq_false (by omega)
  clear hbig w0 y0
  go_enter Tryz.func7, Tryz.ntmps7
  go_wp2_with fail
  refine HDR.out.mono ?_
  rintro e w1 ⟨u, pv, rfl, fit, hP, hb1⟩
  clear HDR
  have hPc := hP
  obtain ⟨A, c, rfl, _, _⟩ := hPc
  obtain ⟨K3, hba⟩ := u_new w1 (uCells u (.slice A u.path.length c))
  have hP2 := hP.below hba
  have HB2 := below_then hb1 hb1.size hba
  clear hP hb1 hba
  unfold uCells at K3 hP2 HB2 ⊢
  go_upto_region 4 with fail
  generalize w1.alloc _ = w2 at K3 hP2 HB2 ⊢
  generalize w1.heap.size = g3 at K3 ⊢
  have K3_2 := K3
  have hPu_2 := hP2
  have HB_2 := HB2
  clear K3 hP2 HB2
  have HIP := Lib.hid fun w1 hp (hb : Below w.heap.size w w1) => implUrlPut_walk u (.slice A u.path.length c) w1 fit hp (hT.below hb)
  have HSP := Lib.hid fun w1 hp => specUrlPut_walk u (.slice A u.path.length c) w1 fit hp
  have HIO := Lib.hid fun w1 hp (hb : Below w.heap.size w w1) => implPortOf_walk u (.slice A u.path.length c) w1 fit hp (hT.below hb)
  have HGU := Lib.hid fun pv qv w1 (hp : PathAt w1 pv u.path) (hq : PathAt w1 qv u.path) => guUrl_walk u pv qv w1 hp hq fit.fit.pl
  have HSV : Hid (0 ≤ portOfV u → urlPutV u = putU u ∧ urlG (turnS (putU u)) = (u, true)) := Lib.hid fun hp => by
    have ho : okU u = true := by
      cases q : okU u with
      | true => rfl
      | false => unfold portOfV at hp; rw [q, if_neg (by decide)] at hp; omega
    have hpu : 0 ≤ portU u := by unfold portOfV at hp; rw [if_pos ho] at hp; exact hp
    exact ⟨by unfold urlPutV; rw [if_pos ho], slash_law u ho hpu⟩
  have hsl := urlPutV_len u fit
  generalize hs : urlPutV u = s at HIP HSP HSV hsl
  generalize portOfV u = n at HIO HSV
  have hss : (s != s) = false := by simp
  have hse : (s == s) = true := by simp
  have kc3 := K3_2.cells.1
  go_wp2_with fail
  refine (HIP.out _ hPu_2 HB_2).mono ?_
  rintro e w3 ⟨rfl, hb3⟩
  clear kc3
  have K3_3 := K3_2.below hb3
  have hPu_3 := hPu_2.below hb3
  have HB_3 := below_then HB_2 HB_2.size hb3
  clear K3_2 hPu_2 HB_2 hb3
  have kc3 := K3_3.cells.1
  go_wp2_with fail
  refine (HSP.out _ hPu_3).mono ?_
  rintro e w4 ⟨rfl, hb4⟩
  clear kc3
  have K3_4 := K3_3.below hb4
  have hPu_4 := hPu_3.below hb4
  have HB_4 := below_then HB_3 HB_3.size hb4
  clear K3_3 hPu_3 HB_3 hb4
  have kc3 := K3_4.cells.1
  go_wp2_with fail
  refine (HIO.out _ hPu_4 HB_4).mono ?_
  rintro e w5 ⟨rfl, hb5⟩
  clear kc3
  have K3_5 := K3_4.below hb5
  have hPu_5 := hPu_4.below hb5
  have HB_5 := below_then HB_4 HB_4.size hb5
  clear K3_4 hPu_4 HB_4 hb5
  by_cases hn : n < 0
  · have hd0 : decide (n < 0) = true := decide_eq_true hn
    have kc3 := K3_5.cells.1
    go_wp2_with fail
    refine (HSP.out _ hPu_5).mono ?_
    rintro e w6 ⟨rfl, hb6⟩
    clear kc3
    have HBe := Lib.hid (below_then HB_5 HB_5.size hb6)
    clear hb6
    go_wp2
    go_ret
    exact ⟨rfl, HBe.out⟩
  · have hd0 : decide (n < 0) = false := decide_eq_false hn
    obtain ⟨sv1, sv2⟩ := HSV.out (by omega)
    have sl : s.length ≤ 20000000 := hsl
    have HIG := Lib.hid fun (l : Bs) w1 (hl : l = turnS s) (hb : Below w.heap.size w w1) => (show Calls Tryz.prog 15 #[.string (B l)] w1 (UrlOut (u, true) w1) from by
        have q := implUrlGet_walk l w1 (by rw [hl, turnS_length]; omega) (hT.s.below hb) (hT.m.below hb) (hT.i.below hb)
        rw [hl, sv1] at q; rw [hl, sv1]; rw [sv2] at q; exact q)
    clear HSV HIP HSP HIO hn hsl sv2
    have hsv := Lib.hid sv1
    clear sv1 hs fit
    have HLT := Lib.hid K3_5.lt
    have hconv := Lib.run_convert_string_bytes (P := Tryz.prog) w5 9 22 5 (B s) Tryz.underlying9 Tryz.underlying22 Tryz.underlying5
    have kc3 := K3_5.cells.1
    go_upto_block 0 with fail
    have hb5 : Below w5.heap.size w5 (Lib.bytesWorld w5 5 (B s)) := bytes_below (Below.refl _ _) (Nat.le_refl _) _ _
    go_wp2_with fail
    go_loopw [6] (fun i wr => ∃ k : Nat, k ≤ s.length ∧ i = .int .i64 (k : Int) ∧ (∀ j (h : j < s.length), j < k → s[j] ≠ 63 ∧ s[j] ≠ 35) ∧ BRow wr w5.heap.size (swK 47 92 s k) ∧ Below w5.heap.size w5 wr) (fun i _ => s.length - (intOf i).toNat)
    case atStart => exact ⟨0, Nat.zero_le _, rfl, fun j h q => absurd q (Nat.not_lt_zero j), by rw [swK_zero]; exact BRow.start w5 _ s, hb5⟩
    case round =>
      clear hb5 hconv kc3 hsv
      obtain ⟨k, hk, rfl, hall, hrow, hbr⟩ := hrel
      by_cases hlt : k < s.length
      · have hd2 : decide ((k : Int) < (s.length : Int)) = true := decide_eq_true (by omega)
        have hc := (hrow k (by rw [swK_length]; exact hlt)).1
        have hf := (hrow k (by rw [swK_length]; exact hlt)).2
        rw [swK_get 47 92 s k hlt] at hc
        have hki : (k : Int) < (s.length : Int) := by omega
        by_cases q63 : s[k] = 63
        · have n1 : ((s[k].toNat : Int) != 63) = false := by rw [q63]; rfl
          have n2 : ((s[k].toNat : Int) == 63) = true := by rw [q63]; rfl
          have hcv := fun c => hrow.string (c := c) (P := Tryz.prog) (by rw [swK_length]; omega) Tryz.underlying22 Tryz.underlying5 Tryz.underlying9
          rw [swK_length] at hcv
          have HEQ := Lib.hid (turn_at s k hk hall (.inr ⟨hlt, .inl q63⟩))
          have K3r := K3_5.below hbr
          have hPr := hPu_5.below hbr
          have HBr := below_then HB_5 HB_5.size hbr
          clear hrow hbr K3_5 hPu_5 HB_5 hall
          go_wp2_with fail
          refine (HIG.out _ _ HEQ.out HBr).mono ?_
          rintro e w6 ⟨p8, rfl, hq8, hb6⟩
          obtain ⟨A8, c8, rfl, _⟩ := q_slice hq8
          dsimp only at hq8
          obtain ⟨K8, hba⟩ := u_new w6 (uCells u (.slice A8 u.path.length c8))
          have hb7 := below_then hb6 hb6.size hba
          have hX7 := pathAt_q (q_below hq8 hba)
          have K37 := K3r.below hb7
          have hU7 := hPr.below hb7
          have HB7 := below_then HBr HBr.size hb7
          clear hq8 hb6 hba hb7 K3r hPr HBr
          unfold uCells at K8 HB7 K37 hX7 hU7 ⊢
          go_upto_region 14 with fail
          generalize w6.alloc _ = w7 at K8 HB7 K37 hX7 hU7 ⊢
          have kc8 := K8.cells.1
          have kc3 := K37.cells.1
          go_wp2_with fail
          refine (HGU.out _ _ _ hX7 hU7).mono ?_
          rintro e w9 ⟨rfl, hb9⟩
          have HBe := Lib.hid (below_then HB7 HB7.size hb9)
          clear hb9 kc8 kc3
          go_wp2
          go_ret
          exact ⟨rfl, HBe.out⟩
        have m1 : ((s[k].toNat : Int) == 63) = false := u8_ne s[k] 63 q63
        have m2 : ((s[k].toNat : Int) != 63) = true := u8_ne2 s[k] 63 q63
        by_cases q35 : s[k] = 35
        · have n1 : ((s[k].toNat : Int) != 35) = false := by rw [q35]; rfl
          have n2 : ((s[k].toNat : Int) == 35) = true := by rw [q35]; rfl
          have hcv := fun c => hrow.string (c := c) (P := Tryz.prog) (by rw [swK_length]; omega) Tryz.underlying22 Tryz.underlying5 Tryz.underlying9
          rw [swK_length] at hcv
          have HEQ := Lib.hid (turn_at s k hk hall (.inr ⟨hlt, .inr q35⟩))
          have K3r := K3_5.below hbr
          have hPr := hPu_5.below hbr
          have HBr := below_then HB_5 HB_5.size hbr
          clear hrow hbr K3_5 hPu_5 HB_5 hall
          go_wp2_with fail
          refine (HIG.out _ _ HEQ.out HBr).mono ?_
          rintro e w6 ⟨p8, rfl, hq8, hb6⟩
          obtain ⟨A8, c8, rfl, _⟩ := q_slice hq8
          dsimp only at hq8
          obtain ⟨K8, hba⟩ := u_new w6 (uCells u (.slice A8 u.path.length c8))
          have hb7 := below_then hb6 hb6.size hba
          have hX7 := pathAt_q (q_below hq8 hba)
          have K37 := K3r.below hb7
          have hU7 := hPr.below hb7
          have HB7 := below_then HBr HBr.size hb7
          clear hq8 hb6 hba hb7 K3r hPr HBr
          unfold uCells at K8 HB7 K37 hX7 hU7 ⊢
          go_upto_region 14 with fail
          generalize w6.alloc _ = w7 at K8 HB7 K37 hX7 hU7 ⊢
          have kc8 := K8.cells.1
          have kc3 := K37.cells.1
          go_wp2_with fail
          refine (HGU.out _ _ _ hX7 hU7).mono ?_
          rintro e w9 ⟨rfl, hb9⟩
          have HBe := Lib.hid (below_then HB7 HB7.size hb9)
          clear hb9 kc8 kc3
          go_wp2
          go_ret
          exact ⟨rfl, HBe.out⟩
        have m3 : ((s[k].toNat : Int) == 35) = false := u8_ne s[k] 35 q35
        have m4 : ((s[k].toNat : Int) != 35) = true := u8_ne2 s[k] 35 q35
        have hall' : ∀ j (h : j < s.length), j < k + 1 → s[j] ≠ 63 ∧ s[j] ≠ 35 := fun j h q => by
          by_cases e : j = k
          · subst e; exact ⟨q63, q35⟩
          · exact hall j h (by omega)
        have HALL := Lib.hid hall'
        have hrow' := Lib.hid hrow
        have hbr' := Lib.hid hbr
        clear hrow hbr hall hall' q63 q35
        by_cases q47 : s[k] = 47
        · have n1 : ((s[k].toNat : Int) == 47) = true := by rw [q47]; rfl
          have HS : Hid (swK 47 92 s (k + 1) = (swK 47 92 s k).set k 92) := Lib.hid (by rw [swK_succ 47 92 s k hlt, if_pos q47])
          clear q47
          go_wp2
          go_roundw
          case rel =>
            refine ⟨k + 1, by omega, by go_num, HALL.out, ?_, hbr'.out.setCell (Nat.le_refl _) _⟩
            rw [HS.out]
            exact hrow'.out.set k 92 (by rw [swK_length]; exact hlt)
          case measure => simp only [intOf]; omega
        · have n1 : ((s[k].toNat : Int) == 47) = false := u8_ne s[k] 47 q47
          have HS : Hid (swK 47 92 s (k + 1) = swK 47 92 s k) := Lib.hid (swK_same 47 92 s k hlt q47)
          clear q47
          go_wp2
          go_roundw
          case rel => exact ⟨k + 1, by omega, by go_num, HALL.out, by rw [HS.out]; exact hrow'.out, hbr'.out⟩
          case measure => simp only [intOf]; omega
      · have hd2 : decide ((k : Int) < (s.length : Int)) = false := decide_eq_false (by omega)
        have hcv := fun c => hrow.string (c := c) (P := Tryz.prog) (by rw [swK_length]; omega) Tryz.underlying22 Tryz.underlying5 Tryz.underlying9
        rw [swK_length] at hcv
        have HEQ := Lib.hid (turn_at s k hk hall (.inl (by omega)))
        have K3r := K3_5.below hbr
        have hPr := hPu_5.below hbr
        have HBr := below_then HB_5 HB_5.size hbr
        clear hrow hbr K3_5 hPu_5 HB_5 hall
        go_wp2_with fail
        refine (HIG.out _ _ HEQ.out HBr).mono ?_
        rintro e w6 ⟨p8, rfl, hq8, hb6⟩
        obtain ⟨A8, c8, rfl, _⟩ := q_slice hq8
        dsimp only at hq8
        obtain ⟨K8, hba⟩ := u_new w6 (uCells u (.slice A8 u.path.length c8))
        have hb7 := below_then hb6 hb6.size hba
        have hX7 := pathAt_q (q_below hq8 hba)
        have K37 := K3r.below hb7
        have hU7 := hPr.below hb7
        have HB7 := below_then HBr HBr.size hb7
        clear hq8 hb6 hba hb7 K3r hPr HBr
        unfold uCells at K8 HB7 K37 hX7 hU7 ⊢
        go_upto_region 14 with fail
        generalize w6.alloc _ = w7 at K8 HB7 K37 hX7 hU7 ⊢
        have kc8 := K8.cells.1
        have kc3 := K37.cells.1
        go_wp2_with fail
        refine (HGU.out _ _ _ hX7 hU7).mono ?_
        rintro e w9 ⟨rfl, hb9⟩
        have HBe := Lib.hid (below_then HB7 HB7.size hb9)
        clear hb9 kc8 kc3
        go_wp2
        go_ret
        exact ⟨rfl, HBe.out⟩
end Go.Proofs.YtkfieoembkiopaaGreatDoor.H
