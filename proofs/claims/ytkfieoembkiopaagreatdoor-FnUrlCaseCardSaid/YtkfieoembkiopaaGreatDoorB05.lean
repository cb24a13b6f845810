/- Texts of this claim, joined: LUrlDCase. Conditions: each theorem's own. -/
import Derived.Test.YtkfieoembkiopaaGreatDoorA01
import Derived.Test.YtkfieoembkiopaaGreatDoorA02
import Derived.Test.YtkfieoembkiopaaGreatDoorA03
import Derived.Test.YtkfieoembkiopaaGreatDoorA04
import Derived.Test.YtkfieoembkiopaaGreatDoorA05
import Derived.Test.YtkfieoembkiopaaGreatDoorA06
import Derived.Test.YtkfieoembkiopaaGreatDoorA07
import Derived.Test.YtkfieoembkiopaaGreatDoorA08
import Derived.Test.YtkfieoembkiopaaGreatDoorA09
import Derived.Test.YtkfieoembkiopaaGreatDoorA10
import Derived.Test.YtkfieoembkiopaaGreatDoorA11
import Derived.Test.YtkfieoembkiopaaGreatDoorA12
import Derived.Test.YtkfieoembkiopaaGreatDoorA13
import Derived.Test.YtkfieoembkiopaaGreatDoorA14
import Derived.Test.YtkfieoembkiopaaGreatDoorA15
import Derived.Test.YtkfieoembkiopaaGreatDoorA16
import Derived.Test.YtkfieoembkiopaaGreatDoorA17
import Derived.Test.YtkfieoembkiopaaGreatDoorA18
import Derived.Below
import Derived.Deep.Draws
import Derived.Deep.AppendLies
import Derived.Maps.AppendAt
import Derived.OwnWalk
import Derived.Laws.BytesArg
import Derived.Laws.MakeOwn
import Derived.Laws.OwnMore
import Derived.Deep.OwnRows
import Derived.Tactics
import Derived.Lib.ConvBytes
import Derived.Laws.Slices
import Derived.WalkKit
import Derived.KernelRfl
import Derived.RowKit3
import Derived.Deep.LoopGhost
import Derived.Deep.QuietTactic
import Derived.BigQuiet
import Derived.WideLaws
import Derived.Deep.DeepCutAuto
import Derived.Deep.CutBlock
import Derived.Deep.RegionHeld3
import Derived.Laws.Rows
import Derived.Lib.AppendStr
import Derived.ArgAppend
import Derived.Laws.IdiomCopy
import Derived.RowKit
import Derived.OrdersHeld
import Derived.Laws.BitsLemmas
import Derived.Lib.Strings
import Derived.Lib.SmallJoins
import Derived.Lib.LaidTab
import Derived.Lib.ItoaNum
import Derived.SizedLaws
import Derived.Handed
import Derived.LaidMore
import Derived.Stop.Joined
import Derived.Lib.Slices
import Derived.Lib.Walk
import Derived.Lib.Builder
import Derived.Lib.UnsafeStr
import Derived.Lib.MakeNoZero
import Derived.Laws.Externs
import Derived.Shelf.RegionOpenPlain
import Derived.Shelf.Strings.Builder1
import Derived.Shelf.Strings.Builder2
import Derived.Shelf.Strings.OnBuilder
import Derived.Shelf.Small.Utf8
import Derived.Shelf.Small.Strs
import Derived.Shelf.Strconv.Itoa0
import Derived.Shelf.Strconv.Itoa1
import Derived.Shelf.LaysM
import Derived.Shelf.Strconv.Itoa2
import Derived.Shelf.Strconv.Itoa3
import Derived.Shelf.Strings.Search1
import Derived.Shelf.Strings.Search2
import Derived.Shelf.Strings.Search3
import Derived.Shelf.Strings.Cut
import Derived.Shelf.Strings.Count
import Derived.Shelf.Strings.Shaped
import Derived.Shelf.Strings.LastIndex
import Derived.Shelf.Strings.Prefix
import Derived.Shelf.Strings.Split
import Derived.Shelf.Strings.Replace
import Derived.Shelf.Strings.Runes
import Derived.Shelf.Strings.IndexAny
import Derived.Shelf.Strings.AsciiSet
import Derived.Shelf.Strings.IndexAnyAll
import Derived.Shelf.Unicode.DecodeSlow
import Derived.Shelf.Slices.Turned
import Derived.Ground.Names2Prog
import Derived.Shelf.Slices.Clone
import Derived.Lib.Split
import Derived.Lib.Replace
import Derived.Lib.ReplaceLaws
import Derived.Lib.IndexLaws
import Derived.Lib.IndexMore
import Derived.Lib.CountLaws
import Derived.Laws.StructEq
import Derived.Outline
import Derived.Lib.Hide
import Derived.StillTailTactics
import Derived.Deep.RegionWith
import Derived.Lib.Bytealg
import Derived.Lib.SplitLaws
import Derived.Laws.AppendOwn
import Derived.Sort.Grow
import Derived.WalkSmall
import Derived.Lib.IndexAny
import Derived.Lib.LastIndexByte
import Derived.Laws.RangeString
import Derived.Laws.Strings3
import Derived.WalkMore
import Derived.Deep.RegionLaw
import Derived.ChangeSlices
import Derived.Test.YtkfieoembkiopaaGreatDoorB01
set_option linter.unusedVariables false
namespace Go.Proofs.YtkfieoembkiopaaGreatDoor.H
open Go.RowKit Go.Proofs.YtkfieoembkiopaaGreatDoorW.PrintWords Go.Proofs.YtkfieoembkiopaaGreatDoor.Base Go.Proofs.YtkfieoembkiopaaGreatDoor.Pure
theorem upK_length (l : Bs) (k : Nat) : (upK k l).length = l.length := by simp [upK]; omega
theorem upK_zero (l : Bs) : upK 0 l = l := by simp [upK]
theorem upK_get (l : Bs) (k : Nat) (h : k < l.length) {h' : k < (upK k l).length} : (upK k l)[k] = l[k] := by
  simp only [upK]
  rw [List.getElem_append_right (by simp; omega)]
  simp [Nat.min_eq_left (Nat.le_of_lt h)]
theorem upK_succ (l : Bs) (k : Nat) (h : k < l.length) : upK (k + 1) l = (upK k l).set k (l[k] - 32) := by
  have hm : ((l.take k).map (fun c => c - 32)).length = k := by simp; omega
  simp only [upK]
  rw [List.take_succ_eq_append_getElem h, List.map_append, List.set_append_right (h := by omega), hm, Nat.sub_self, List.drop_eq_getElem_cons h]
  simp only [List.map_cons, List.map_nil, List.append_assoc, List.singleton_append, List.set_cons_zero]
theorem sub32 (c : UInt8) : ((c.toNat : Int) - 32) % 256 = ((c - 32).toNat : Int) := by
  rw [UInt8.toNat_sub]; have := c.toNat_lt; simp; omega
set_option maxHeartbeats 8000000 in
set_option maxRecDepth 100000 in
theorem FnUrlCase_walk (a0 : Option Addr) (len0 cap0 : Nat) (z0 : List Int) (w : World) (w0 : CodeRow w a0 len0 cap0 z0) (y0 : len0 * 1 ≤ 140737488351232) (hT : Tabs w) :
    Calls Tryz.prog 6 #[.slice a0 len0 cap0] w fun e w' => e = .returned (.bool true) ∧ Below w.heap.size w w' := by
  have HDR := Lib.hid (code_DrawUrlPut a0 len0 cap0 z0 w w0)
  by_cases hbig : 1048576 < len0
  · have hd : decide (1048576 < (len0 : Int)) = true := decide_eq_true (by omega)
    clear hT
    go_enter Tryz.func6, Tryz.ntmps6
    go_wp2
    go_ret
    exact ⟨rfl, Below.refl _ _⟩
  have hd : decide (1048576 < (len0 : Int)) = false := decide_eq_false (by omega)
  clear hbig w0 y0
  go_enter Tryz.func6, Tryz.ntmps6
  go_wp2_with fail
  refine HDR.out.mono ?_
  rintro e w1 ⟨u, pv, rfl, fit, hP, hb1⟩
  clear HDR
  have hPc := hP
  obtain ⟨A, c, rfl, _, _⟩ := hPc
  obtain ⟨K3, hba⟩ := u_new w1 (uCells u (.slice A u.path.length c))
  have hP2 := hP.below hba
  have HB2 := below_then hb1 hb1.size hba
  clear hP hb1 hba
  unfold uCells at K3 hP2 HB2 ⊢
  go_upto_region 4 with fail
  generalize w1.alloc _ = w2 at K3 hP2 HB2 ⊢
  generalize w1.heap.size = g3 at K3 ⊢
  have K3_2 := K3
  have hPu_2 := hP2
  have HB_2 := HB2
  clear K3 hP2 HB2
  have HIP := Lib.hid fun w1 hp (hb : Below w.heap.size w w1) => implUrlPut_walk u (.slice A u.path.length c) w1 fit hp (hT.below hb)
  have HSP := Lib.hid fun w1 hp => specUrlPut_walk u (.slice A u.path.length c) w1 fit hp
  have HIO := Lib.hid fun w1 hp (hb : Below w.heap.size w w1) => implPortOf_walk u (.slice A u.path.length c) w1 fit hp (hT.below hb)
  have HGU := Lib.hid fun pv qv w1 (hp : PathAt w1 pv u.path) (hq : PathAt w1 qv u.path) => guUrl_walk u pv qv w1 hp hq fit.fit.pl
  have HSV : Hid (0 ≤ portOfV u → urlPutV u = putU u ∧ urlG (upK u.sch.length (putU u)) = (u, true)) := Lib.hid fun hp => by
    have ho : okU u = true := by
      cases q : okU u with
      | true => rfl
      | false => unfold portOfV at hp; rw [q, if_neg (by decide)] at hp; omega
    have hpu : 0 ≤ portU u := by unfold portOfV at hp; rw [if_pos ho] at hp; exact hp
    exact ⟨by unfold urlPutV; rw [if_pos ho], case_law u ho hpu⟩
  have hsl := urlPutV_len u fit
  generalize hs : urlPutV u = s at HIP HSP HSV hsl
  generalize portOfV u = n at HIO HSV
  have hss : (s != s) = false := by simp
  have hse : (s == s) = true := by simp
  have kc3 := K3_2.cells.1
  go_wp2_with fail
  refine (HIP.out _ hPu_2 HB_2).mono ?_
  rintro e w3 ⟨rfl, hb3⟩
  clear kc3
  have K3_3 := K3_2.below hb3
  have hPu_3 := hPu_2.below hb3
  have HB_3 := below_then HB_2 HB_2.size hb3
  clear K3_2 hPu_2 HB_2 hb3
  have kc3 := K3_3.cells.1
  go_wp2_with fail
  refine (HSP.out _ hPu_3).mono ?_
  rintro e w4 ⟨rfl, hb4⟩
  clear kc3
  have K3_4 := K3_3.below hb4
  have hPu_4 := hPu_3.below hb4
  have HB_4 := below_then HB_3 HB_3.size hb4
  clear K3_3 hPu_3 HB_3 hb4
  have kc3 := K3_4.cells.1
  go_wp2_with fail
  refine (HIO.out _ hPu_4 HB_4).mono ?_
  rintro e w5 ⟨rfl, hb5⟩
  clear kc3
  have K3_5 := K3_4.below hb5
  have hPu_5 := hPu_4.below hb5
  have HB_5 := below_then HB_4 HB_4.size hb5
  clear K3_4 hPu_4 HB_4 hb5
  by_cases hn : n < 0
  · have hd0 : decide (n < 0) = true := decide_eq_true hn
    have kc3 := K3_5.cells.1
    go_wp2_with fail
    refine (HSP.out _ hPu_5).mono ?_
    rintro e w6 ⟨rfl, hb6⟩
    clear kc3
    have HBe := Lib.hid (below_then HB_5 HB_5.size hb6)
    clear hb6
    go_wp2
    go_ret
    exact ⟨rfl, HBe.out⟩
  · have hd0 : decide (n < 0) = false := decide_eq_false hn
    obtain ⟨sv1, sv2⟩ := HSV.out (by omega)
    have sl : s.length ≤ 20000000 := hsl
    have HIG := Lib.hid fun (l : Bs) w1 (hl : l = upK u.sch.length s) (hb : Below w.heap.size w w1) => (show Calls Tryz.prog 15 #[.string (B l)] w1 (UrlOut (u, true) w1) from by
        have q := implUrlGet_walk l w1 (by rw [hl, upK_length]; omega) (hT.s.below hb) (hT.m.below hb) (hT.i.below hb)
        rw [hl, sv1] at q; rw [hl, sv1]; rw [sv2] at q; exact q)
    clear HSV HIP HSP HIO hn hsl sv2
    have hsv := Lib.hid sv1
    clear sv1 hs fit
    have HLT := Lib.hid K3_5.lt
    have hconv := Lib.run_convert_string_bytes (P := Tryz.prog) w5 9 22 5 (B s) Tryz.underlying9 Tryz.underlying22 Tryz.underlying5
    have kc3 := K3_5.cells.1
    have hml : u.sch.length ≤ s.length := by rw [hsv.out]; unfold putU; simp only [List.length_append]; omega
    go_upto_block 0 with fail
    have hb5 : Below w5.heap.size w5 (Lib.bytesWorld w5 5 (B s)) := bytes_below (Below.refl _ _) (Nat.le_refl _) _ _
    go_wp2_with fail
    go_loopw [7] (fun i wr => ∃ k : Nat, k ≤ u.sch.length ∧ i = .int .i64 (k : Int) ∧ BRow wr w5.heap.size (upK k s) ∧ Below w5.heap.size w5 wr) (fun i _ => u.sch.length - (intOf i).toNat)
    case atStart => exact ⟨0, Nat.zero_le _, rfl, by rw [upK_zero]; exact BRow.start w5 _ s, hb5⟩
    case round =>
      clear hb5 hconv kc3
      obtain ⟨k, hk, rfl, hrow, hbr⟩ := hrel
      by_cases hlt : k < u.sch.length
      · have hd2 : decide ((k : Int) < (u.sch.length : Int)) = true := decide_eq_true (by omega)
        have hks : k < s.length := by omega
        have hc := (hrow k (by rw [upK_length]; exact hks)).1
        have hf := (hrow k (by rw [upK_length]; exact hks)).2
        rw [upK_get s k hks] at hc
        have HS := Lib.hid (upK_succ s k hks)
        have HW : Hid (∀ c : UInt8, ((c.toNat : Int) - 32) % 256 = ((c - 32).toNat : Int)) := Lib.hid sub32
        have hrow' := Lib.hid hrow
        have hbr' := Lib.hid hbr
        clear hrow hbr
        have hki : (k : Int) < (s.length : Int) := by omega
        go_wp2
        go_roundw
        case rel =>
          refine ⟨k + 1, by omega, by go_num, ?_, hbr'.out.setCell (Nat.le_refl _) _⟩
          have q := hrow'.out.set k (s[k] - 32) (by rw [upK_length]; exact hks)
          rw [← HS.out, ← HW.out] at q
          exact q
        case measure => simp only [intOf]; omega
      · have hd2 : decide ((k : Int) < (u.sch.length : Int)) = false := decide_eq_false (by omega)
        obtain rfl : k = u.sch.length := by omega
        have hcv := fun c => hrow.string (c := c) (P := Tryz.prog) (by rw [upK_length]; omega) Tryz.underlying22 Tryz.underlying5 Tryz.underlying9
        rw [upK_length] at hcv
        have K3r := K3_5.below hbr
        have hPr := hPu_5.below hbr
        have HBr := below_then HB_5 HB_5.size hbr
        clear hrow hbr K3_5 hPu_5 HB_5
        go_wp2_with fail
        refine (HIG.out _ _ rfl HBr).mono ?_
        rintro e w6 ⟨p8, rfl, hq8, hb6⟩
        obtain ⟨A8, c8, rfl, _⟩ := q_slice hq8
        dsimp only at hq8
        obtain ⟨K8, hba⟩ := u_new w6 (uCells u (.slice A8 u.path.length c8))
        have hb7 := below_then hb6 hb6.size hba
        have hX7 := pathAt_q (q_below hq8 hba)
        have K37 := K3r.below hb7
        have hU7 := hPr.below hb7
        have HB7 := below_then HBr HBr.size hb7
        clear hq8 hb6 hba hb7 K3r hPr HBr
        unfold uCells at K8 HB7 K37 hX7 hU7 ⊢
        go_upto_region 14 with fail
        generalize w6.alloc _ = w7 at K8 HB7 K37 hX7 hU7 ⊢
        have kc8 := K8.cells.1
        have kc3 := K37.cells.1
        go_wp2_with fail
        refine (HGU.out _ _ _ hX7 hU7).mono ?_
        rintro e w9 ⟨rfl, hb9⟩
        have HBe := Lib.hid (below_then HB7 HB7.size hb9)
        clear hb9 kc8 kc3
        go_wp2
        go_ret
        exact ⟨rfl, HBe.out⟩
      
end Go.Proofs.YtkfieoembkiopaaGreatDoor.H
