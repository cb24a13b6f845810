/- Texts of this claim, joined: LUrlDText. Conditions: each theorem's own. -/
import Derived.Test.YtkfieoembkiopaaGreatDoorA01
import Derived.Test.YtkfieoembkiopaaGreatDoorA02
import Derived.Test.YtkfieoembkiopaaGreatDoorA03
import Derived.Test.YtkfieoembkiopaaGreatDoorA04
import Derived.Test.YtkfieoembkiopaaGreatDoorA05
import Derived.Test.YtkfieoembkiopaaGreatDoorA06
import Derived.Test.YtkfieoembkiopaaGreatDoorA07
import Derived.Test.YtkfieoembkiopaaGreatDoorA08
import Derived.Test.YtkfieoembkiopaaGreatDoorA09
import Derived.Test.YtkfieoembkiopaaGreatDoorA10
import Derived.Test.YtkfieoembkiopaaGreatDoorA11
import Derived.Test.YtkfieoembkiopaaGreatDoorA12
import Derived.Test.YtkfieoembkiopaaGreatDoorA13
import Derived.Test.YtkfieoembkiopaaGreatDoorA14
import Derived.Test.YtkfieoembkiopaaGreatDoorA15
import Derived.Test.YtkfieoembkiopaaGreatDoorA16
import Derived.Test.YtkfieoembkiopaaGreatDoorA17
import Derived.Test.YtkfieoembkiopaaGreatDoorA18
import Derived.Below
import Derived.Deep.Draws
import Derived.Deep.AppendLies
import Derived.Maps.AppendAt
import Derived.OwnWalk
import Derived.Laws.BytesArg
import Derived.Laws.MakeOwn
import Derived.Laws.OwnMore
import Derived.Deep.OwnRows
import Derived.Tactics
import Derived.Lib.ConvBytes
import Derived.Laws.Slices
import Derived.WalkKit
import Derived.KernelRfl
import Derived.RowKit3
import Derived.Deep.LoopGhost
import Derived.Deep.QuietTactic
import Derived.BigQuiet
import Derived.WideLaws
import Derived.Deep.DeepCutAuto
import Derived.Deep.CutBlock
import Derived.Deep.RegionHeld3
import Derived.Laws.Rows
import Derived.Lib.AppendStr
import Derived.ArgAppend
import Derived.Laws.IdiomCopy
import Derived.RowKit
import Derived.OrdersHeld
import Derived.Laws.BitsLemmas
import Derived.Lib.Strings
import Derived.Lib.SmallJoins
import Derived.Lib.LaidTab
import Derived.Lib.ItoaNum
import Derived.SizedLaws
import Derived.Handed
import Derived.LaidMore
import Derived.Stop.Joined
import Derived.Lib.Slices
import Derived.Lib.Walk
import Derived.Lib.Builder
import Derived.Lib.UnsafeStr
import Derived.Lib.MakeNoZero
import Derived.Laws.Externs
import Derived.Shelf.RegionOpenPlain
import Derived.Shelf.Strings.Builder1
import Derived.Shelf.Strings.Builder2
import Derived.Shelf.Strings.OnBuilder
import Derived.Shelf.Small.Utf8
import Derived.Shelf.Small.Strs
import Derived.Shelf.Strconv.Itoa0
import Derived.Shelf.Strconv.Itoa1
import Derived.Shelf.LaysM
import Derived.Shelf.Strconv.Itoa2
import Derived.Shelf.Strconv.Itoa3
import Derived.Shelf.Strings.Search1
import Derived.Shelf.Strings.Search2
import Derived.Shelf.Strings.Search3
import Derived.Shelf.Strings.Cut
import Derived.Shelf.Strings.Count
import Derived.Shelf.Strings.Shaped
import Derived.Shelf.Strings.LastIndex
import Derived.Shelf.Strings.Prefix
import Derived.Shelf.Strings.Split
import Derived.Shelf.Strings.Replace
import Derived.Shelf.Strings.Runes
import Derived.Shelf.Strings.IndexAny
import Derived.Shelf.Strings.AsciiSet
import Derived.Shelf.Strings.IndexAnyAll
import Derived.Shelf.Unicode.DecodeSlow
import Derived.Shelf.Slices.Turned
import Derived.Ground.Names2Prog
import Derived.Shelf.Slices.Clone
import Derived.Lib.Split
import Derived.Lib.Replace
import Derived.Lib.ReplaceLaws
import Derived.Lib.IndexLaws
import Derived.Lib.IndexMore
import Derived.Lib.CountLaws
import Derived.Laws.StructEq
import Derived.Outline
import Derived.Lib.Hide
import Derived.StillTailTactics
import Derived.Deep.RegionWith
import Derived.Lib.Bytealg
import Derived.Lib.SplitLaws
import Derived.Laws.AppendOwn
import Derived.Sort.Grow
import Derived.WalkSmall
import Derived.Lib.IndexAny
import Derived.Lib.LastIndexByte
import Derived.Laws.RangeString
import Derived.Laws.Strings3
import Derived.WalkMore
import Derived.Deep.RegionLaw
import Derived.ChangeSlices
import Derived.Test.YtkfieoembkiopaaGreatDoorB01
import Derived.Test.YtkfieoembkiopaaGreatDoorB02
set_option linter.unusedVariables false
namespace Go.Proofs.YtkfieoembkiopaaGreatDoor.H
open Go.RowKit Go.Proofs.YtkfieoembkiopaaGreatDoorW.PrintWords Go.Proofs.YtkfieoembkiopaaGreatDoor.Base Go.Proofs.YtkfieoembkiopaaGreatDoor.Pure
set_option maxHeartbeats 8000000 in
set_option maxRecDepth 100000 in
theorem FnUrlText_walk (a0 : Option Addr) (len0 cap0 : Nat) (z0 : List Int) (a1 : Option Addr) (len1 cap1 : Nat) (z1 : List Int) (w : World) (w0 : CodeRow w a0 len0 cap0 z0) (y0 : len0 * 1 ≤ 140737488351232) (v1 : CodeRow w a1 len1 cap1 z1) (y1 : len1 * 1 ≤ 140737488351232) (hT : Tabs w) :
    Calls Tryz.prog 8 #[.slice a0 len0 cap0, .slice a1 len1 cap1] w fun e w' => e = .returned (.bool true) ∧ Below w.heap.size w w' := by
  have HDR := Lib.hid (code_DrawUrlPut a0 len0 cap0 z0 w w0)
  by_cases hbig : 1048576 < len0
  · have hd : decide (1048576 < (len0 : Int)) = true := decide_eq_true (by omega)
    clear hT
    go_enter Tryz.func8, Tryz.ntmps8
    go_wp2
    go_ret
    exact ⟨rfl, Below.refl _ _⟩
  have hd : decide (1048576 < (len0 : Int)) = false := decide_eq_false (by omega)
  by_cases hbig1 : 1048576 < len1
  · have hd1 : decide (1048576 < (len1 : Int)) = true := decide_eq_true (by omega)
    clear hT HDR
    go_enter Tryz.func8, Tryz.ntmps8
    go_wp2
    go_ret
    exact ⟨rfl, Below.refl _ _⟩
  have hd1 : decide (1048576 < (len1 : Int)) = false := decide_eq_false (by omega)
  have HDM := Lib.hid fun w1 (hb : Below w.heap.size w w1) => code_urlGet a1 len1 cap1 z1 w1 (v1.below hb)
  clear hbig hbig1 w0 y0 y1
  go_enter Tryz.func8, Tryz.ntmps8
  go_wp2_with fail
  refine HDR.out.mono ?_
  rintro e w1 ⟨u, pv, rfl, fit, hP, hb1⟩
  clear HDR
  have hPc := hP
  obtain ⟨A, c, rfl, _, _⟩ := hPc
  obtain ⟨K3, hba⟩ := u_new w1 (uCells u (.slice A u.path.length c))
  have hP2 := hP.below hba
  have HB2 := below_then hb1 hb1.size hba
  clear hP hb1 hba
  unfold uCells at K3 hP2 HB2 ⊢
  go_upto_region 4 with fail
  generalize w1.alloc _ = w2 at K3 hP2 HB2 ⊢
  generalize w1.heap.size = g3 at K3 ⊢
  have K3_2 := K3
  have hPu_2 := hP2
  have HB_2 := HB2
  clear K3 hP2 HB2
  have HIP := Lib.hid fun w1 hp (hb : Below w.heap.size w w1) => implUrlPut_walk u (.slice A u.path.length c) w1 fit hp (hT.below hb)
  have HSP := Lib.hid fun w1 hp => specUrlPut_walk u (.slice A u.path.length c) w1 fit hp
  have HIO := Lib.hid fun w1 hp (hb : Below w.heap.size w w1) => implUrlOk_walk u (.slice A u.path.length c) w1 fit hp (hT.below hb)
  have HSO := Lib.hid fun w1 hp => specUrlOk_walk u (.slice A u.path.length c) w1 fit hp
  have HG1 := Lib.hid fun w1 (hb : Below w.heap.size w w1) => implUrlGet_walk (urlPutV u) w1 (by have := urlPutV_len u fit; omega) (hT.s.below hb) (hT.m.below hb) (hT.i.below hb)
  have HGU := Lib.hid fun pv qv w1 (hp : PathAt w1 pv u.path) (hq : PathAt w1 qv u.path) => guUrl_walk u pv qv w1 hp hq fit.fit.pl
  obtain ⟨tb1, tb2⟩ := text_back u
  generalize urlPutV u = s at HIP HSP HG1 tb1 tb2
  generalize urlG s = x at HG1 tb1 tb2
  obtain ⟨x, ok⟩ := x
  dsimp only at HG1 tb1 tb2
  generalize okU u = ou at HIO HSO
  have hss : (s != s) = false := by simp
  have hoo : (ou != ou) = false := by cases ou <;> rfl
  have HT2 := Lib.hid tb2
  clear tb2 fit
  unfold uCells at HSP HIO HSO HGU
  have kc3 := K3_2.cells.1
  go_wp2_with fail
  refine (HIP.out _ hPu_2 HB_2).mono ?_
  rintro e w3 ⟨rfl, hb3⟩
  clear kc3
  have K3_3 := K3_2.below hb3
  have hPu_3 := hPu_2.below hb3
  have HB_3 := below_then HB_2 HB_2.size hb3
  clear K3_2 hPu_2 HB_2 hb3
  go_wp2_with fail
  refine (HG1.out _ HB_3).mono ?_
  rintro e w4 ⟨p3, rfl, hq3, hb4⟩
  obtain ⟨A3, c3, rfl, _⟩ := q_slice hq3
  have K3_4 := K3_3.below hb4
  have hPu_4 := hPu_3.below hb4
  have HB_4 := below_then HB_3 HB_3.size hb4
  clear K3_3 hPu_3 HB_3 hb4
  dsimp only at hq3
  obtain ⟨K7_5, hba⟩ := u_new w4 #[.string (B x.sch), .string (B x.usr), .string (B x.pas), .int .i64 x.hk, .string (B x.hn), .int .i64 x.ha, .int .i64 x.port, (.slice A3 x.path.length c3), .string (B x.opq), .bool x.hq, .string (B x.qry), .bool x.hf, .string (B x.frg)]
  have hPx_5 := pathAt_q (q_below hq3 hba)
  clear hq3
  have K3_5 := K3_4.below hba
  have hPu_5 := hPu_4.below hba
  have HB_5 := below_then HB_4 HB_4.size hba
  clear K3_4 hPu_4 HB_4 hba
  unfold uCells
  go_upto_region 6 with fail
  generalize w4.alloc _ = w5 at K7_5 K3_5 hPu_5 hPx_5 HB_5 ⊢
  generalize w4.heap.size = g7 at K7_5 ⊢
  cases ok with
  | false =>
    have he : s = [] := by cases s with | nil => rfl | cons a b => cases tb1
    subst he
    have he1 : (([] : Bs) != []) = false := rfl
    have he2 : (([] : Bs) == []) = true := rfl
    clear HT2 tb1
    refine wp_region_below (by kernel_rfl) (by kernel_rfl) ?_
    repeat (with_reducible refine wpQuiet_step (fun K hK => ?_); go_simp; first | (refine hK _ ?_; clear hK K) | (refine ⟨_, fun _ _ => rfl, hK _ ?_⟩; clear hK K) | (rw [if_neg (by decide)]; refine hK _ ?_; clear hK K) | (apply Exists.intro; refine ⟨fun wq hq => ?_, hK _ ?_⟩; (first | (go_at_call 25; with_reducible refine (HSP.out _ (hPu_5.below hq)).mono ?_; rintro e w3 ⟨rfl, hb3⟩; exact ⟨rfl, below_then hq hq.size hb3⟩) | (go_at_call 22; with_reducible refine (HIO.out _ (hPu_5.below hq) (below_then HB_5 HB_5.size hq)).mono ?_; rintro e w3 ⟨rfl, hb3⟩; exact ⟨rfl, below_then hq hq.size hb3⟩) | (go_at_call 21; with_reducible refine (HSO.out _ (hPu_5.below hq)).mono ?_; rintro e w3 ⟨rfl, hb3⟩; exact ⟨rfl, below_then hq hq.size hb3⟩) | (have kk0 := (K3_5.below hq).cells.1; have kk1 := (K7_5.below hq).cells.1; go_simp; with_reducible rfl)); clear hK K))
    with_reducible refine wpQuiet_nil ?_
    intro w6 hb6
    have HB_6 := below_then HB_5 HB_5.size hb6
    clear hb6 K3_5 K7_5 hPu_5 hPx_5 HB_5 HIP HSP HIO HSO HG1 HGU
    go_wp2_with fail
    refine (HDM.out _ HB_6).mono ?_
    rintro e w7 ⟨t, rfl, ht, hb7⟩
    have HB_7 := below_then HB_6 HB_6.size hb7
    clear   HB_6 hb7
    have HSP2 := Lib.hid fun w1 => specUrlGet_walk t w1 (by omega)
    have HIM := Lib.hid fun w1 (hb : Below w.heap.size w w1) => implUrlGet_walk t w1 (by omega) (hT.s.below hb) (hT.m.below hb) (hT.i.below hb)
    have hag := text_again t
    have fy := (sm_url t).fit
    generalize urlG t = y at HSP2 HIM hag fy
    obtain ⟨y, fine⟩ := y
    dsimp only at HSP2 HIM hag fy
    have HGY := Lib.hid fun pv qv w1 (hp : PathAt w1 pv y.path) (hq : PathAt w1 qv y.path) => guUrl_walk y pv qv w1 hp hq fy.fit.pl
    have HIY := Lib.hid fun pv w1 hp (hb : Below w.heap.size w w1) => implUrlPut_walk y pv w1 fy hp (hT.below hb)
    have HOY := Lib.hid fun pv w1 hp (hb : Below w.heap.size w w1) => implUrlOk_walk y pv w1 fy hp (hT.below hb)
    have HGZ := Lib.hid fun w1 (hb : Below w.heap.size w w1) => implUrlGet_walk (urlPutV y) w1 (by have := urlPutV_len y fy; omega) (hT.s.below hb) (hT.m.below hb) (hT.i.below hb)
    have HAG := Lib.hid hag
    clear hag fy
    have hff : (fine != fine) = false := by cases fine <;> rfl
    have hfe : (fine == fine) = true := by cases fine <;> rfl
    go_wp2_with fail
    refine (HIM.out _ HB_7).mono ?_
    rintro e w8 ⟨p10, rfl, hq10, hb8⟩
    obtain ⟨A10, c10, rfl, _⟩ := q_slice hq10
    have HB_8 := below_then HB_7 HB_7.size hb8
    clear   HB_7 hb8
    dsimp only at hq10
    obtain ⟨K10_9, hba⟩ := u_new w8 #[.string (B y.sch), .string (B y.usr), .string (B y.pas), .int .i64 y.hk, .string (B y.hn), .int .i64 y.ha, .int .i64 y.port, (.slice A10 y.path.length c10), .string (B y.opq), .bool y.hq, .string (B y.qry), .bool y.hf, .string (B y.frg)]
    have hP10_9 := pathAt_q (q_below hq10 hba)
    clear hq10
    have HB_9 := below_then HB_8 HB_8.size hba
    clear   HB_8 hba
    unfold uCells
    go_upto_region 10 with fail
    generalize w8.alloc _ = w9 at K10_9 hP10_9 HB_9 ⊢
    generalize w8.heap.size = g10 at K10_9 ⊢
    go_wp2_with fail
    refine (HSP2.out _).mono ?_
    rintro e w10 ⟨p12, rfl, hq12, hb10⟩
    obtain ⟨A12, c12, rfl, _⟩ := q_slice hq12
    have K10_10 := K10_9.below hb10
    have hP10_10 := hP10_9.below hb10
    have HB_10 := below_then HB_9 HB_9.size hb10
    clear K10_9 hP10_9 HB_9 hb10
    dsimp only at hq12
    obtain ⟨K12_11, hba⟩ := u_new w10 #[.string (B y.sch), .string (B y.usr), .string (B y.pas), .int .i64 y.hk, .string (B y.hn), .int .i64 y.ha, .int .i64 y.port, (.slice A12 y.path.length c12), .string (B y.opq), .bool y.hq, .string (B y.qry), .bool y.hf, .string (B y.frg)]
    have hP12_11 := pathAt_q (q_below hq12 hba)
    clear hq12
    have K10_11 := K10_10.below hba
    have hP10_11 := hP10_10.below hba
    have HB_11 := below_then HB_10 HB_10.size hba
    clear K10_10 hP10_10 HB_10 hba
    unfold uCells
    go_upto_region 11 with fail
    generalize w10.alloc _ = w11 at K10_11 K12_11 hP10_11 hP12_11 HB_11 ⊢
    generalize w10.heap.size = g12 at K12_11 ⊢
    have kc10 := K10_11.cells.1
    have kc12 := K12_11.cells.1
    go_wp2_with fail
    refine (HGY.out _ _ _ hP10_11 hP12_11).mono ?_
    rintro e w12 ⟨rfl, hb12⟩
    clear kc10 kc12
    have K10_12 := K10_11.below hb12
    have K12_12 := K12_11.below hb12
    have hP10_12 := hP10_11.below hb12
    have hP12_12 := hP12_11.below hb12
    have HB_12 := below_then HB_11 HB_11.size hb12
    clear K10_11 K12_11 hP10_11 hP12_11 HB_11 hb12
    cases fine with
    | false =>
      have kc10 := K10_12.cells.1
      have kc12 := K12_12.cells.1
      go_wp2_with fail
      refine (HGY.out _ _ _ hP10_12 hP12_12).mono ?_
      rintro e w13 ⟨rfl, hb13⟩
      clear kc10 kc12
      have HBe := Lib.hid (below_then HB_12 HB_12.size hb13)
      clear hb13
      go_wp2
      go_ret
      exact ⟨rfl, HBe.out⟩
    | true =>
      by_cases hl : 60 < t.length
      · have hd2 : decide (60 < (t.length : Int)) = true := decide_eq_true (by omega)
        have kc10 := K10_12.cells.1
        have kc12 := K12_12.cells.1
        go_wp2_with fail
        refine (HGY.out _ _ _ hP10_12 hP12_12).mono ?_
        rintro e w13 ⟨rfl, hb13⟩
        clear kc10 kc12
        have HBe := Lib.hid (below_then HB_12 HB_12.size hb13)
        clear hb13
        go_wp2
        go_ret
        exact ⟨rfl, HBe.out⟩
      · have hd2 : decide (60 < (t.length : Int)) = false := decide_eq_false (by omega)
        obtain ⟨a1, a2⟩ := HAG.out rfl (by omega)
        rw [a1] at HOY
        rw [a2] at HGZ
        generalize urlPutV y = s3 at HIY HGZ
        clear a1 a2 HAG hl HSP2 HIM
        have kc10 := K10_12.cells.1
        go_wp2_with fail
        refine (HIY.out _ _ hP10_12 HB_12).mono ?_
        rintro e w13 ⟨rfl, hb13⟩
        clear kc10
        have K10_13 := K10_12.below hb13
        have K12_13 := K12_12.below hb13
        have hP10_13 := hP10_12.below hb13
        have hP12_13 := hP12_12.below hb13
        have HB_13 := below_then HB_12 HB_12.size hb13
        clear K10_12 K12_12 hP10_12 hP12_12 HB_12 hb13
        go_wp2_with fail
        refine (HGZ.out _ HB_13).mono ?_
        rintro e w14 ⟨p14, rfl, hq14, hb14⟩
        obtain ⟨A14, c14, rfl, _⟩ := q_slice hq14
        have K10_14 := K10_13.below hb14
        have K12_14 := K12_13.below hb14
        have hP10_14 := hP10_13.below hb14
        have hP12_14 := hP12_13.below hb14
        have HB_14 := below_then HB_13 HB_13.size hb14
        clear K10_13 K12_13 hP10_13 hP12_13 HB_13 hb14
        dsimp only at hq14
        obtain ⟨K14_15, hba⟩ := u_new w14 #[.string (B y.sch), .string (B y.usr), .string (B y.pas), .int .i64 y.hk, .string (B y.hn), .int .i64 y.ha, .int .i64 y.port, (.slice A14 y.path.length c14), .string (B y.opq), .bool y.hq, .string (B y.qry), .bool y.hf, .string (B y.frg)]
        have hP14_15 := pathAt_q (q_below hq14 hba)
        clear hq14
        have K10_15 := K10_14.below hba
        have K12_15 := K12_14.below hba
        have hP10_15 := hP10_14.below hba
        have hP12_15 := hP12_14.below hba
        have HB_15 := below_then HB_14 HB_14.size hba
        clear K10_14 K12_14 hP10_14 hP12_14 HB_14 hba
        unfold uCells
        go_upto_region 14 with fail
        generalize w14.alloc _ = w15 at K10_15 K12_15 K14_15 hP10_15 hP12_15 hP14_15 HB_15 ⊢
        generalize w14.heap.size = g14 at K14_15 ⊢
        have kc10 := K10_15.cells.1
        go_wp2_with fail
        refine (HOY.out _ _ hP10_15 HB_15).mono ?_
        rintro e w16 ⟨rfl, hb16⟩
        clear kc10
        have K10_16 := K10_15.below hb16
        have K12_16 := K12_15.below hb16
        have K14_16 := K14_15.below hb16
        have hP10_16 := hP10_15.below hb16
        have hP12_16 := hP12_15.below hb16
        have hP14_16 := hP14_15.below hb16
        have HB_16 := below_then HB_15 HB_15.size hb16
        clear K10_15 K12_15 K14_15 hP10_15 hP12_15 hP14_15 HB_15 hb16
        have kc14 := K14_16.cells.1
        have kc10 := K10_16.cells.1
        go_wp2_with fail
        refine (HGY.out _ _ _ hP14_16 hP10_16).mono ?_
        rintro e w17 ⟨rfl, hb17⟩
        clear kc14 kc10
        have HBe := Lib.hid (below_then HB_16 HB_16.size hb17)
        clear hb17
        go_wp2
        go_ret
        exact ⟨rfl, HBe.out⟩
  | true =>
    obtain rfl : x = u := HT2.out rfl
    have he : s ≠ [] := fun q => by rw [q] at tb1; cases tb1
    have he1 : (s != []) = true := by simpa using he
    have he2 : (s == []) = false := by simpa using he
    have he3 : s.isEmpty = false := by cases s with | nil => exact absurd rfl he | cons a b => rfl
    clear HT2 tb1 he
    refine wp_region_below (by kernel_rfl) (by kernel_rfl) ?_
    repeat (with_reducible refine wpQuiet_step (fun K hK => ?_); go_simp; first | (refine hK _ ?_; clear hK K) | (refine ⟨_, fun _ _ => rfl, hK _ ?_⟩; clear hK K) | (rw [if_neg (by decide)]; refine hK _ ?_; clear hK K) | (apply Exists.intro; refine ⟨fun wq hq => ?_, hK _ ?_⟩; (first | (go_at_call 25; with_reducible refine (HSP.out _ (hPu_5.below hq)).mono ?_; rintro e w3 ⟨rfl, hb3⟩; exact ⟨rfl, below_then hq hq.size hb3⟩) | (go_at_call 22; with_reducible refine (HIO.out _ (hPu_5.below hq) (below_then HB_5 HB_5.size hq)).mono ?_; rintro e w3 ⟨rfl, hb3⟩; exact ⟨rfl, below_then hq hq.size hb3⟩) | (go_at_call 21; with_reducible refine (HSO.out _ (hPu_5.below hq)).mono ?_; rintro e w3 ⟨rfl, hb3⟩; exact ⟨rfl, below_then hq hq.size hb3⟩) | (go_at_call 17; with_reducible refine (HGU.out _ _ _ (hPx_5.below hq) (hPu_5.below hq)).mono ?_; rintro e w3 ⟨rfl, hb3⟩; exact ⟨rfl, below_then hq hq.size hb3⟩) | (have kk0 := (K3_5.below hq).cells.1; have kk1 := (K7_5.below hq).cells.1; go_simp; with_reducible rfl)); clear hK K))
    with_reducible refine wpQuiet_nil ?_
    intro w6 hb6
    have HB_6 := below_then HB_5 HB_5.size hb6
    clear hb6 K3_5 K7_5 hPu_5 hPx_5 HB_5 HIP HSP HIO HSO HG1 HGU
    go_wp2_with fail
    refine (HDM.out _ HB_6).mono ?_
    rintro e w7 ⟨t, rfl, ht, hb7⟩
    have HB_7 := below_then HB_6 HB_6.size hb7
    clear   HB_6 hb7
    have HSP2 := Lib.hid fun w1 => specUrlGet_walk t w1 (by omega)
    have HIM := Lib.hid fun w1 (hb : Below w.heap.size w w1) => implUrlGet_walk t w1 (by omega) (hT.s.below hb) (hT.m.below hb) (hT.i.below hb)
    have hag := text_again t
    have fy := (sm_url t).fit
    generalize urlG t = y at HSP2 HIM hag fy
    obtain ⟨y, fine⟩ := y
    dsimp only at HSP2 HIM hag fy
    have HGY := Lib.hid fun pv qv w1 (hp : PathAt w1 pv y.path) (hq : PathAt w1 qv y.path) => guUrl_walk y pv qv w1 hp hq fy.fit.pl
    have HIY := Lib.hid fun pv w1 hp (hb : Below w.heap.size w w1) => implUrlPut_walk y pv w1 fy hp (hT.below hb)
    have HOY := Lib.hid fun pv w1 hp (hb : Below w.heap.size w w1) => implUrlOk_walk y pv w1 fy hp (hT.below hb)
    have HGZ := Lib.hid fun w1 (hb : Below w.heap.size w w1) => implUrlGet_walk (urlPutV y) w1 (by have := urlPutV_len y fy; omega) (hT.s.below hb) (hT.m.below hb) (hT.i.below hb)
    have HAG := Lib.hid hag
    clear hag fy
    have hff : (fine != fine) = false := by cases fine <;> rfl
    have hfe : (fine == fine) = true := by cases fine <;> rfl
    go_wp2_with fail
    refine (HIM.out _ HB_7).mono ?_
    rintro e w8 ⟨p10, rfl, hq10, hb8⟩
    obtain ⟨A10, c10, rfl, _⟩ := q_slice hq10
    have HB_8 := below_then HB_7 HB_7.size hb8
    clear   HB_7 hb8
    dsimp only at hq10
    obtain ⟨K10_9, hba⟩ := u_new w8 #[.string (B y.sch), .string (B y.usr), .string (B y.pas), .int .i64 y.hk, .string (B y.hn), .int .i64 y.ha, .int .i64 y.port, (.slice A10 y.path.length c10), .string (B y.opq), .bool y.hq, .string (B y.qry), .bool y.hf, .string (B y.frg)]
    have hP10_9 := pathAt_q (q_below hq10 hba)
    clear hq10
    have HB_9 := below_then HB_8 HB_8.size hba
    clear   HB_8 hba
    unfold uCells
    go_upto_region 10 with fail
    generalize w8.alloc _ = w9 at K10_9 hP10_9 HB_9 ⊢
    generalize w8.heap.size = g10 at K10_9 ⊢
    go_wp2_with fail
    refine (HSP2.out _).mono ?_
    rintro e w10 ⟨p12, rfl, hq12, hb10⟩
    obtain ⟨A12, c12, rfl, _⟩ := q_slice hq12
    have K10_10 := K10_9.below hb10
    have hP10_10 := hP10_9.below hb10
    have HB_10 := below_then HB_9 HB_9.size hb10
    clear K10_9 hP10_9 HB_9 hb10
    dsimp only at hq12
    obtain ⟨K12_11, hba⟩ := u_new w10 #[.string (B y.sch), .string (B y.usr), .string (B y.pas), .int .i64 y.hk, .string (B y.hn), .int .i64 y.ha, .int .i64 y.port, (.slice A12 y.path.length c12), .string (B y.opq), .bool y.hq, .string (B y.qry), .bool y.hf, .string (B y.frg)]
    have hP12_11 := pathAt_q (q_below hq12 hba)
    clear hq12
    have K10_11 := K10_10.below hba
    have hP10_11 := hP10_10.below hba
    have HB_11 := below_then HB_10 HB_10.size hba
    clear K10_10 hP10_10 HB_10 hba
    unfold uCells
    go_upto_region 11 with fail
    generalize w10.alloc _ = w11 at K10_11 K12_11 hP10_11 hP12_11 HB_11 ⊢
    generalize w10.heap.size = g12 at K12_11 ⊢
    have kc10 := K10_11.cells.1
    have kc12 := K12_11.cells.1
    go_wp2_with fail
    refine (HGY.out _ _ _ hP10_11 hP12_11).mono ?_
    rintro e w12 ⟨rfl, hb12⟩
    clear kc10 kc12
    have K10_12 := K10_11.below hb12
    have K12_12 := K12_11.below hb12
    have hP10_12 := hP10_11.below hb12
    have hP12_12 := hP12_11.below hb12
    have HB_12 := below_then HB_11 HB_11.size hb12
    clear K10_11 K12_11 hP10_11 hP12_11 HB_11 hb12
    cases fine with
    | false =>
      have kc10 := K10_12.cells.1
      have kc12 := K12_12.cells.1
      go_wp2_with fail
      refine (HGY.out _ _ _ hP10_12 hP12_12).mono ?_
      rintro e w13 ⟨rfl, hb13⟩
      clear kc10 kc12
      have HBe := Lib.hid (below_then HB_12 HB_12.size hb13)
      clear hb13
      go_wp2
      go_ret
      exact ⟨rfl, HBe.out⟩
    | true =>
      by_cases hl : 60 < t.length
      · have hd2 : decide (60 < (t.length : Int)) = true := decide_eq_true (by omega)
        have kc10 := K10_12.cells.1
        have kc12 := K12_12.cells.1
        go_wp2_with fail
        refine (HGY.out _ _ _ hP10_12 hP12_12).mono ?_
        rintro e w13 ⟨rfl, hb13⟩
        clear kc10 kc12
        have HBe := Lib.hid (below_then HB_12 HB_12.size hb13)
        clear hb13
        go_wp2
        go_ret
        exact ⟨rfl, HBe.out⟩
      · have hd2 : decide (60 < (t.length : Int)) = false := decide_eq_false (by omega)
        obtain ⟨a1, a2⟩ := HAG.out rfl (by omega)
        rw [a1] at HOY
        rw [a2] at HGZ
        generalize urlPutV y = s3 at HIY HGZ
        clear a1 a2 HAG hl HSP2 HIM
        have kc10 := K10_12.cells.1
        go_wp2_with fail
        refine (HIY.out _ _ hP10_12 HB_12).mono ?_
        rintro e w13 ⟨rfl, hb13⟩
        clear kc10
        have K10_13 := K10_12.below hb13
        have K12_13 := K12_12.below hb13
        have hP10_13 := hP10_12.below hb13
        have hP12_13 := hP12_12.below hb13
        have HB_13 := below_then HB_12 HB_12.size hb13
        clear K10_12 K12_12 hP10_12 hP12_12 HB_12 hb13
        go_wp2_with fail
        refine (HGZ.out _ HB_13).mono ?_
        rintro e w14 ⟨p14, rfl, hq14, hb14⟩
        obtain ⟨A14, c14, rfl, _⟩ := q_slice hq14
        have K10_14 := K10_13.below hb14
        have K12_14 := K12_13.below hb14
        have hP10_14 := hP10_13.below hb14
        have hP12_14 := hP12_13.below hb14
        have HB_14 := below_then HB_13 HB_13.size hb14
        clear K10_13 K12_13 hP10_13 hP12_13 HB_13 hb14
        dsimp only at hq14
        obtain ⟨K14_15, hba⟩ := u_new w14 #[.string (B y.sch), .string (B y.usr), .string (B y.pas), .int .i64 y.hk, .string (B y.hn), .int .i64 y.ha, .int .i64 y.port, (.slice A14 y.path.length c14), .string (B y.opq), .bool y.hq, .string (B y.qry), .bool y.hf, .string (B y.frg)]
        have hP14_15 := pathAt_q (q_below hq14 hba)
        clear hq14
        have K10_15 := K10_14.below hba
        have K12_15 := K12_14.below hba
        have hP10_15 := hP10_14.below hba
        have hP12_15 := hP12_14.below hba
        have HB_15 := below_then HB_14 HB_14.size hba
        clear K10_14 K12_14 hP10_14 hP12_14 HB_14 hba
        unfold uCells
        go_upto_region 14 with fail
        generalize w14.alloc _ = w15 at K10_15 K12_15 K14_15 hP10_15 hP12_15 hP14_15 HB_15 ⊢
        generalize w14.heap.size = g14 at K14_15 ⊢
        have kc10 := K10_15.cells.1
        go_wp2_with fail
        refine (HOY.out _ _ hP10_15 HB_15).mono ?_
        rintro e w16 ⟨rfl, hb16⟩
        clear kc10
        have K10_16 := K10_15.below hb16
        have K12_16 := K12_15.below hb16
        have K14_16 := K14_15.below hb16
        have hP10_16 := hP10_15.below hb16
        have hP12_16 := hP12_15.below hb16
        have hP14_16 := hP14_15.below hb16
        have HB_16 := below_then HB_15 HB_15.size hb16
        clear K10_15 K12_15 K14_15 hP10_15 hP12_15 hP14_15 HB_15 hb16
        have kc14 := K14_16.cells.1
        have kc10 := K10_16.cells.1
        go_wp2_with fail
        refine (HGY.out _ _ _ hP14_16 hP10_16).mono ?_
        rintro e w17 ⟨rfl, hb17⟩
        clear kc14 kc10
        have HBe := Lib.hid (below_then HB_16 HB_16.size hb17)
        clear hb17
        go_wp2
        go_ret
        exact ⟨rfl, HBe.out⟩
end Go.Proofs.YtkfieoembkiopaaGreatDoor.H
