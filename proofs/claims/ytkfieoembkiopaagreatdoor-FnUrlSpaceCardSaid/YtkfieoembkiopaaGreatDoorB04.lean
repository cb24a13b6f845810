/- Texts of this claim, joined: LUrlDSpace. Conditions: each theorem's own. -/
import Derived.Test.YtkfieoembkiopaaGreatDoorA01
import Derived.Test.YtkfieoembkiopaaGreatDoorA02
import Derived.Test.YtkfieoembkiopaaGreatDoorA03
import Derived.Test.YtkfieoembkiopaaGreatDoorA04
import Derived.Test.YtkfieoembkiopaaGreatDoorA05
import Derived.Test.YtkfieoembkiopaaGreatDoorA06
import Derived.Test.YtkfieoembkiopaaGreatDoorA07
import Derived.Test.YtkfieoembkiopaaGreatDoorA08
import Derived.Test.YtkfieoembkiopaaGreatDoorA09
import Derived.Test.YtkfieoembkiopaaGreatDoorA10
import Derived.Test.YtkfieoembkiopaaGreatDoorA11
import Derived.Test.YtkfieoembkiopaaGreatDoorA12
import Derived.Test.YtkfieoembkiopaaGreatDoorA13
import Derived.Test.YtkfieoembkiopaaGreatDoorA14
import Derived.Test.YtkfieoembkiopaaGreatDoorA15
import Derived.Test.YtkfieoembkiopaaGreatDoorA16
import Derived.Test.YtkfieoembkiopaaGreatDoorA17
import Derived.Test.YtkfieoembkiopaaGreatDoorA18
import Derived.Below
import Derived.Deep.Draws
import Derived.Deep.AppendLies
import Derived.Maps.AppendAt
import Derived.OwnWalk
import Derived.Laws.BytesArg
import Derived.Laws.MakeOwn
import Derived.Laws.OwnMore
import Derived.Deep.OwnRows
import Derived.Tactics
import Derived.Lib.ConvBytes
import Derived.Laws.Slices
import Derived.WalkKit
import Derived.KernelRfl
import Derived.RowKit3
import Derived.Deep.LoopGhost
import Derived.Deep.QuietTactic
import Derived.BigQuiet
import Derived.WideLaws
import Derived.Deep.DeepCutAuto
import Derived.Deep.CutBlock
import Derived.Deep.RegionHeld3
import Derived.Laws.Rows
import Derived.Lib.AppendStr
import Derived.ArgAppend
import Derived.Laws.IdiomCopy
import Derived.RowKit
import Derived.OrdersHeld
import Derived.Laws.BitsLemmas
import Derived.Lib.Strings
import Derived.Lib.SmallJoins
import Derived.Lib.LaidTab
import Derived.Lib.ItoaNum
import Derived.SizedLaws
import Derived.Handed
import Derived.LaidMore
import Derived.Stop.Joined
import Derived.Lib.Slices
import Derived.Lib.Walk
import Derived.Lib.Builder
import Derived.Lib.UnsafeStr
import Derived.Lib.MakeNoZero
import Derived.Laws.Externs
import Derived.Shelf.RegionOpenPlain
import Derived.Shelf.Strings.Builder1
import Derived.Shelf.Strings.Builder2
import Derived.Shelf.Strings.OnBuilder
import Derived.Shelf.Small.Utf8
import Derived.Shelf.Small.Strs
import Derived.Shelf.Strconv.Itoa0
import Derived.Shelf.Strconv.Itoa1
import Derived.Shelf.LaysM
import Derived.Shelf.Strconv.Itoa2
import Derived.Shelf.Strconv.Itoa3
import Derived.Shelf.Strings.Search1
import Derived.Shelf.Strings.Search2
import Derived.Shelf.Strings.Search3
import Derived.Shelf.Strings.Cut
import Derived.Shelf.Strings.Count
import Derived.Shelf.Strings.Shaped
import Derived.Shelf.Strings.LastIndex
import Derived.Shelf.Strings.Prefix
import Derived.Shelf.Strings.Split
import Derived.Shelf.Strings.Replace
import Derived.Shelf.Strings.Runes
import Derived.Shelf.Strings.IndexAny
import Derived.Shelf.Strings.AsciiSet
import Derived.Shelf.Strings.IndexAnyAll
import Derived.Shelf.Unicode.DecodeSlow
import Derived.Shelf.Slices.Turned
import Derived.Ground.Names2Prog
import Derived.Shelf.Slices.Clone
import Derived.Lib.Split
import Derived.Lib.Replace
import Derived.Lib.ReplaceLaws
import Derived.Lib.IndexLaws
import Derived.Lib.IndexMore
import Derived.Lib.CountLaws
import Derived.Laws.StructEq
import Derived.Outline
import Derived.Lib.Hide
import Derived.StillTailTactics
import Derived.Deep.RegionWith
import Derived.Lib.Bytealg
import Derived.Lib.SplitLaws
import Derived.Laws.AppendOwn
import Derived.Sort.Grow
import Derived.WalkSmall
import Derived.Lib.IndexAny
import Derived.Lib.LastIndexByte
import Derived.Laws.RangeString
import Derived.Laws.Strings3
import Derived.WalkMore
import Derived.Deep.RegionLaw
import Derived.ChangeSlices
import Derived.Test.YtkfieoembkiopaaGreatDoorB01
set_option linter.unusedVariables false
namespace Go.Proofs.YtkfieoembkiopaaGreatDoor.H
open Go.RowKit Go.Proofs.YtkfieoembkiopaaGreatDoorW.PrintWords Go.Proofs.YtkfieoembkiopaaGreatDoor.Base Go.Proofs.YtkfieoembkiopaaGreatDoor.Pure
theorem put13u {w : World} {g : Nat} (h : Blk w g zz) (u : Ur) (pv : Value) : Blk (((((((((((((w.setCell ⟨g, 0, none⟩ (.string (B u.sch))).setCell ⟨g, 1, none⟩ (.string (B u.usr))).setCell ⟨g, 2, none⟩ (.string (B u.pas))).setCell ⟨g, 3, none⟩ (.int .i64 u.hk)).setCell ⟨g, 4, none⟩ (.string (B u.hn))).setCell ⟨g, 5, none⟩ (.int .i64 u.ha)).setCell ⟨g, 6, none⟩ (.int .i64 u.port)).setCell ⟨g, 7, none⟩ pv).setCell ⟨g, 8, none⟩ (.string (B u.opq))).setCell ⟨g, 9, none⟩ (.bool u.hq)).setCell ⟨g, 10, none⟩ (.string (B u.qry))).setCell ⟨g, 11, none⟩ (.bool u.hf)).setCell ⟨g, 12, none⟩ (.string (B u.frg))) g (uCells u pv) := by
  unfold zz at h
  exact Blk.put13 h
set_option maxHeartbeats 4000000 in
set_option maxRecDepth 100000 in
theorem FnUrlSpace_walk (a0 : Option Addr) (len0 cap0 : Nat) (z0 : List Int) (w : World) (w0 : CodeRow w a0 len0 cap0 z0) (y0 : len0 * 1 ≤ 140737488351232) (hT : Tabs w) :
    Calls Tryz.prog 3 #[.slice a0 len0 cap0] w fun e w' => e = .returned (.bool true) ∧ Below w.heap.size w w' := by
  have HDR := Lib.hid (code_urlGet a0 len0 cap0 z0 w w0)
  by_cases hbig : 1048576 < len0
  · have hd : decide (1048576 < (len0 : Int)) = true := decide_eq_true (by omega)
    clear hT
    go_enter Tryz.func3, Tryz.ntmps3
    go_wp2
    go_ret
    exact ⟨rfl, Below.refl _ _⟩
  have hd : decide (1048576 < (len0 : Int)) = false := decide_eq_false (by omega)
  go_enter Tryz.func3, Tryz.ntmps3
  go_wp2_with fail
  refine HDR.out.mono ?_
  rintro e w1 ⟨t, rfl, ht, hb1⟩
  have HSP := Lib.hid fun w1 => specUrlGet_walk t w1 (by omega)
  have HIM := Lib.hid fun w1 (hb : Below w.heap.size w w1) => implUrlGet_walk t w1 (by omega) (hT.s.below hb) (hT.m.below hb) (hT.i.below hb)
  have HI2 := Lib.hid fun (l : Bs) w1 (hl : l.length ≤ 6010) (hb : Below w.heap.size w w1) => implUrlGet_walk l w1 (by omega) (hT.s.below hb) (hT.m.below hb) (hT.i.below hb)
  have HS : Hid (t.length ≤ 100 → ∀ l k, l = 32 :: 9 :: (t.take k ++ (10 :: (t.drop k ++ [13, 32]))) → l.length ≤ 6010 ∧ urlG l = urlG t) := Lib.hid fun h l k hl => by
    subst hl
    exact ⟨by simp; omega, urlG_space t k h⟩
  have h12 := urlG_12 t
  generalize urlG t = y at HSP HIM HS h12
  obtain ⟨u, ok⟩ := y
  dsimp only at HSP HIM h12
  have HEQ := Lib.hid fun qv rv w1 (hQ : PathAt w1 qv u.path) (hR : PathAt w1 rv u.path) => guUrl_walk u qv rv w1 hQ hR (by omega)
  clear hT hbig h12 y0 w0 HDR
  go_wp2_with fail
  refine (HIM.out _ hb1).mono ?_
  rintro e w2 ⟨p1, rfl, hq1, hb2⟩
  obtain ⟨A1, c1, rfl, _⟩ := q_slice hq1
  obtain ⟨K4, hba⟩ := u_new w2 (uCells u (.slice A1 u.path.length c1))
  have hU := pathAt_q (q_below hq1 hba)
  have hb23 := below_then hb2 hb2.size hba
  have HB3 := below_then hb1 hb1.size hb23
  clear hq1 hb2 hba hb23 hb1
  unfold uCells at K4 HB3 hU ⊢
  go_upto_region 5 with fail
  generalize w2.alloc _ = w3 at K4 HB3 hU ⊢
  generalize w2.heap.size = g4 at K4 ⊢
  go_wp2_with fail
  refine (HSP.out _).mono ?_
  rintro e w5 ⟨p2, rfl, hq2, hb5⟩
  obtain ⟨A2, c2, rfl, _⟩ := q_slice hq2
  obtain ⟨K6, hba⟩ := u_new w5 (uCells u (.slice A2 u.path.length c2))
  have hV := pathAt_q (q_below hq2 hba)
  have hb36 := below_then hb5 hb5.size hba
  have HB6 := below_then HB3 HB3.size hb36
  have K46 := K4.below hb36
  have hU6 := hU.below hb36
  clear hq2 hb5 hba hb36 HB3 K4 hU
  unfold uCells at K6 K46 HB6 hU6 hV ⊢
  go_upto_region 6 with fail
  generalize w5.alloc _ = w6 at K6 K46 HB6 hU6 hV ⊢
  generalize w5.heap.size = g6 at K6 ⊢
  have kc4 := K46.cells.1
  have kc6 := K6.cells.1
  go_wp2_with fail
  refine (HEQ.out _ _ _ hU6 hV).mono ?_
  rintro e w7 ⟨rfl, hb7⟩
  have hU7 := hU6.below hb7
  have hV7 := hV.below hb7
  have K47 := K46.below hb7
  have K67 := K6.below hb7
  have HB7 := below_then HB6 HB6.size hb7
  clear kc4 kc6 K46 K6 hU6 hV HB6 hb7
  have hoo : (ok != ok) = false := by cases ok <;> rfl
  have hoe : (ok == ok) = true := by cases ok <;> rfl
  by_cases hl : 100 < t.length
  · have hd1 : decide (100 < (t.length : Int)) = true := decide_eq_true (by omega)
    have kc4 := K47.cells.1
    have kc6 := K67.cells.1
    go_wp2_with fail
    refine (HEQ.out _ _ _ hU7 hV7).mono ?_
    rintro e w8 ⟨rfl, hb8⟩
    have HB8 := Lib.hid (below_then HB7 HB7.size hb8)
    clear hb8 HB7
    go_wp2
    go_ret
    exact ⟨rfl, HB8.out⟩
  · have hd1 : decide (100 < (t.length : Int)) = false := decide_eq_false (by omega)
    have HIC := Lib.hid fun (l : Bs) (k : Nat) w1 (hl : l = 32 :: 9 :: (t.take k ++ (10 :: (t.drop k ++ [13, 32])))) (hb : Below w.heap.size w w1) => (show Calls Tryz.prog 15 #[.string (B l)] w1 (UrlOut (u, ok) w1) from (HS.out (by omega) l k hl).2 ▸ HI2.out l w1 (HS.out (by omega) l k hl).1 hb)
    obtain ⟨k, hk⟩ : ∃ k, k = t.length / 2 := ⟨_, rfl⟩
    have hq : Int.tdiv (t.length : Int) 2 = (k : Int) := by rw [hk]; rfl
    have hkl : k ≤ t.length := by omega
    clear HS hk HSP HIM HI2
    go_upto_region 9 with fail
    have hx1 : (B t).extract 0 k = B (t.take k) := B_take t k
    have hx2 : (B t).extract k t.length = B (t.drop k) := by rw [B_extract, List.take_of_length_le (by simp)]
    have e1 : (⟨#[32, 9]⟩ : ByteArray) = B [32, 9] := rfl
    have e2 : (⟨#[10]⟩ : ByteArray) = B [10] := rfl
    have e3 : (⟨#[13, 32]⟩ : ByteArray) = B [13, 32] := rfl
    have eap := bapp
    have n1 : 0 ≤ (k : Int) := by omega
    have n2 : (k : Int) ≤ (t.length : Int) := by omega
    have n3 : ((k : Int)).toNat = k := rfl
    have HBd := below_drew HB7
    have HBa := below_then HBd HBd.size (below_alloc (Below.refl _ w7.drew) (.cells zz 28))
    unfold zz at HBa
    have k1 : ¬ 9223372036854775807 < 2 + min k t.length := by omega
    have Bd : Below w7.heap.size w7 w7.drew := below_drew (Below.refl _ _)
    have Ba : Below w7.heap.size w7 (w7.drew.alloc (.cells zz 28)) := below_then Bd Bd.size (below_alloc (Below.refl _ w7.drew) (.cells zz 28))
    have lta : w7.heap.size < (w7.drew.alloc (.cells zz 28)).heap.size := by simp
    have hlt4 := K47.lt
    go_region_with ((go_at_call 15; refine (HIC.out _ k _ ?sl ?sb).mono ?_; (case sl => first | rfl | simp); (case sb => first | exact HBd | exact HBa); rintro e w8 ⟨p3, rfl, hq3, hb8⟩; obtain ⟨A3, c3, rfl, _⟩ := q_slice hq3; dsimp only at hq3; (first | (have B78 : Below w7.heap.size w7 w8 := below_then Bd Bd.size hb8; have MK := True.intro) | (have B78 : Below w7.heap.size w7 w8 := below_then Ba Ba.size hb8; have K9 : Blk w8 w7.heap.size zz := (zz_new w7.drew).below hb8; unfold zz at K9; have kc9 := K9.cells)); unfold uCells))
    all_goals
      first
      | (have KF : Blk _ w7.heap.size (uCells u (.slice A3 u.path.length c3)) := put13u K9 u _
         have B79 := below13 (g := w7.heap.size) (v0 := .string (B u.sch)) (v1 := .string (B u.usr)) (v2 := .string (B u.pas)) (v3 := .int .i64 u.hk) (v4 := .string (B u.hn)) (v5 := .int .i64 u.ha) (v6 := .int .i64 u.port) (v7 := .slice A3 u.path.length c3) (v8 := .string (B u.opq)) (v9 := .bool u.hq) (v10 := .string (B u.qry)) (v11 := .bool u.hf) (v12 := .string (B u.frg)) B78 (Nat.le_refl _)
         have K49 := Blk.grown (K47.below B78) (grown13 (g := w7.heap.size) (v0 := .string (B u.sch)) (v1 := .string (B u.usr)) (v2 := .string (B u.pas)) (v3 := .int .i64 u.hk) (v4 := .string (B u.hn)) (v5 := .int .i64 u.ha) (v6 := .int .i64 u.port) (v7 := .slice A3 u.path.length c3) (v8 := .string (B u.opq)) (v9 := .bool u.hq) (v10 := .string (B u.qry)) (v11 := .bool u.hf) (v12 := .string (B u.frg)) (grown_b (Below.refl _ w8))) (Nat.ne_of_lt hlt4)
         have hX9 := pathAt_q (q_grown hq3 (grown13 (g := w7.heap.size) (v0 := .string (B u.sch)) (v1 := .string (B u.usr)) (v2 := .string (B u.pas)) (v3 := .int .i64 u.hk) (v4 := .string (B u.hn)) (v5 := .int .i64 u.ha) (v6 := .int .i64 u.port) (v7 := .slice A3 u.path.length c3) (v8 := .string (B u.opq)) (v9 := .bool u.hq) (v10 := .string (B u.qry)) (v11 := .bool u.hf) (v12 := .string (B u.frg)) (grown_b (Below.refl _ w8))) lta)
         have HB9 := below_then HB7 HB7.size B79
         have hU9 := hU7.below B79
         unfold uCells at KF
         clear B79
         generalize World.setCell (World.setCell (World.setCell (World.setCell (World.setCell (World.setCell (World.setCell (World.setCell (World.setCell (World.setCell (World.setCell (World.setCell (World.setCell _ _ _) _ _) _ _) _ _) _ _) _ _) _ _) _ _) _ _) _ _) _ _) _ _) _ _ = w9 at KF K49 hX9 hU9 HB9 ⊢)
      | (obtain ⟨KF, hbn⟩ := u_new w8 (uCells u (.slice A3 u.path.length c3))
         have B79 := below_then B78 B78.size hbn
         have K49 := K47.below B79
         have hX9 := (pathAt_q hq3).below hbn
         have HB9 := below_then HB7 HB7.size B79
         have hU9 := hU7.below B79
         clear hbn B79
         unfold uCells at KF K49 hX9 HB9 hU9
         generalize w8.alloc _ = w9 at KF K49 hX9 hU9 HB9 ⊢)
      have kc4 := K49.cells.1
      have kcf := KF.cells.1
      go_wp2_with fail
      refine (HEQ.out _ _ _ hX9 hU9).mono ?_
      rintro e w10 ⟨rfl, hb10⟩
      have HBe := Lib.hid (below_then HB9 HB9.size hb10)
      clear hb10 kc4 kcf
      go_wp2
      go_ret
      exact ⟨rfl, HBe.out⟩
end Go.Proofs.YtkfieoembkiopaaGreatDoor.H
