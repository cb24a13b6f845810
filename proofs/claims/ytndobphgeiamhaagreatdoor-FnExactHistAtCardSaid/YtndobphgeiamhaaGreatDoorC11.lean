/- Texts of this claim, joined: HEntT. Conditions: each theorem's own. -/
import Derived.Test.YtndobphgeiamhaaGreatDoorA01
import Derived.Test.YtndobphgeiamhaaGreatDoorA02
import Derived.Test.YtndobphgeiamhaaGreatDoorA03
import Derived.Test.YtndobphgeiamhaaGreatDoorA04
import Derived.Test.YtndobphgeiamhaaGreatDoorA05
import Derived.Test.YtndobphgeiamhaaGreatDoorA06
import Derived.Test.YtndobphgeiamhaaGreatDoorA07
import Derived.Test.YtndobphgeiamhaaGreatDoorA08
import Derived.Test.YtndobphgeiamhaaGreatDoorA09
import Derived.Test.YtndobphgeiamhaaGreatDoorA10
import Derived.Test.YtndobphgeiamhaaGreatDoorA11
import Derived.Test.YtndobphgeiamhaaGreatDoorA12
import Derived.Test.YtndobphgeiamhaaGreatDoorA13
import Derived.Test.YtndobphgeiamhaaGreatDoorA14
import Derived.Test.YtndobphgeiamhaaGreatDoorA15
import Derived.Test.YtndobphgeiamhaaGreatDoorA16
import Derived.Test.YtndobphgeiamhaaGreatDoorA17
import Derived.Below
import Derived.Deep.Draws
import Derived.Deep.AppendLies
import Derived.Maps.AppendAt
import Derived.OwnWalk
import Derived.Laws.BytesArg
import Derived.Laws.MakeOwn
import Derived.Laws.OwnMore
import Derived.Deep.OwnRows
import Derived.Tactics
import Derived.Lib.ConvBytes
import Derived.Laws.Slices
import Derived.WalkKit
import Derived.KernelRfl
import Derived.RowKit3
import Derived.Deep.LoopGhost
import Derived.Deep.QuietTactic
import Derived.BigQuiet
import Derived.WideLaws
import Derived.Deep.DeepCutAuto
import Derived.Deep.CutBlock
import Derived.Deep.RegionHeld3
import Derived.Laws.Rows
import Derived.Lib.AppendStr
import Derived.ArgAppend
import Derived.Laws.IdiomCopy
import Derived.RowKit
import Derived.OrdersHeld
import Derived.Laws.BitsLemmas
import Derived.Lib.Strings
import Derived.Lib.SmallJoins
import Derived.Lib.LaidTab
import Derived.Lib.ItoaNum
import Derived.SizedLaws
import Derived.Handed
import Derived.LaidMore
import Derived.Stop.Joined
import Derived.Lib.Slices
import Derived.Lib.Walk
import Derived.Lib.Builder
import Derived.Lib.UnsafeStr
import Derived.Lib.MakeNoZero
import Derived.Laws.Externs
import Derived.Shelf.RegionOpenPlain
import Derived.Lib.Split
import Derived.Lib.Replace
import Derived.Lib.ReplaceLaws
import Derived.Lib.IndexLaws
import Derived.Lib.IndexMore
import Derived.Lib.CountLaws
import Derived.Shelf.Strings.Builder1
import Derived.Shelf.Strings.Builder2
import Derived.Shelf.Strings.OnBuilder
import Derived.Shelf.Small.Utf8
import Derived.Shelf.Small.Strs
import Derived.Shelf.Strconv.Itoa0
import Derived.Shelf.Strconv.Itoa1
import Derived.Shelf.LaysM
import Derived.Shelf.Strconv.Itoa2
import Derived.Shelf.Strconv.Itoa3
import Derived.Shelf.Strings.Search1
import Derived.Shelf.Strings.Search2
import Derived.Shelf.Strings.Search3
import Derived.Shelf.Strings.Cut
import Derived.Shelf.Strings.Count
import Derived.Shelf.Strings.Shaped
import Derived.Shelf.Strings.LastIndex
import Derived.Shelf.Strings.Prefix
import Derived.Shelf.Strings.Split
import Derived.Shelf.Strings.Replace
import Derived.Shelf.Strings.Runes
import Derived.Shelf.Strings.IndexAny
import Derived.Shelf.Strings.AsciiSet
import Derived.Shelf.Strings.IndexAnyAll
import Derived.Shelf.Unicode.DecodeSlow
import Derived.Shelf.Slices.Turned
import Derived.Ground.Names2Prog
import Derived.Shelf.Slices.Clone
import Derived.Lib.SplitLaws
import Derived.Lib.Hide
import Derived.Laws.AppendOwn
import Derived.Outline
import Derived.Sort.Grow
import Derived.Laws.StructEq
import Derived.StillTailTactics
import Derived.Deep.RegionWith
import Derived.Lib.Bytealg
import Derived.WalkSmall
import Derived.Lib.IndexAny
import Derived.Lib.LastIndexByte
import Derived.Laws.RangeString
import Derived.Laws.Strings3
import Derived.WalkMore
import Derived.WalkSpells
import Derived.Deep.Strs
import Derived.SliceStrings
import Derived.ChangeArms
import Derived.OpenShut
import Derived.Test.YtndobphgeiamhaaGreatDoorC01
import Derived.Test.YtndobphgeiamhaaGreatDoorC02
set_option linter.unusedVariables false
namespace Go.Proofs.YtndobphgeiamhaaGreatDoor.H
open Go.RowKit Go.Proofs.YtndobphgeiamhaaGreatDoorW.PrintWords Go.Proofs.YtndobphgeiamhaaGreatDoor.Base Go.Proofs.YtndobphgeiamhaaGreatDoor.Pure
def szE (e : En) : Nat := szU e.u + e.st.length
structure WfE (e : En) : Prop where
  u : WfU e.u
  s : e.st.length ≤ 9223372036854775807
set_option maxHeartbeats 2000000 in
set_option maxRecDepth 100000 in
theorem szEntry_walk (x : En) (pv : Value) (n : Int) (w : World) (hP : PathAt w pv x.u.path) (hx : WfE x) (h0 : 0 ≤ n) (h1 : n ≤ 1048576) :
    Calls Tryz.prog 43 #[.agg (eCells x pv), .int .i64 n] w fun e w' => e = .returned (.int .i64 (if (szE x : Int) ≤ n then n - (szE x : Int) else -1)) ∧ Below w.heap.size w w' := by
  have HSZ := Lib.hid fun w1 (hb : Below w.heap.size w w1) => szUrl_walk x.u pv n w1 (hP.below hb) hx.u h0 h1
  have hl := hx.s
  have K0 := blk_new w (.cells (eCells x pv) 60)
  have HB0 := (Below.refl w.heap.size w).alloc (Nat.le_refl _) (.cells (eCells x pv) 60)
  obtain ⟨r, HR⟩ : ∃ r, Hid (r = if (szE x : Int) ≤ n then n - (szE x : Int) else -1) := ⟨_, Lib.hid rfl⟩
  have HE : Hid (szE x = szU x.u + x.st.length) := Lib.hid rfl
  rw [← HR.out]
  have HV : Hid (szV x.u n = if (szU x.u : Int) ≤ n then n - (szU x.u : Int) else -1) := Lib.hid rfl
  generalize szV x.u n = m at HSZ HV
  generalize szU x.u = a at HE HV
  clear hP hx
  unfold eCells uCells at *
  generalize x.st = st at *
  go_enter Tryz.func43, Tryz.ntmps43
  go_upto_region 1 with fail
  generalize w.alloc _ = w1 at K0 HB0 ⊢
  have kc := (cells17 K0).1
  go_wp2_with fail
  refine (HSZ.out _ HB0).mono ?_
  rintro e w2 ⟨rfl, hb2⟩
  have K2 := blk_below K0 hb2
  have HB2 := Lib.hid (below_then HB0 HB0.size hb2)
  clear kc K0 HB0 hb2
  have kc := (cells17 K2).1
  clear K2
  by_cases c1 : (a : Int) ≤ n
  · obtain rfl : m = n - (a : Int) := by rw [HV.out, if_pos c1]
    have hd : decide (n - (a : Int) < 0) = false := decide_eq_false (by omega)
    by_cases c2 : n - (a : Int) - (st.length : Int) < 0
    · have hd2 : decide (n - (a : Int) - (st.length : Int) < 0) = true := decide_eq_true c2
      have HX : Hid (r = -1) := Lib.hid (by rw [HR.out, HE.out, if_neg (by omega)])
      go_wp2
      go_ret
      exact ⟨by rw [HX.out]; rfl, HB2.out⟩
    · have hd2 : decide (n - (a : Int) - (st.length : Int) < 0) = false := decide_eq_false c2
      have HX : Hid (r = n - (a : Int) - (st.length : Int)) := Lib.hid (by rw [HR.out, HE.out, if_pos (by omega)]; omega)
      go_wp2
      go_ret
      exact ⟨by rw [HX.out]; rfl, HB2.out⟩
  · obtain rfl : m = -1 := by rw [HV.out, if_neg c1]
    have HX : Hid (r = -1) := Lib.hid (by rw [HR.out, HE.out, if_neg (by omega)])
    clear c1
    go_wp2
    go_ret
    exact ⟨by rw [HX.out]; rfl, HB2.out⟩
def sumE (es : List En) : Nat := (es.map szE).sum
theorem sumE_take (es : List En) (k : Nat) (h : k < es.length) : sumE (es.take (k + 1)) = sumE (es.take k) + szE es[k] := by
  unfold sumE; rw [List.take_succ_eq_append_getElem h, List.map_append, List.sum_append]; simp only [List.map_cons, List.map_nil, List.sum_cons, List.sum_nil, Nat.add_zero]
theorem sumE_mono (es : List En) (k : Nat) : sumE (es.take k) ≤ sumE es := by
  unfold sumE
  conv => rhs; rw [← List.take_append_drop k es]
  rw [List.map_append, List.sum_append]; omega
theorem sumE_le (es : List En) (k : Nat) (h : k < es.length) : szE es[k] ≤ sumE es := by
  have := sumE_mono es (k + 1)
  rw [sumE_take es k h] at this
  omega
def szEsV (es : List En) (n : Int) : Int := if ((es.length + sumE es : Nat) : Int) ≤ n then n - ((es.length + sumE es : Nat) : Int) else -1
set_option maxHeartbeats 2000000 in
set_option maxRecDepth 100000 in
theorem szEntryS_walk (v : Value) (es : List En) (n : Int) (w : World) (hR : RowE w v es) (hl : ∀ x ∈ es, WfE x) (hm : es.length ≤ 9223372036854775807) (h0 : 0 ≤ n) (h1 : n ≤ 1048576) :
    Calls Tryz.prog 19 #[v, .int .i64 n] w fun e w' => e = .returned (.int .i64 (szEsV es n)) ∧ Below w.heap.size w w' := by
  have HA := Lib.hid hR
  obtain ⟨A, c, rfl, hc, _⟩ := hR
  obtain ⟨r, HR⟩ : ∃ r, Hid (r = szEsV es n) := ⟨_, Lib.hid rfl⟩
  rw [← HR.out]
  have HSZ := Lib.hid fun (k : Nat) (h : k < es.length) pv m w1 (hP : PathAt w1 pv (es[k]).u.path) h0 h1 => szEntry_walk es[k] pv m w1 hP (hl _ (List.getElem_mem h)) h0 h1
  clear hl
  go_enter Tryz.func19, Tryz.ntmps19
  by_cases hn : (es.length : Int) ≤ n
  · have hd : decide (n - (es.length : Int) < 0) = false := decide_eq_false (by omega)
    go_wp2
    go_loopw [5, 1] (fun i l wr => ∃ k : Nat, k ≤ es.length ∧ i = .int .i64 k ∧ l = .int .i64 (n - (es.length : Int) - ((sumE (es.take k) : Nat) : Int)) ∧ ((es.length + sumE (es.take k) : Nat) : Int) ≤ n ∧ Below w.heap.size w wr) (fun i _ _ => es.length - (intOf i).toNat)
    case atStart => exact ⟨0, by omega, rfl, by simp [sumE], by simp [sumE]; omega, Below.refl _ _⟩
    case round =>
      obtain ⟨k, hk, rfl, rfl, hle, hb⟩ := hrel
      by_cases hlt : k < es.length
      · obtain ⟨ad, pv, e0, hpv, hcell⟩ := (HA.out.below hb).at k hlt
        subst e0
        have i1 : ((k : Int) < (es.length : Int)) := by omega
        have it : ((k : Int)).toNat = k := rfl
        have HST := Lib.hid (sumE_take es k hlt)
        have HC := Lib.hid (HSZ.out k hlt pv (n - (es.length : Int) - ((sumE (es.take k) : Nat) : Int)) wr hpv (by omega) (by omega))
        generalize es[k] = x at hcell HST HC hpv
        generalize sumE (es.take k) = a at *
        have HLE := Lib.hid hle
        clear hle hpv
        have HB := Lib.hid hb
        clear hb
        unfold eCells at hcell HC
        by_cases h2 : (szE x : Int) ≤ n - (es.length : Int) - (a : Int)
        · rw [if_pos h2] at HC
          have hd2 : decide (n - (es.length : Int) - (a : Int) - (szE x : Int) < 0) = false := decide_eq_false (by omega)
          have H2 := Lib.hid h2
          generalize hz : n - (es.length : Int) - (a : Int) - (szE x : Int) = z at *
          have HZ := Lib.hid hz
          clear h2 hz
          unfold C17 at hcell
          go_wp2_with fail
          refine HC.out.mono ?_
          rintro e w2 ⟨rfl, hb2⟩
          have HB2 := Lib.hid (below_then HB.out HB.out.size hb2)
          clear hcell hb2
          go_wp2
          go_roundw
          case rel => exact ⟨k + 1, by omega, by go_num, by rw [HST.out, ← HZ.out]; congr 1; omega, by rw [HST.out]; have := H2.out; omega, HB2.out⟩
          case measure => simp only [intOf]; omega
        · rw [if_neg h2] at HC
          have HX : Hid (r = -1) := Lib.hid (by
            have hmo := sumE_mono es (k + 1)
            rw [HST.out] at hmo
            rw [HR.out, szEsV, if_neg (by omega)])
          clear h2
          unfold C17 at hcell
          go_wp2_with fail
          refine HC.out.mono ?_
          rintro e w2 ⟨rfl, hb2⟩
          have HB2 := Lib.hid (below_then HB.out HB.out.size hb2)
          clear hcell hb2
          go_wp2
          go_ret
          exact ⟨by rw [HX.out]; rfl, HB2.out⟩
      · have hn2 : decide ((k : Int) < (es.length : Int)) = false := decide_eq_false (by omega)
        rw [List.take_of_length_le (by omega)] at hle ⊢
        have HX : Hid (r = n - (es.length : Int) - ((sumE es : Nat) : Int)) := Lib.hid (by rw [HR.out, szEsV, if_pos hle]; omega)
        clear hle
        go_wp2
        go_ret
        exact ⟨by rw [HX.out]; rfl, hb⟩
  · have hd : decide (n - (es.length : Int) < 0) = true := decide_eq_true (by omega)
    have HX : Hid (r = -1) := Lib.hid (by rw [HR.out, szEsV, if_neg (by omega)])
    go_wp2
    go_ret
    exact ⟨by rw [HX.out]; rfl, Below.refl _ _⟩
set_option maxHeartbeats 2000000 in
set_option maxRecDepth 100000 in
theorem eqEntry_walk (x : En) (pv qv : Value) (w : World) (hP : PathAt w pv x.u.path) (hQ : PathAt w qv x.u.path) (hm : x.u.path.length ≤ 1048576) :
    Calls Tryz.prog 48 #[.agg (eCells x pv), .agg (eCells x qv)] w fun e w' => e = .returned (.bool true) ∧ Below w.heap.size w w' := by
  have HEQ := Lib.hid fun w1 (hb : Below w.heap.size w w1) => eqUrl_walk x.u pv qv w1 (hP.below hb) (hQ.below hb) hm
  obtain ⟨K1, K2, HW⟩ := two_objs w (.cells (eCells x pv) 63) (.cells (eCells x qv) 63)
  clear hP hQ
  unfold eCells uCells at *
  go_enter Tryz.func48, Tryz.ntmps48
  go_upto_region 1 with fail
  generalize (w.alloc _).alloc _ = w1 at K1 K2 HW ⊢
  generalize w.heap.size + 1 = g at K2 ⊢
  have kc1 := (cells17 K1).1
  have kc2 := (cells17 K2).1
  go_wp2_with fail
  refine (HEQ.out _ HW).mono ?_
  rintro e w2 ⟨rfl, hb2⟩
  have kd1 := (cells17 (blk_below K1 hb2)).1
  have kd2 := (cells17 (blk_below K2 hb2)).1
  have HB2 := Lib.hid (below_then HW HW.size hb2)
  clear kc1 kc2 K1 K2 HW hb2
  go_wp2
  go_ret
  exact ⟨rfl, HB2.out⟩
set_option maxHeartbeats 2000000 in
set_option maxRecDepth 100000 in
theorem eqEntryS_walk (v v' : Value) (es : List En) (w : World) (hR : RowE w v es) (hS : RowE w v' es) (hm : ∀ x ∈ es, x.u.path.length ≤ 1048576) (hn : es.length ≤ 1048576) :
    Calls Tryz.prog 23 #[v, v'] w fun e w' => e = .returned (.bool true) ∧ Below w.heap.size w w' := by
  have HA := Lib.hid hR
  have HB := Lib.hid hS
  obtain ⟨A, c, rfl, hc, _⟩ := hR
  obtain ⟨A', c', rfl, hc', _⟩ := hS
  have HEQ := Lib.hid fun (k : Nat) (h : k < es.length) pv qv w1 (hP : PathAt w1 pv (es[k]).u.path) (hQ : PathAt w1 qv (es[k]).u.path) => eqEntry_walk es[k] pv qv w1 hP hQ (hm _ (List.getElem_mem h))
  clear hm
  go_enter Tryz.func23, Tryz.ntmps23
  go_wp2
  go_loopw [5] (fun i wr => ∃ k : Nat, k ≤ es.length ∧ i = .int .i64 k ∧ Below w.heap.size w wr) (fun i _ => es.length - (intOf i).toNat)
  case atStart => exact ⟨0, by omega, rfl, Below.refl _ _⟩
  case round =>
    obtain ⟨k, hk, rfl, hb⟩ := hrel
    by_cases hlt : k < es.length
    · have hbd := below_drew hb
      obtain ⟨ad, pv, e0, hpv, hcell⟩ := (HA.out.below hbd).at k hlt
      obtain ⟨ad', qv, e0', hqv, hcell'⟩ := (HB.out.below hbd).at k hlt
      subst e0 e0'
      have i1 : ((k : Int) < (es.length : Int)) := by omega
      have it : ((k : Int)).toNat = k := rfl
      have HC := Lib.hid (HEQ.out k hlt pv qv wr.drew hpv hqv)
      generalize es[k] = x at hcell hcell' HC hpv hqv
      have HBd := Lib.hid hbd
      clear hpv hqv hb hbd
      unfold eCells C17 at *
      go_upto_region 6 with fail
      go_region_with ((go_at_call 48; refine HC.out.mono ?_; rintro e w2 ⟨rfl, hb2⟩))
      all_goals
        have HB2 := Lib.hid (below_then HBd.out HBd.out.size hb2)
        clear hcell hcell' hb2
        go_wp2
        go_roundw
        case rel => exact ⟨k + 1, by omega, by go_num, HB2.out⟩
        case measure => simp only [intOf]; omega
    · have hn : decide ((k : Int) < (es.length : Int)) = false := decide_eq_false (by omega)
      go_wp2
      go_ret
      exact ⟨rfl, hb⟩
end Go.Proofs.YtndobphgeiamhaaGreatDoor.H
