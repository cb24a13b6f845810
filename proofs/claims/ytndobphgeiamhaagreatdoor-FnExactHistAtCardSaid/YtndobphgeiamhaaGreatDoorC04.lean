/- Texts of this claim, joined: HEntI. Conditions: each theorem's own. -/
import Derived.Test.YtndobphgeiamhaaGreatDoorA01
import Derived.Test.YtndobphgeiamhaaGreatDoorA02
import Derived.Test.YtndobphgeiamhaaGreatDoorA03
import Derived.Test.YtndobphgeiamhaaGreatDoorA04
import Derived.Test.YtndobphgeiamhaaGreatDoorA05
import Derived.Test.YtndobphgeiamhaaGreatDoorA06
import Derived.Test.YtndobphgeiamhaaGreatDoorA07
import Derived.Test.YtndobphgeiamhaaGreatDoorA08
import Derived.Test.YtndobphgeiamhaaGreatDoorA09
import Derived.Test.YtndobphgeiamhaaGreatDoorA10
import Derived.Test.YtndobphgeiamhaaGreatDoorA11
import Derived.Test.YtndobphgeiamhaaGreatDoorA12
import Derived.Test.YtndobphgeiamhaaGreatDoorA13
import Derived.Test.YtndobphgeiamhaaGreatDoorA14
import Derived.Test.YtndobphgeiamhaaGreatDoorA15
import Derived.Test.YtndobphgeiamhaaGreatDoorA16
import Derived.Test.YtndobphgeiamhaaGreatDoorA17
import Derived.Below
import Derived.Deep.Draws
import Derived.Deep.AppendLies
import Derived.Maps.AppendAt
import Derived.OwnWalk
import Derived.Laws.BytesArg
import Derived.Laws.MakeOwn
import Derived.Laws.OwnMore
import Derived.Deep.OwnRows
import Derived.Tactics
import Derived.Lib.ConvBytes
import Derived.Laws.Slices
import Derived.WalkKit
import Derived.KernelRfl
import Derived.RowKit3
import Derived.Deep.LoopGhost
import Derived.Deep.QuietTactic
import Derived.BigQuiet
import Derived.WideLaws
import Derived.Deep.DeepCutAuto
import Derived.Deep.CutBlock
import Derived.Deep.RegionHeld3
import Derived.Laws.Rows
import Derived.Lib.AppendStr
import Derived.ArgAppend
import Derived.Laws.IdiomCopy
import Derived.RowKit
import Derived.OrdersHeld
import Derived.Laws.BitsLemmas
import Derived.Lib.Strings
import Derived.Lib.SmallJoins
import Derived.Lib.LaidTab
import Derived.Lib.ItoaNum
import Derived.SizedLaws
import Derived.Handed
import Derived.LaidMore
import Derived.Stop.Joined
import Derived.Lib.Slices
import Derived.Lib.Walk
import Derived.Lib.Builder
import Derived.Lib.UnsafeStr
import Derived.Lib.MakeNoZero
import Derived.Laws.Externs
import Derived.Shelf.RegionOpenPlain
import Derived.Lib.Split
import Derived.Lib.Replace
import Derived.Lib.ReplaceLaws
import Derived.Lib.IndexLaws
import Derived.Lib.IndexMore
import Derived.Lib.CountLaws
import Derived.Shelf.Strings.Builder1
import Derived.Shelf.Strings.Builder2
import Derived.Shelf.Strings.OnBuilder
import Derived.Shelf.Small.Utf8
import Derived.Shelf.Small.Strs
import Derived.Shelf.Strconv.Itoa0
import Derived.Shelf.Strconv.Itoa1
import Derived.Shelf.LaysM
import Derived.Shelf.Strconv.Itoa2
import Derived.Shelf.Strconv.Itoa3
import Derived.Shelf.Strings.Search1
import Derived.Shelf.Strings.Search2
import Derived.Shelf.Strings.Search3
import Derived.Shelf.Strings.Cut
import Derived.Shelf.Strings.Count
import Derived.Shelf.Strings.Shaped
import Derived.Shelf.Strings.LastIndex
import Derived.Shelf.Strings.Prefix
import Derived.Shelf.Strings.Split
import Derived.Shelf.Strings.Replace
import Derived.Shelf.Strings.Runes
import Derived.Shelf.Strings.IndexAny
import Derived.Shelf.Strings.AsciiSet
import Derived.Shelf.Strings.IndexAnyAll
import Derived.Shelf.Unicode.DecodeSlow
import Derived.Shelf.Slices.Turned
import Derived.Ground.Names2Prog
import Derived.Shelf.Slices.Clone
import Derived.Lib.SplitLaws
import Derived.Lib.Hide
import Derived.Laws.AppendOwn
import Derived.Outline
import Derived.Sort.Grow
import Derived.Laws.StructEq
import Derived.StillTailTactics
import Derived.Deep.RegionWith
import Derived.Lib.Bytealg
import Derived.WalkSmall
import Derived.Lib.IndexAny
import Derived.Lib.LastIndexByte
import Derived.Laws.RangeString
import Derived.Laws.Strings3
import Derived.WalkMore
import Derived.WalkSpells
import Derived.Deep.Strs
import Derived.SliceStrings
import Derived.ChangeArms
import Derived.OpenShut
import Derived.Test.YtndobphgeiamhaaGreatDoorC01
import Derived.Test.YtndobphgeiamhaaGreatDoorC02
import Derived.Test.YtndobphgeiamhaaGreatDoorC03
set_option linter.unusedVariables false
namespace Go.Proofs.YtndobphgeiamhaaGreatDoor.H
open Go.RowKit Go.Proofs.YtndobphgeiamhaaGreatDoorW.PrintWords Go.Proofs.YtndobphgeiamhaaGreatDoor.Base Go.Proofs.YtndobphgeiamhaaGreatDoor.Pure Go.Proofs.YtndobphgeiamhaaGreatDoor.Lh Go.Proofs.YtndobphgeiamhaaGreatDoor.Lp
def inV (n lo hi : Int) : Bool := decide (lo ≤ n) && decide (n ≤ hi)
theorem inV_f (n lo hi : Int) : (if n ≥ lo then (some (decide (n ≤ hi))) else (some false)) = some (inV n lo hi) := by
  unfold inV
  by_cases h : lo ≤ n
  · rw [if_pos h, decide_eq_true h]; rfl
  · rw [if_neg (by omega), decide_eq_false h]; rfl
theorem specInV_walk (n lo hi : Int) (w : World) : Calls Tryz.prog 65 #[.int .i64 n, .int .i64 lo, .int .i64 hi] w fun e w' => e = .returned (.bool (inV n lo hi)) ∧ Below w.heap.size w w' :=
  (spec_l1In.calls n lo hi _ w (inV_f n lo hi)).mono fun _ _ h => ⟨h.1, h.2.below⟩
theorem implInV_walk (n lo hi : Int) (w : World) : Calls Tryz.prog 46 #[.int .i64 n, .int .i64 lo, .int .i64 hi] w fun e w' => e = .returned (.bool (inV n lo hi)) ∧ Below w.heap.size w w' :=
  (impl_in.calls n lo hi _ w (inV_f n lo hi)).mono fun _ _ h => ⟨h.1, h.2.below⟩
def oneV (x : En) : Bool := inV x.step 0 60 && (okU x.u && (inV x.doc 0 9999 && (inV x.key 0 9999 && decide (x.st.length ≤ 20))))
set_option maxHeartbeats 2000000 in
set_option maxRecDepth 100000 in
theorem specOne_walk (x : En) (pv : Value) (w : World) (hu : FitP x.u) (hP : PathAt w pv x.u.path) :
    Calls Tryz.prog 44 #[.agg (eCells x pv)] w fun e w' => e = .returned (.bool (oneV x)) ∧ Below w.heap.size w w' := by
  have H1 := Lib.hid fun w1 => specInV_walk x.step 0 60 w1
  have H2 := Lib.hid fun w1 (hb : Below w.heap.size w w1) => specUrlOk_walk x.u pv w1 hu (hP.below hb)
  have H3 := Lib.hid fun w1 => specInV_walk x.doc 0 9999 w1
  have H4 := Lib.hid fun w1 => specInV_walk x.key 0 9999 w1
  have K0 := blk_new w (.cells (eCells x pv) 63)
  have HB0 := (Below.refl w.heap.size w).alloc (Nat.le_refl _) (.cells (eCells x pv) 63)
  have hl : Hid (decide (((x.st.length : Nat) : Int) ≤ 20) = decide (x.st.length ≤ 20)) := Lib.hid (by rw [decide_eq_decide]; omega)
  unfold oneV
  generalize inV x.step 0 60 = b1 at H1 ⊢
  generalize okU x.u = b2 at H2 ⊢
  generalize inV x.doc 0 9999 = b3 at H3 ⊢
  generalize inV x.key 0 9999 = b4 at H4 ⊢
  clear hu hP
  unfold eCells uCells at *
  go_enter Tryz.func44, Tryz.ntmps44
  go_upto_region 1 with fail
  generalize w.alloc _ = w1 at K0 HB0 ⊢
  have kc := (cells17 K0).1
  go_wp2_with fail
  refine (H1.out _).mono ?_
  rintro e w2 ⟨rfl, hb2⟩
  have K2 := blk_below K0 hb2
  have HB2 := Lib.hid (below_then HB0 HB0.size hb2)
  clear kc K0 HB0 hb2
  cases b1 with
  | false => go_wp2; go_ret; exact ⟨rfl, HB2.out⟩
  | true =>
    have kc := (cells17 K2).1
    go_wp2_with fail
    refine (H2.out _ HB2.out).mono ?_
    rintro e w3 ⟨rfl, hb3⟩
    have K3 := blk_below K2 hb3
    have HB3 := Lib.hid (below_then HB2.out HB2.out.size hb3)
    clear kc K2 HB2 hb3
    cases b2 with
    | false => go_wp2; go_ret; exact ⟨rfl, HB3.out⟩
    | true =>
      have kc := (cells17 K3).1
      go_wp2_with fail
      refine (H3.out _).mono ?_
      rintro e w4 ⟨rfl, hb4⟩
      have K4 := blk_below K3 hb4
      have HB4 := Lib.hid (below_then HB3.out HB3.out.size hb4)
      clear kc K3 HB3 hb4
      cases b3 with
      | false => go_wp2; go_ret; exact ⟨rfl, HB4.out⟩
      | true =>
        have kc := (cells17 K4).1
        go_wp2_with fail
        refine (H4.out _).mono ?_
        rintro e w5 ⟨rfl, hb5⟩
        have K5 := blk_below K4 hb5
        have HB5 := Lib.hid (below_then HB4.out HB4.out.size hb5)
        clear kc K4 HB4 hb5
        cases b4 with
        | false => go_wp2; go_ret; exact ⟨rfl, HB5.out⟩
        | true =>
          have kc := (cells17 K5).1
          go_wp2
          go_ret
          exact ⟨by rw [← hl.out]; rfl, HB5.out⟩
def keyV (es : List En) (key : Int) : Int := match es.findIdx? (fun x => x.key == key) with | some k => (k : Int) | none => -1
theorem keyV_some {es : List En} {key : Int} (k : Nat) (h : k < es.length) (h1 : es[k].key = key) (h2 : ∀ j (q : j < es.length), j < k → ¬ es[j].key = key) : keyV es key = (k : Int) := by
  unfold keyV
  rw [List.findIdx?_eq_some_iff_getElem.2 ⟨h, by simpa using h1, fun j hj => by simpa using h2 j (by omega) hj⟩]
theorem keyV_none {es : List En} {key : Int} (h2 : ∀ j (q : j < es.length), ¬ es[j].key = key) : keyV es key = -1 := by
  unfold keyV
  rw [List.findIdx?_eq_none_iff.2 fun x hx => by obtain ⟨j, hj, rfl⟩ := List.mem_iff_getElem.1 hx; simpa using h2 j hj]
def atE (es : List En) (s : Int) : Nat → Int
  | 0 => -1
  | n + 1 => if h : n < es.length then (if es[n].step ≤ s then (n : Int) else atE es s n) else atE es s n
theorem atE_step (es : List En) (s : Int) (k : Nat) (h : k < es.length) : atE es s (k + 1) = if es[k].step ≤ s then (k : Int) else atE es s k := by
  rw [atE, dif_pos h]
set_option maxHeartbeats 2000000 in
set_option maxRecDepth 100000 in
theorem l5At_walk (v : Value) (es : List En) (s : Int) (w : World) (hR : RowE w v es) (hn : es.length ≤ 1048576) :
    Calls Tryz.prog 49 #[v, .int .i64 s] w fun e w' => e = .returned (.int .i64 (atE es s es.length)) ∧ Below w.heap.size w w' := by
  have HA := Lib.hid hR
  obtain ⟨A, c, rfl, hc, _⟩ := hR
  go_enter Tryz.func49, Tryz.ntmps49
  go_wp2
  go_loopw [6, 5] (fun i a wr => ∃ k : Nat, k ≤ es.length ∧ i = .int .i64 k ∧ a = .int .i64 (atE es s k) ∧ Below w.heap.size w wr) (fun i _ _ => es.length - (intOf i).toNat)
  case atStart => exact ⟨0, by omega, rfl, rfl, Below.refl _ _⟩
  case round =>
    obtain ⟨k, hk, rfl, rfl, hb⟩ := hrel
    by_cases hlt : k < es.length
    · obtain ⟨ad, e0, hcell, _, _⟩ := (HA.out.below hb).cell k hlt
      subst e0
      have i1 : ((k : Int) < (es.length : Int)) := by omega
      have it : ((k : Int)).toNat = k := rfl
      have HS := Lib.hid (atE_step es s k hlt)
      generalize es[k].step = x at hcell HS
      by_cases hx : x ≤ s
      · have hd : decide (x ≤ s) = true := decide_eq_true hx
        rw [if_pos hx] at HS
        clear hx
        go_wp2
        go_roundw
        case rel => exact ⟨k + 1, by omega, by go_num, by rw [HS.out], hb⟩
        case measure => simp only [intOf]; omega
      · have hd : decide (x ≤ s) = false := decide_eq_false hx
        rw [if_neg hx] at HS
        clear hx
        go_wp2
        go_roundw
        case rel => exact ⟨k + 1, by omega, by go_num, by rw [HS.out], hb⟩
        case measure => simp only [intOf]; omega
    · have hn2 : decide ((k : Int) < (es.length : Int)) = false := decide_eq_false (by omega)
      obtain rfl : k = es.length := by omega
      go_wp2
      go_ret
      exact ⟨rfl, hb⟩
set_option maxHeartbeats 2000000 in
set_option maxRecDepth 100000 in
theorem histAt_walk (v : Value) (es : List En) (s : Int) (w : World) (hR : RowE w v es) (hn : es.length ≤ 1048576) :
    Calls Tryz.prog 50 #[v, .int .i64 s] w fun e w' => e = .returned (.int .i64 (atE es s es.length)) ∧ Below w.heap.size w w' := by
  have HA := Lib.hid hR
  obtain ⟨A, c, rfl, hc, _⟩ := hR
  go_enter Tryz.func50, Tryz.ntmps50
  go_wp2
  go_loopw [10, 5] (fun i a wr => ∃ k : Nat, k ≤ es.length ∧ i = .int .i64 k ∧ a = .int .i64 (atE es s k) ∧ Below w.heap.size w wr) (fun i _ _ => es.length - (intOf i).toNat)
  case atStart => exact ⟨0, by omega, rfl, rfl, Below.refl _ _⟩
  case round =>
    obtain ⟨k, hk, rfl, rfl, hb⟩ := hrel
    by_cases hlt : k < es.length
    · obtain ⟨ad, pv, e0, hpv, hcell⟩ := (HA.out.below hb).at k hlt
      subst e0
      have i1 : ((k : Int) < (es.length : Int)) := by omega
      have it : ((k : Int)).toNat = k := rfl
      have HS := Lib.hid (atE_step es s k hlt)
      generalize es[k] = x at hcell HS hpv
      obtain ⟨Ap, cp, rfl, _, _⟩ := hpv
      have HB := Lib.hid hb
      clear hb
      unfold eCells C17 at hcell
      by_cases hx : x.step ≤ s
      · have hd : decide (x.step ≤ s) = true := decide_eq_true hx
        rw [if_pos hx] at HS
        clear hx
        go_wp2
        go_roundw
        case rel => exact ⟨k + 1, by omega, by go_num, by rw [HS.out], HB.out.alloc HB.out.size _⟩
        case measure => simp only [intOf]; omega
      · have hd : decide (x.step ≤ s) = false := decide_eq_false hx
        rw [if_neg hx] at HS
        clear hx
        go_wp2
        go_roundw
        case rel => exact ⟨k + 1, by omega, by go_num, by rw [HS.out], HB.out.alloc HB.out.size _⟩
        case measure => simp only [intOf]; omega
    · have hn2 : decide ((k : Int) < (es.length : Int)) = false := decide_eq_false (by omega)
      obtain rfl : k = es.length := by omega
      go_wp2
      go_ret
      exact ⟨rfl, hb⟩
set_option maxHeartbeats 2000000 in
set_option maxRecDepth 100000 in
theorem keyFn_walk (x : En) (pv : Value) (key : Int) (g : Nat) (w : World) (hg : w.cell? ⟨g, 0, none⟩ = some (.int .i64 key)) (hlt : g < w.heap.size) :
    Calls Tryz.prog 67 #[.agg (eCells x pv), .pointer (some ⟨g, 0, none⟩)] w fun e w' => e = .returned (.bool (x.key == key)) ∧ Below w.heap.size w w' := by
  have K0 := blk_new w (.cells (eCells x pv) 63)
  have HB0 := (Below.refl w.heap.size w).alloc (Nat.le_refl _) (.cells (eCells x pv) 63)
  have hg1 : (w.alloc (.cells (eCells x pv) 63)).cell? ⟨g, 0, none⟩ = some (.int .i64 key) := cell_later HB0 hg
  unfold eCells at *
  go_enter Tryz.func67, Tryz.ntmps67
  go_upto_region 1 with fail
  generalize w.alloc _ = w1 at K0 HB0 hg1 ⊢
  have kc := (cells17 K0).1
  go_wp2
  go_ret
  exact ⟨rfl, HB0⟩
set_option maxHeartbeats 2000000 in
set_option maxRecDepth 100000 in
theorem indexFn_walk (v : Value) (es : List En) (key : Int) (g : Nat) (w : World) (hR : RowE w v es) (hn : es.length ≤ 1048576) (hg : w.cell? ⟨g, 0, none⟩ = some (.int .i64 key)) (hlg : g < w.heap.size) :
    Calls Tryz.prog 66 #[v, .func (.func 67) #[] #[.pointer (some ⟨g, 0, none⟩)]] w fun e w' => e = .returned (.int .i64 (keyV es key)) ∧ Below w.heap.size w w' := by
  have HA := Lib.hid hR
  obtain ⟨A, c, rfl, hc, _⟩ := hR
  have HG := Lib.hid hg
  clear hg
  obtain ⟨r, HR⟩ : ∃ r, Hid (r = keyV es key) := ⟨_, Lib.hid rfl⟩
  rw [← HR.out]
  go_enter Tryz.func66, Tryz.ntmps66
  go_wp2
  go_loopw [8] (fun i wr => ∃ k : Nat, k ≤ es.length ∧ i = .int .i64 k ∧ (∀ j (q : j < es.length), j < k → ¬ es[j].key = key) ∧ Below w.heap.size w wr) (fun i _ => es.length - (intOf i).toNat)
  case atStart => exact ⟨0, by omega, rfl, fun j _ h => absurd h (by omega), Below.refl _ _⟩
  case round =>
    obtain ⟨k, hk, rfl, hne, hb⟩ := hrel
    by_cases hlt : k < es.length
    · obtain ⟨ad, pv, e0, hpv, hcell⟩ := (HA.out.below hb).at k hlt
      subst e0
      have i1 : ((k : Int) < (es.length : Int)) := by omega
      have it : ((k : Int)).toNat = k := rfl
      have HN := Lib.hid hne
      have HX : ∃ x, Hid (x = es[k]) := ⟨_, Lib.hid rfl⟩
      obtain ⟨x, HX⟩ := HX
      rw [← HX.out] at hcell hpv
      have HF := Lib.hid (keyFn_walk x pv key g wr (cell_later hb HG.out) (Nat.lt_of_lt_of_le hlg hb.size))
      have HB := Lib.hid hb
      clear hpv hb hne
      unfold eCells C17 at hcell
      unfold eCells at HF
      obtain ⟨q, HQ⟩ : ∃ q, Hid ((x.key == key) = q) := ⟨_, Lib.hid rfl⟩
      rw [HQ.out] at HF
      go_wp2_with fail
      refine HF.out.mono ?_
      rintro e w2 ⟨rfl, hb2⟩
      have HB2 := Lib.hid (below_then HB.out HB.out.size hb2)
      clear hcell hb2
      cases q with
      | true =>
        have HY : Hid (r = (k : Int)) := Lib.hid (by rw [HR.out]; exact keyV_some k hlt (by rw [← HX.out]; exact eq_of_beq HQ.out) HN.out)
        go_wp2
        go_ret
        exact ⟨by rw [HY.out]; rfl, HB2.out⟩
      | false =>
        have HN2 : Hid (∀ j (q : j < es.length), j < k + 1 → ¬ es[j].key = key) := Lib.hid fun j q hj => by
          by_cases e : j = k
          · subst e; rw [← HX.out]; exact beq_eq_false_iff_ne.1 HQ.out
          · exact HN.out j q (by omega)
        go_wp2
        go_roundw
        case rel => exact ⟨k + 1, by omega, by go_num, HN2.out, HB2.out⟩
        case measure => simp only [intOf]; omega
    · have hn2 : decide ((k : Int) < (es.length : Int)) = false := decide_eq_false (by omega)
      have HX : Hid (r = -1) := Lib.hid (by rw [HR.out]; exact keyV_none fun j q => hne j q (by omega))
      clear hne
      go_wp2
      go_ret
      exact ⟨by rw [HX.out]; rfl, hb⟩
set_option maxHeartbeats 2000000 in
set_option maxRecDepth 100000 in
theorem keyAt_walk (v : Value) (es : List En) (key : Int) (w : World) (hR : RowE w v es) (hn : es.length ≤ 1048576) :
    Calls Tryz.prog 47 #[v, .int .i64 key] w fun e w' => e = .returned (.int .i64 (keyV es key)) ∧ Below w.heap.size w w' := by
  have K0 := blk_new w (.cells #[.int .i64 key] 3)
  have HB0 := (Below.refl w.heap.size w).alloc (Nat.le_refl _) (.cells #[.int .i64 key] 3)
  have HI := Lib.hid (indexFn_walk v es key w.heap.size _ (hR.below HB0) hn (blk_cell K0 0) (blk_lt K0))
  have hmf : ∀ (fn : Fn) (first cap : Array Value) (w : World), (Instr.makeFunc fn first cap).run Tryz.prog w = .ok (.func fn first cap) w := fun _ _ _ _ => rfl
  clear hR K0
  have HB1 := Lib.hid HB0
  clear HB0
  go_enter Tryz.func47, Tryz.ntmps47
  go_wp2_with fail
  refine HI.out.mono ?_
  rintro e w2 ⟨rfl, hb2⟩
  have HB2 := Lib.hid (below_then HB1.out HB1.out.size hb2)
  clear hb2
  go_wp2
  go_ret
  exact ⟨rfl, HB2.out⟩
end Go.Proofs.YtndobphgeiamhaaGreatDoor.H
