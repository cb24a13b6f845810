/- Texts of this claim, joined: DEntH, DEntK, HUrlJ, Lpx, HEntI, HEntN, HEntP, HUrlR, HEntO, HEntR, DEntP, WSized. Conditions: each theorem's own. -/
import Derived.Test.YtopcpbokfngpeaaGreatDoorB16
import Derived.Deep.RegionWith
import Derived.Test.YtopcpbokfngpeaaGreatDoorB02
import Derived.Test.YtopcpbokfngpeaaGreatDoorB04
import Derived.Test.YtopcpbokfngpeaaGreatDoorB05
import Derived.Test.YtopcpbokfngpeaaGreatDoorB10
import Derived.Test.YtopcpbokfngpeaaGreatDoorB01
import Derived.Deep.QuietTactic
import Derived.SizedLaws
import Derived.ChangeSlices
/- spec.l11Hist, l11AnyHist: what is drawn is a row of at most 20 entries whose addresses' texts are not too long. Conditions: each theorem's own. -/
set_option linter.unusedVariables false
namespace Go.Proofs.YtopcpbokfngpeaaGreatDoor.H
open Go.RowKit Go.Proofs.YtopcpbokfngpeaaGreatDoorW.PrintWords Go.Proofs.YtopcpbokfngpeaaGreatDoor.Base Go.Proofs.YtopcpbokfngpeaaGreatDoor.Pure
def ZE : Value := .agg #[.int .i64 0, .string ByteArray.empty, .string ByteArray.empty, .string ByteArray.empty, .int .i64 0, .string ByteArray.empty, .int .i64 0, .int .i64 0, .slice none 0 0, .string ByteArray.empty, .bool false, .string ByteArray.empty, .bool false, .string ByteArray.empty, .int .i64 0, .int .i64 0, .string ByteArray.empty]
theorem info_entry : ∃ i, Tryz.prog.info? 49 = some i ∧ i.zero = some ZE ∧ i.size = 17 ∧ i.bytes = 216 := by
 have hinfo : (Tryz.prog.info? 49).map (fun i => (i.zero, i.size, i.bytes)) = some (some ZE, 17, 216) := by kernel_rfl
 obtain ⟨i, hi, hzz⟩ := Option.map_eq_some_iff.1 hinfo
 simp only [Prod.mk.injEq] at hzz
 exact ⟨i, hi, hzz⟩
theorem eCells_one (e : En) (pv : Value) (h : pv.oneCell' = true) : ∀ u ∈ (eCells e pv).toList, u.oneCell' = true := by
 intro u hu
 unfold eCells at hu
 simp only [List.mem_cons, List.not_mem_nil, or_false] at hu
 rcases hu with rfl | rfl | rfl | rfl | rfl | rfl | rfl | rfl | rfl | rfl | rfl | rfl | rfl | rfl | rfl | rfl | rfl
 all_goals first | rfl | exact h
def lenOf : Value → Nat
 | .slice _ n _ => n
 | _ => 0
/-- What a drawn row of entries leaves. -/
def HistDrew (w0 w : World) (g n : Nat) (e : Ending) (w' : World) : Prop := ∃ v xs, e = .returned v ∧ RowD w' w.heap.size (g + 1) v xs ∧ xs.length ≤ 20 ∧ Drew w0 w w' g n
set_option maxHeartbeats 8000000 in
set_option maxRecDepth 100000 in
theorem hist_draw (g n : Nat) (w0 w : World) (h : Drew w0 w w g (n + 100)) : Calls Tryz.prog 100 #[.pointer (some ⟨g, 0, none⟩)] w (HistDrew w0 w g n) := by
 obtain ⟨i0, hi, hz0, hz1, hz2⟩ := info_entry
 have hgl := h.rd.lt
 have hs0 := h.b.size
 have R1 := rowD_nil w (g + 1)
 have D1 := h.alloc (.cells #[] 49)
 go_enter Tryz.func100, Tryz.ntmps100
 go_upto_region 2 with fail
 generalize w.alloc _ = w1 at R1 D1 ⊢
 go_wp2_with fail
 refine (pick_draw g (n + 99) 2 w0 w1 w1 D1.at (by omega) (by omega)).mono ?_
 rintro e w2 ⟨r, rfl, hr, D12⟩
 have R2 := R1.drewn D12 hgl (Nat.lt_succ_self g)
 have D2 := D1.trans D12
 clear D12 R1 D1
 go_wp2_with fail
 refine (pick_draw g (n + 98) 6 w0 w2 w2 D2.at (by omega) (by omega)).mono ?_
 rintro e w3 ⟨r2, rfl, hr2, D23⟩
 have R3 := R2.drewn D23 hgl (Nat.lt_succ_self g)
 have D3 := D2.trans D23
 clear D23 R2 D2
 have hsw : w.heap.size ≤ w.heap.size := Nat.le_refl _
 go_wp2_with fail
 go_loopw [3, 4, 5] (fun a s i wr => ∃ (k : Nat) (st : Int) (xs : List (En × Value)), i = .int .i64 k ∧ k ≤ 5 ∧ s = .int .i64 st ∧ (0 ≤ st ∧ st + 4 * k ≤ 40) ∧ RowD wr w.heap.size (g + 1) a xs ∧ xs.length + k ≤ 5 ∧ Drew w0 w wr g (n + 40 + 5 * k)) (fun _ _ i _ => (intOf i).toNat)
 case atStart => exact ⟨r2, _, [], rfl, by omega, rfl, by omega, R3, by simp; omega, D3.less (by omega)⟩
 case round =>
  obtain ⟨k, st, xs, rfl, hk, rfl, hst, R, hxs, D⟩ := hrel
  obtain ⟨A0, c0, rfl, _⟩ := own_form R.own
  by_cases hlt : 0 < k
  ·obtain ⟨m, rfl⟩ : ∃ m, k = m + 1 := ⟨k - 1, by omega⟩
   have hd : decide ((0 : Int) < ((m + 1 : Nat) : Int)) = true := decide_eq_true (by omega)
   go_wp2_with fail
   refine (near_draw g (n + 44 + 5 * m) w0 wr (D.at.less (by omega))).mono ?_
   rintro e w4 ⟨u, pv, rfl, sm, hq4, Dx⟩
   obtain ⟨A, c, rfl, _⟩ := q_slice hq4
   have R4 := R.drewn Dx hgl (Nat.lt_succ_self g)
   have D4 := D.trans Dx
   clear Dx R D
   go_wp2_with fail
   refine (pick_draw g (n + 43 + 5 * m) 4 w0 w4 w4 (D4.at.less (by omega)) (by omega) (by omega)).mono ?_
   rintro e w5 ⟨r3, rfl, hr3, Dx⟩
   have R5 := R4.drewn Dx hgl (Nat.lt_succ_self g)
   have hq5 := q_drewn hq4 Dx (Nat.lt_succ_self g)
   have D5 := D4.trans Dx
   clear Dx R4 D4 hq4
   go_wp2_with fail
   refine (pick_draw g (n + 42 + 5 * m) 9 w0 w5 w5 (D5.at.less (by omega)) (by omega) (by omega)).mono ?_
   rintro e w6 ⟨r4, rfl, hr4, Dx⟩
   have R6 := R5.drewn Dx hgl (Nat.lt_succ_self g)
   have hq6 := q_drewn hq5 Dx (Nat.lt_succ_self g)
   have D6 := D5.trans Dx
   clear Dx R5 D5 hq5
   obtain ⟨qv, hqv⟩ : ∃ q, q = Value.slice A0 xs.length c0 := ⟨_, rfl⟩
   rw [← hqv] at R6 ⊢
   have HQV := Lib.hid hqv
   clear hqv
   go_wp2_with fail
   refine (of_lit g (n + 41 + 5 * m) 1 2 w0 w6 w6 _ _ (D6.at.less (by omega)) (by rfl) (by rfl) (by omega) (by omega)).mono ?_
   rintro e w7 ⟨x, rfl, hx, Dx⟩
   have R7 := R6.drewn Dx hgl (Nat.lt_succ_self g)
   have hq7 := q_drewn hq6 Dx (Nat.lt_succ_self g)
   have D7 := D6.trans Dx
   clear Dx R6 D6 hq6
   unfold uCells
   go_wp2_with (at_builtin; refine wpList_append_lies _ rfl _ _ 43 rfl w.heap.size 49 i0 ZE 17 216 Tryz.underlying43 hi hz0 hz1 hz2 rfl (by decide) _ _ _ rfl (R7.own.alloc _) ⟨w7.heap.size, 0, none⟩ 1 1 (eCells ⟨st, u, 1 + (r3 : Int), 10 * (xs.length : Int) + (r4 : Int), x⟩ (.slice A u.path.length c)).toList rfl rfl ?c2 ?c3 (by omega) ?c4 ?c5 ?c6 _ rfl ?_)
   case c2 => exact World.news_of_block (blk_new w7 (.cells (eCells ⟨st, u, 1 + (r3 : Int), 10 * (xs.length : Int) + (r4 : Int), x⟩ (.slice A u.path.length c)) 49))
   case c3 => exact eCells_one _ _ rfl
   case c4 => unfold maxLen; omega
   case c5 => omega
   case c6 => have := D7.k.1; simp; omega
   intro g8 cap8 w8 hown8 hgrow8 hat8 hlt8
   have hba := below_alloc (Below.refl w7.heap.size w7) (.cells (eCells ⟨st, u, 1 + (r3 : Int), 10 * (xs.length : Int) + (r4 : Int), x⟩ (.slice A u.path.length c)) 49)
   have R8 := (R7.below hba).snoc (q_below hq7 hba) sm.fit hown8 hgrow8
   have D8 := (D7.below hba).grown hgrow8 (fun b hb => ⟨(R7.own.lt b hb).1, by have := (R7.own.lt b hb).1; omega⟩) hs0
   clear hba hown8 hgrow8 hq7 R7 D7
   go_wp2_with fail
   refine (pick_draw g (n + 40 + 5 * m) 3 w0 w8 w8 (D8.at.less (by omega)) (by omega) (by omega)).mono ?_
   rintro e w9 ⟨r5, rfl, hr5, Dx⟩
   have R9 := R8.drewn Dx hgl (Nat.lt_succ_self g)
   have D9 := D8.trans Dx
   clear Dx R8 D8
   have HR9 := Lib.hid R9
   have HD9 := Lib.hid D9
   clear R9 D9
   go_wp2
   go_roundw
   case rel => exact ⟨m, _, _, by go_num, by omega, by go_num, by omega, HR9.out, by simp; omega, HD9.out.less (by omega)⟩
   case measure => simp only [intOf]; omega
  ·have hd : decide ((0 : Int) < (k : Int)) = false := decide_eq_false (by omega)
   go_wp2_with fail
   refine (pick_draw g (n + 39) 30 w0 wr wr (D.at.less (by omega)) (by omega) (by omega)).mono ?_
   rintro e w4 ⟨r6, rfl, hr6, Dx⟩
   have R4 := R.drewn Dx hgl (Nat.lt_succ_self g)
   have D4 := D.trans Dx
   clear Dx R D
   by_cases c6 : r6 = 0
   ·have d6 : ((r6 : Int) == 0) = true := by rw [beq_iff_eq]; omega
    go_wp2_with fail
    go_loopw [3, 4] (fun a s wr => ∃ (st : Int) (xs : List (En × Value)), s = .int .i64 st ∧ (0 ≤ st ∧ st ≤ 40 + xs.length) ∧ RowD wr w.heap.size (g + 1) a xs ∧ xs.length ≤ 20 ∧ Drew w0 w wr g (n + (20 - xs.length))) (fun a _ _ => 20 - lenOf a)
    case atStart => exact ⟨st, xs, rfl, by omega, R4, by omega, D4.less (by omega)⟩
    case round =>
     clear hst hxs
     obtain ⟨st, xs, rfl, hst, R, hxs, D⟩ := hrel
     obtain ⟨A0, c0, rfl, _⟩ := own_form R.own
     by_cases hlt : xs.length < 20
     ·obtain ⟨m, hm⟩ : ∃ m, 20 - xs.length = m + 1 := ⟨19 - xs.length, by omega⟩
      rw [hm] at D
      have hd : decide ((xs.length : Int) < 20) = true := decide_eq_true (by omega)
      go_wp2_with fail
      refine (near_draw g (n + m) w0 wr D.at).mono ?_
      rintro e w5 ⟨u, pv, rfl, sm, hq5, Dx⟩
      obtain ⟨A, c, rfl, _⟩ := q_slice hq5
      have R5 := R.drewn Dx hgl (Nat.lt_succ_self g)
      have D5 := D.trans Dx
      clear Dx R D
      unfold uCells
      obtain ⟨qv, hqv⟩ : ∃ q, q = Value.slice A0 xs.length c0 := ⟨_, rfl⟩
      have hlen : ∀ w, (Builtin.len_ #[43] 3 #[qv]).run Tryz.prog w = .ok (.int .i64 (xs.length : Int)) w := fun w => by rw [hqv]; go_simp
      rw [← hqv] at R5 ⊢
      have HQV := Lib.hid hqv
      clear hqv
      go_wp2_with (at_builtin; refine wpList_append_lies _ rfl _ _ 43 rfl w.heap.size 49 i0 ZE 17 216 Tryz.underlying43 hi hz0 hz1 hz2 rfl (by decide) _ _ _ rfl (R5.own.alloc _) ⟨w5.heap.size, 0, none⟩ 1 1 (eCells ⟨st, u, 1, 100 + (xs.length : Int), []⟩ (.slice A u.path.length c)).toList rfl rfl ?c2 ?c3 (by omega) ?c4 ?c5 ?c6 _ rfl ?_)
      case c2 => exact World.news_of_block (blk_new w5 (.cells (eCells ⟨st, u, 1, 100 + (xs.length : Int), []⟩ (.slice A u.path.length c)) 49))
      case c3 => exact eCells_one _ _ rfl
      case c4 => unfold maxLen; omega
      case c5 => omega
      case c6 => have := D5.k.1; simp; omega
      intro g6 cap6 w6 hown6 hgrow6 hat6 hlt6
      have hba := below_alloc (Below.refl w5.heap.size w5) (.cells (eCells ⟨st, u, 1, 100 + (xs.length : Int), []⟩ (.slice A u.path.length c)) 49)
      have HR6 := Lib.hid ((R5.below hba).snoc (q_below hq5 hba) sm.fit hown6 hgrow6)
      have HD6 := Lib.hid ((D5.below hba).grown hgrow6 (fun b hb => ⟨(R5.own.lt b hb).1, by have := (R5.own.lt b hb).1; omega⟩) hs0)
      clear hba hown6 hgrow6 hq5 R5 D5
      go_wp2
      go_roundw
      case rel => exact ⟨_, _, by go_num, by simp; omega, HR6.out, by simp; omega, HD6.out.less (by simp; omega)⟩
      case measure => simp [lenOf]; omega
     ·have hd : decide ((xs.length : Int) < 20) = false := decide_eq_false (by omega)
      have HR4 := Lib.hid R
      have HD4 := Lib.hid D
      clear R D
      go_wp2
      go_ret
      exact ⟨_, xs, rfl, HR4.out, by omega, HD4.out.less (by omega)⟩
   ·have d6 : ((r6 : Int) == 0) = false := by rw [beq_eq_false_iff_ne]; omega
    have HR4 := Lib.hid R4
    have HD4 := Lib.hid D4
    clear R4 D4
    go_wp2
    go_ret
    exact ⟨_, xs, rfl, HR4.out, by omega, HD4.out.less (by omega)⟩
/-- What a drawn row of any entries leaves. -/
def AnyDrew (w0 w : World) (g n : Nat) (e : Ending) (w' : World) : Prop := ∃ v es, e = .returned v ∧ RowG w' (g + 1) v es ∧ (∀ x ∈ es, FitP x.u) ∧ es.length ≤ 20 ∧ Drew w0 w w' g n
theorem fits_set {xs : List (En × Value)} (h : ∀ p ∈ xs, FitP p.1.u) (k : Nat) (e : En) (he : FitP e.u) : ∀ x ∈ (xs.map Prod.fst).set k e, FitP x.u := fun x hx => by
 rcases List.mem_or_eq_of_mem_set hx with hx | rfl
 ·obtain ⟨p, hp, rfl⟩ := List.mem_map.1 hx
  exact h p hp
 ·exact he
theorem RowD.blk2 {w : World} {b0 base g n cap : Nat} {xs : List (En × Value)} (h : RowD w b0 base (.slice (some ⟨g, 0, none⟩) n cap) xs) (hn : 0 < xs.length) : ∃ cur, w.heap[g]? = some (.cells cur 49 (0, 0)) ∧ cur.size = cap * 17 ∧ xs.length ≤ cap ∧ ∀ k (hk : k < xs.length) j, j < 17 → cur[k * 17 + j]? = (eCells xs[k].1 xs[k].2)[j]? := by
 obtain ⟨g', cap', cur, hv, hb, hh, hc, hs, hx⟩ := h.blk hn
 injection hv with a b c
 injection a with a
 injection a with a
 subst a; subst c
 exact ⟨cur, hh, hs, hc, hx⟩
theorem hc_one {e e' : En} {pv pv' : Value} (i : Nat) (u : Value) (hi : i < 17) (h : eCells e' pv' = (eCells e pv).setIfInBounds i u) : ∀ j, j < 17 → (eCells e' pv')[j]? = if i ≤ j ∧ j < i + [u].length then [u][j - i]? else (eCells e pv)[j]? := by
 intro j hj
 rw [h, Array.getElem?_setIfInBounds]
 by_cases c : i = j
 ·subst c
  rw [if_pos rfl, if_pos (show i < (eCells e pv).size from hi), if_pos ⟨Nat.le_refl _, by simp⟩]; simp
 ·rw [if_neg c, if_neg (by simp; omega)]
theorem hc_url (e : En) (pv pv' : Value) (u : Ur) : ∀ j, j < 17 → (eCells { e with u := u } pv')[j]? = if 1 ≤ j ∧ j < 1 + (uCells u pv').toList.length then (uCells u pv').toList[j - 1]? else (eCells e pv)[j]?
 | 0, _ => rfl | 1, _ => rfl | 2, _ => rfl | 3, _ => rfl | 4, _ => rfl | 5, _ => rfl | 6, _ => rfl | 7, _ => rfl | 8, _ => rfl | 9, _ => rfl | 10, _ => rfl | 11, _ => rfl | 12, _ => rfl | 13, _ => rfl | 14, _ => rfl | 15, _ => rfl | 16, _ => rfl
 | n + 17, h => absurd h (by omega)
set_option maxHeartbeats 8000000 in
set_option maxRecDepth 100000 in
theorem anyHist_draw (g n : Nat) (w0 w : World) (h : Drew w0 w w g (n + 300)) : Calls Tryz.prog 62 #[.pointer (some ⟨g, 0, none⟩)] w (AnyDrew w0 w g n) := by
 have hgl := h.rd.lt
 have hs0 := h.b.size
 go_enter Tryz.func62, Tryz.ntmps62
 go_wp2_with fail
 refine (hist_draw g (n + 200) w0 w h).mono ?_
 rintro e w1 ⟨v, xs, rfl, R1, hxs, D1⟩
 by_cases hz : 0 < xs.length
 ·obtain ⟨gb, cap, cur, rfl, hgb, hh, hcap, hcs, hcx⟩ := R1.blk hz
  have hd : ((xs.length : Int) == 0) = false := by rw [beq_eq_false_iff_ne]; omega
  go_wp2_with fail
  refine (pick_draw g (n + 199) xs.length w0 w1 w1 D1.at (by omega) (by omega)).mono ?_
  rintro e w2 ⟨k, rfl, hk, Dx⟩
  have R2 := R1.drewn Dx hgl (Nat.lt_succ_self g)
  have D2 := D1.trans Dx
  clear Dx R1 D1 hh hcs hcx
  go_wp2_with fail
  refine (pick_draw g (n + 198) 16 w0 w2 w2 D2.at (by omega) (by omega)).mono ?_
  rintro e w3 ⟨r, rfl, hr, Dx⟩
  have R3 := R2.drewn Dx hgl (Nat.lt_succ_self g)
  have D3 := D2.trans Dx
  clear Dx R2 D2
  have hi : ((k : Int) < (xs.length : Int)) := by omega
  have it : ((k : Int)).toNat = k := rfl
  by_cases c0 : r = 0
  ·have d0 : ((r : Int) == 0) = true := by rw [beq_iff_eq]; omega
   go_wp2_with fail
   refine (one_lit g (n + 197) 3 (-1) 61 w0 w3 w3 _ _ D3.at (by rfl) (by rfl) (by omega) (by omega)).mono ?_
   rintro e w4 ⟨x, rfl, hx, Dx⟩
   have R4 := R3.drewn Dx hgl (Nat.lt_succ_self g)
   have D4 := D3.trans Dx
   clear Dx R3 D3
   obtain ⟨cur, hh, hcs, hcl, hcx⟩ := R4.blk2 hz
   obtain ⟨v0, v1, v2, v3, v4, v5, v6, v7, v8, v9, v10, v11, v12, v13, v14, v15, v16, kc, kf⟩ := place17 (k := k) hh (by omega)
   have HR4 := Lib.hid R4
   have HD4 := Lib.hid D4
   clear R4 D4 hh hcx
   go_wp2
   go_ret
   exact ⟨_, _, rfl, HR4.out.put hgl k hk 0 [.int .i64 x] (by simp) { xs[k].1 with step := x } xs[k].2 (HR4.out.q _ (List.getElem_mem hk)) (hc_one 0 _ (by omega) rfl), fits_set HR4.out.sm k _ (HR4.out.sm _ (List.getElem_mem hk)), by simpa using hxs, (HD4.out.putL (b := gb) (k * 17 + 0) [.int .i64 x] (by omega) hgb hs0).less (by omega)⟩
  have d0 : ((r : Int) == 0) = false := by rw [beq_eq_false_iff_ne]; omega
  by_cases c1 : r = 1
  ·have d1 : ((r : Int) == 1) = true := by rw [beq_iff_eq]; omega
   go_wp2_with fail
   refine (anyUrl_draw g (n + 50) w0 w3 (D3.at.less (by omega))).mono ?_
   rintro e w4 ⟨u, pv, rfl, fu, hqu, Dx⟩
   obtain ⟨A, c, rfl, _⟩ := q_slice hqu
   have R4 := R3.drewn Dx hgl (Nat.lt_succ_self g)
   have D4 := D3.trans Dx
   clear Dx R3 D3
   obtain ⟨cur, hh, hcs, hcl, hcx⟩ := R4.blk2 hz
   obtain ⟨v0, v1, v2, v3, v4, v5, v6, v7, v8, v9, v10, v11, v12, v13, v14, v15, v16, kc, kf⟩ := place17 (k := k) hh (by omega)
   have HQU := Lib.hid hqu
   clear hqu
   unfold uCells
   have HR4 := Lib.hid R4
   have HD4 := Lib.hid D4
   clear R4 D4 hh hcx
   go_wp2
   go_ret
   exact ⟨_, _, rfl, HR4.out.put hgl k hk 1 (uCells u (.slice A u.path.length c)).toList (Nat.le_of_ble_eq_true rfl) { xs[k].1 with u := u } (.slice A u.path.length c) HQU.out (hc_url _ _ _ _), fits_set HR4.out.sm k _ fu, by simpa using hxs, (HD4.out.putL (b := gb) (k * 17 + 1) (uCells u (.slice A u.path.length c)).toList (by omega) hgb hs0).less (by omega)⟩
  have d1 : ((r : Int) == 1) = false := by rw [beq_eq_false_iff_ne]; omega
  by_cases c2 : r = 2
  ·have d2 : ((r : Int) == 2) = true := by rw [beq_iff_eq]; omega
   have R4 := R3
   have D4 := D3
   obtain ⟨cur, hh, hcs, hcl, hcx⟩ := R4.blk2 hz
   obtain ⟨v0, v1, v2, v3, v4, v5, v6, v7, v8, v9, v10, v11, v12, v13, v14, v15, v16, kc, kf⟩ := place17 (k := k) hh (by omega)
   obtain ⟨u0, u1, u2, u3, u4, u5, u6, u7, u8, u9, u10, u11, u12, u13, u14, u15, u16, kc0, kf0⟩ := place17 (k := 0) hh (by omega)
   have hk0 : w3.cell? ⟨gb, 15, none⟩ = some (.int .i64 xs[0].1.key) := by rw [blk_cell hh]; exact hcx 0 hz 15 (by omega)
   have i0 : ((0 : Int) < (xs.length : Int)) := by omega
   clear kc0 kf0
   generalize hkey : xs[0].1.key = key at hk0
   clear hkey R3 D3
   have HR4 := Lib.hid R4
   have HD4 := Lib.hid D4
   clear R4 D4 hh hcx
   go_wp2
   go_ret
   exact ⟨_, _, rfl, HR4.out.put hgl k hk 15 [.int .i64 key] (by simp) { xs[k].1 with key := key } xs[k].2 (HR4.out.q _ (List.getElem_mem hk)) (hc_one 15 _ (by omega) rfl), fits_set HR4.out.sm k _ (HR4.out.sm _ (List.getElem_mem hk)), by simpa using hxs, (HD4.out.putL (b := gb) (k * 17 + 15) [.int .i64 key] (by omega) hgb hs0).less (by omega)⟩
  have d2 : ((r : Int) == 2) = false := by rw [beq_eq_false_iff_ne]; omega
  by_cases c3 : r = 3
  ·have d3 : ((r : Int) == 3) = true := by rw [beq_iff_eq]; omega
   go_wp2_with fail
   refine (pick_draw g (n + 197) 2 w0 w3 w3 D3.at (by omega) (by omega)).mono ?_
   rintro e w5 ⟨r2, rfl, hr2, Dx⟩
   have R5 := R3.drewn Dx hgl (Nat.lt_succ_self g)
   have D5 := D3.trans Dx
   clear Dx R3 D3
   go_wp2_with fail
   refine (many_walk [115] _ w5 (by simp) (by omega) (by omega)).mono ?_
   rintro e w4 ⟨x, rfl, hx, hb⟩
   have R4 := R5.below hb
   have D4 := D5.below hb
   clear hb R5 D5
   obtain ⟨cur, hh, hcs, hcl, hcx⟩ := R4.blk2 hz
   obtain ⟨v0, v1, v2, v3, v4, v5, v6, v7, v8, v9, v10, v11, v12, v13, v14, v15, v16, kc, kf⟩ := place17 (k := k) hh (by omega)
   have HR4 := Lib.hid R4
   have HD4 := Lib.hid D4
   clear R4 D4 hh hcx
   go_wp2
   go_ret
   exact ⟨_, _, rfl, HR4.out.put hgl k hk 16 [.string (B x)] (by simp) { xs[k].1 with st := x } xs[k].2 (HR4.out.q _ (List.getElem_mem hk)) (hc_one 16 _ (by omega) rfl), fits_set HR4.out.sm k _ (HR4.out.sm _ (List.getElem_mem hk)), by simpa using hxs, (HD4.out.putL (b := gb) (k * 17 + 16) [.string (B x)] (by omega) hgb hs0).less (by omega)⟩
  have d3 : ((r : Int) == 3) = false := by rw [beq_eq_false_iff_ne]; omega
  have HR4 := Lib.hid R3
  have HD4 := Lib.hid D3
  clear R3 D3
  go_wp2
  go_ret
  exact ⟨_, _, rfl, by have := HR4.out.toG hgl; simpa using this, fun x hx => by obtain ⟨p, hp, rfl⟩ := List.mem_map.1 hx; exact HR4.out.sm p hp, by simpa using hxs, HD4.out.less (by omega)⟩
 ·obtain ⟨A, c, rfl, _⟩ := own_form R1.own
  have hd : ((xs.length : Int) == 0) = true := by rw [beq_iff_eq]; omega
  have HR4 := Lib.hid R1
  have HD4 := Lib.hid D1
  clear R1 D1
  go_wp2
  go_ret
  exact ⟨_, _, rfl, by have := HR4.out.toG hgl; simpa using this, fun x hx => by obtain ⟨p, hp, rfl⟩ := List.mem_map.1 hx; exact HR4.out.sm p hp, by simpa using hxs, HD4.out.less (by omega)⟩
end Go.Proofs.YtopcpbokfngpeaaGreatDoor.H
/- spec.DrawHistAt, DrawHistKey: a code that reads as bytes gives a row of at most 20 entries whose addresses' texts are not too long, and a number. Conditions: each theorem's own. -/
set_option linter.unusedVariables false
namespace Go.Proofs.YtopcpbokfngpeaaGreatDoor.H
open Go.RowKit Go.Proofs.YtopcpbokfngpeaaGreatDoorW.PrintWords Go.Proofs.YtopcpbokfngpeaaGreatDoor.Base Go.Proofs.YtopcpbokfngpeaaGreatDoor.Pure
/-- What the draws of the laws on entries give. -/
def HistTold (w : World) (e : Ending) (w' : World) : Prop := ∃ v es n, e = .returned (.tuple #[v, .int .i64 n]) ∧ RowE w' v es ∧ (∀ x ∈ es, FitP x.u) ∧ es.length ≤ 20 ∧ Below w.heap.size w w'
set_option maxHeartbeats 4000000 in
set_option maxRecDepth 100000 in
theorem code_DrawHistAt (a0 : Option Addr) (len0 cap0 : Nat) (z0 : List Int) (w : World) (w0 : CodeRow w a0 len0 cap0 z0) :
  Calls Tryz.prog 28 #[.slice a0 len0 cap0] w (HistTold w) := by
 go_enter Tryz.func28, Tryz.ntmps28
 go_wp2_with fail
 refine (open_draw a0 len0 cap0 z0 w w0).mono ?_
 rintro e w1 ⟨g, rfl, hg, D1, hb1⟩
 have hgl := D1.rd.lt
 clear w0
 go_wp2_with fail
 refine (anyHist_draw g 1000 w w1 (D1.less (by omega))).mono ?_
 rintro e w2 ⟨v, es, rfl, R2, hf, hl, D2⟩
 clear D1
 go_wp2_with fail
 refine (pick_draw g 999 12 w w2 w2 (D2.at.less (by omega)) (by omega) (by omega)).mono ?_
 rintro e w3 ⟨r, rfl, hr, Dx⟩
 have HR := Lib.hid (R2.drewn Dx (Nat.lt_succ_self g)).rowE
 have HB := Lib.hid Dx.b
 clear Dx R2 D2
 go_wp2
 exact bodyPost_ret (results_tmp2 rfl _ _ _) rfl ⟨_, es, _, rfl, HR.out, hf, hl, HB.out⟩
set_option maxHeartbeats 4000000 in
set_option maxRecDepth 100000 in
theorem code_DrawHistKey (a0 : Option Addr) (len0 cap0 : Nat) (z0 : List Int) (w : World) (w0 : CodeRow w a0 len0 cap0 z0) :
  Calls Tryz.prog 24 #[.slice a0 len0 cap0] w (HistTold w) := by
 go_enter Tryz.func24, Tryz.ntmps24
 go_wp2_with fail
 refine (open_draw a0 len0 cap0 z0 w w0).mono ?_
 rintro e w1 ⟨g, rfl, hg, D1, hb1⟩
 have hgl := D1.rd.lt
 clear w0
 go_wp2_with fail
 refine (anyHist_draw g 1000 w w1 (D1.less (by omega))).mono ?_
 rintro e w2 ⟨v, es, rfl, R2, hf, hl, D2⟩
 clear D1
 have hR2 := R2.rowE
 obtain ⟨A, c, rfl, hc, _⟩ := id hR2
 clear hR2
 by_cases hz : 0 < es.length
 ·have hd : decide ((0 : Int) < (es.length : Int)) = true := decide_eq_true (by omega)
  go_wp2_with fail
  refine (pick_draw g 999 3 w w2 w2 (D2.at.less (by omega)) (by omega) (by omega)).mono ?_
  rintro e w3 ⟨r, rfl, hr, Dx⟩
  have R3 := R2.drewn Dx (Nat.lt_succ_self g)
  have D3 := D2.trans Dx
  clear Dx R2 D2
  by_cases hr0 : 0 < r
  ·have hd2 : decide ((0 : Int) < (r : Int)) = true := decide_eq_true (by omega)
   go_upto_region 4 with fail
   have D3d := D3.below (below_drew (Below.refl _ _))
   have R3d := R3.below (below_drew (Below.refl _ w3))
   have HPK := Lib.hid (pick_draw g 998 es.length w w3.drew w3.drew (D3d.at.less (by omega)) (by omega) (by omega))
   have HRK := Lib.hid fun (w4 : World) (Dx : Drew w w3.drew w4 g 998) => (R3d.drewn Dx (Nat.lt_succ_self g)).rowE
   go_region_with ((go_at_call 46; refine HPK.out.mono ?_; rintro e w4 ⟨k, rfl, hk, Dx⟩; have R4 := HRK.out w4 Dx; obtain ⟨ad, e0, _, _, hck⟩ := R4.cell k hk; subst e0; have hi : ((k : Int) < (es.length : Int)) := Int.ofNat_lt.2 hk; have it : ((k : Int)).toNat = k := rfl; have D4 := D3d.trans Dx))
   all_goals
    have HR := Lib.hid R4
    have HB := Lib.hid D4.b
    clear R4 D4 Dx R3 D3 R3d D3d
    go_wp2
    go_ret2
    exact ⟨_, es, _, rfl, HR.out, hf, hl, HB.out⟩
  ·have hd2 : decide ((0 : Int) < (r : Int)) = false := decide_eq_false (by omega)
   go_wp2_with fail
   refine (pick_draw g 998 99 w w3 w3 (D3.at.less (by omega)) (by omega) (by omega)).mono ?_
   rintro e w4 ⟨r2, rfl, hr2, Dx⟩
   have HR := Lib.hid (R3.drewn Dx (Nat.lt_succ_self g)).rowE
   have HB := Lib.hid (D3.trans Dx).b
   clear Dx R3 D3
   go_wp2
   go_ret2
   exact ⟨_, es, _, rfl, HR.out, hf, hl, HB.out⟩
 ·have hd : decide ((0 : Int) < (es.length : Int)) = false := decide_eq_false (by omega)
  go_wp2_with fail
  refine (pick_draw g 999 99 w w2 w2 (D2.at.less (by omega)) (by omega) (by omega)).mono ?_
  rintro e w4 ⟨r2, rfl, hr2, Dx⟩
  have HR := Lib.hid (R2.drewn Dx (Nat.lt_succ_self g)).rowE
  have HB := Lib.hid Dx.b
  clear Dx R2 D2
  go_wp2
  go_ret2
  exact ⟨_, es, _, rfl, HR.out, hf, hl, HB.out⟩
end Go.Proofs.YtopcpbokfngpeaaGreatDoor.H
/- OriginOf of both sides: what the calls come to; the package-level variables read as their tables. -/
set_option linter.unusedVariables false
namespace Go.Proofs.YtopcpbokfngpeaaGreatDoor.H
open Go.RowKit Go.Proofs.YtopcpbokfngpeaaGreatDoorW.PrintWords Go.Proofs.YtopcpbokfngpeaaGreatDoor.Base Go.Proofs.YtopcpbokfngpeaaGreatDoor.Pure
structure Og where
 sch : Bs
 hk : Int
 hn : Bs
 ha : Int
 port : Int
def Og.zero : Og := ⟨[], 0, [], 0, 0⟩
def oCells (o : Og) : Array Value := #[.string (B o.sch), .int .i64 o.hk, .string (B o.hn), .int .i64 o.ha, .int .i64 o.port]
def originU (u : Ur) : Og := if ownP u.sch < 0 then Og.zero else ⟨u.sch, u.hk, u.hn, u.ha, portU u⟩
def originV (u : Ur) : Og := if okU u = true then originU u else Og.zero
end Go.Proofs.YtopcpbokfngpeaaGreatDoor.H
set_option maxHeartbeats 8000000
set_option maxRecDepth 100000
namespace Go.Proofs.YtopcpbokfngpeaaGreatDoor.Lp
open Go.RowKit Go.Proofs.YtopcpbokfngpeaaGreatDoor.H Go.Proofs.YtopcpbokfngpeaaGreatDoorW.PrintWords Go.Proofs.YtopcpbokfngpeaaGreatDoorW.PrintLast Go.Proofs.YtopcpbokfngpeaaGreatDoorW.PrintMore
attribute [local go_sem] max2_int min2_int max_two min_two max_three min_three max_four min_four   -- for this text's walks alone
set_option linter.unusedVariables false
set_option linter.unusedSimpArgs false
end Go.Proofs.YtopcpbokfngpeaaGreatDoor.Lp
/- keyAt, histAt, l5At, l5One: what the calls come to on a row of entries. Conditions: each theorem's own. -/
set_option linter.unusedVariables false
namespace Go.Proofs.YtopcpbokfngpeaaGreatDoor.H
open Go.RowKit Go.Proofs.YtopcpbokfngpeaaGreatDoorW.PrintWords Go.Proofs.YtopcpbokfngpeaaGreatDoor.Base Go.Proofs.YtopcpbokfngpeaaGreatDoor.Pure Go.Proofs.YtopcpbokfngpeaaGreatDoor.Lh Go.Proofs.YtopcpbokfngpeaaGreatDoor.Lp
def inV (n lo hi : Int) : Bool := decide (lo ≤ n) && decide (n ≤ hi)
theorem inV_f (n lo hi : Int) : (if n ≥ lo then (some (decide (n ≤ hi))) else (some false)) = some (inV n lo hi) := by
 unfold inV
 by_cases h : lo ≤ n
 ·rw [if_pos h, decide_eq_true h]; rfl
 ·rw [if_neg (by omega), decide_eq_false h]; rfl
theorem specInV_walk (n lo hi : Int) (w : World) : Calls Tryz.prog 56 #[.int .i64 n, .int .i64 lo, .int .i64 hi] w fun e w' => e = .returned (.bool (inV n lo hi)) ∧ Below w.heap.size w w' :=
 (spec_l1In.calls n lo hi _ w (inV_f n lo hi)).mono fun _ _ h => ⟨h.1, h.2.below⟩
theorem implInV_walk (n lo hi : Int) (w : World) : Calls Tryz.prog 52 #[.int .i64 n, .int .i64 lo, .int .i64 hi] w fun e w' => e = .returned (.bool (inV n lo hi)) ∧ Below w.heap.size w w' :=
 (impl_in.calls n lo hi _ w (inV_f n lo hi)).mono fun _ _ h => ⟨h.1, h.2.below⟩
def oneV (x : En) : Bool := inV x.step 0 60 && (okU x.u && (inV x.doc 0 9999 && (inV x.key 0 9999 && decide (x.st.length ≤ 20))))
set_option maxHeartbeats 2000000 in
set_option maxRecDepth 100000 in
theorem specOne_walk (x : En) (pv : Value) (w : World) (hu : FitP x.u) (hP : PathAt w pv x.u.path) :
  Calls Tryz.prog 64 #[.agg (eCells x pv)] w fun e w' => e = .returned (.bool (oneV x)) ∧ Below w.heap.size w w' := by
 have H1 := Lib.hid fun w1 => specInV_walk x.step 0 60 w1
 have H2 := Lib.hid fun w1 (hb : Below w.heap.size w w1) => specUrlOk_walk x.u pv w1 hu (hP.below hb)
 have H3 := Lib.hid fun w1 => specInV_walk x.doc 0 9999 w1
 have H4 := Lib.hid fun w1 => specInV_walk x.key 0 9999 w1
 have K0 := blk_new w (.cells (eCells x pv) 49)
 have HB0 := (Below.refl w.heap.size w).alloc (Nat.le_refl _) (.cells (eCells x pv) 49)
 have hl : Hid (decide (((x.st.length : Nat) : Int) ≤ 20) = decide (x.st.length ≤ 20)) := Lib.hid (by rw [decide_eq_decide]; omega)
 unfold oneV
 generalize inV x.step 0 60 = b1 at H1 ⊢
 generalize okU x.u = b2 at H2 ⊢
 generalize inV x.doc 0 9999 = b3 at H3 ⊢
 generalize inV x.key 0 9999 = b4 at H4 ⊢
 clear hu hP
 unfold eCells uCells at *
 go_enter Tryz.func64, Tryz.ntmps64
 go_upto_region 1 with fail
 generalize w.alloc _ = w1 at K0 HB0 ⊢
 have kc := (cells17 K0).1
 go_wp2_with fail
 refine (H1.out _).mono ?_
 rintro e w2 ⟨rfl, hb2⟩
 have K2 := blk_below K0 hb2
 have HB2 := Lib.hid (below_then HB0 HB0.size hb2)
 clear kc K0 HB0 hb2
 cases b1 with
 | false => go_wp2; go_ret; exact ⟨rfl, HB2.out⟩
 | true =>
  have kc := (cells17 K2).1
  go_wp2_with fail
  refine (H2.out _ HB2.out).mono ?_
  rintro e w3 ⟨rfl, hb3⟩
  have K3 := blk_below K2 hb3
  have HB3 := Lib.hid (below_then HB2.out HB2.out.size hb3)
  clear kc K2 HB2 hb3
  cases b2 with
  | false => go_wp2; go_ret; exact ⟨rfl, HB3.out⟩
  | true =>
   have kc := (cells17 K3).1
   go_wp2_with fail
   refine (H3.out _).mono ?_
   rintro e w4 ⟨rfl, hb4⟩
   have K4 := blk_below K3 hb4
   have HB4 := Lib.hid (below_then HB3.out HB3.out.size hb4)
   clear kc K3 HB3 hb4
   cases b3 with
   | false => go_wp2; go_ret; exact ⟨rfl, HB4.out⟩
   | true =>
    have kc := (cells17 K4).1
    go_wp2_with fail
    refine (H4.out _).mono ?_
    rintro e w5 ⟨rfl, hb5⟩
    have K5 := blk_below K4 hb5
    have HB5 := Lib.hid (below_then HB4.out HB4.out.size hb5)
    clear kc K4 HB4 hb5
    cases b4 with
    | false => go_wp2; go_ret; exact ⟨rfl, HB5.out⟩
    | true =>
     have kc := (cells17 K5).1
     go_wp2
     go_ret
     exact ⟨by rw [← hl.out]; rfl, HB5.out⟩
def keyV (es : List En) (key : Int) : Int := match es.findIdx? (fun x => x.key == key) with | some k => (k : Int) | none => -1
theorem keyV_some {es : List En} {key : Int} (k : Nat) (h : k < es.length) (h1 : es[k].key = key) (h2 : ∀ j (q : j < es.length), j < k → ¬ es[j].key = key) : keyV es key = (k : Int) := by
 unfold keyV
 rw [List.findIdx?_eq_some_iff_getElem.2 ⟨h, by simpa using h1, fun j hj => by simpa using h2 j (by omega) hj⟩]
theorem keyV_none {es : List En} {key : Int} (h2 : ∀ j (q : j < es.length), ¬ es[j].key = key) : keyV es key = -1 := by
 unfold keyV
 rw [List.findIdx?_eq_none_iff.2 fun x hx => by obtain ⟨j, hj, rfl⟩ := List.mem_iff_getElem.1 hx; simpa using h2 j hj]
def atE (es : List En) (s : Int) : Nat → Int
 | 0 => -1
 | n + 1 => if h : n < es.length then (if es[n].step ≤ s then (n : Int) else atE es s n) else atE es s n
theorem atE_step (es : List En) (s : Int) (k : Nat) (h : k < es.length) : atE es s (k + 1) = if es[k].step ≤ s then (k : Int) else atE es s k := by
 rw [atE, dif_pos h]
set_option maxHeartbeats 2000000 in
set_option maxRecDepth 100000 in
theorem l5At_walk (v : Value) (es : List En) (s : Int) (w : World) (hR : RowE w v es) (hn : es.length ≤ 1048576) :
  Calls Tryz.prog 66 #[v, .int .i64 s] w fun e w' => e = .returned (.int .i64 (atE es s es.length)) ∧ Below w.heap.size w w' := by
 have HA := Lib.hid hR
 obtain ⟨A, c, rfl, hc, _⟩ := hR
 go_enter Tryz.func66, Tryz.ntmps66
 go_wp2
 go_loopw [6, 5] (fun i a wr => ∃ k : Nat, k ≤ es.length ∧ i = .int .i64 k ∧ a = .int .i64 (atE es s k) ∧ Below w.heap.size w wr) (fun i _ _ => es.length - (intOf i).toNat)
 case atStart => exact ⟨0, by omega, rfl, rfl, Below.refl _ _⟩
 case round =>
  obtain ⟨k, hk, rfl, rfl, hb⟩ := hrel
  by_cases hlt : k < es.length
  ·obtain ⟨ad, e0, hcell, _, _⟩ := (HA.out.below hb).cell k hlt
   subst e0
   have i1 : ((k : Int) < (es.length : Int)) := by omega
   have it : ((k : Int)).toNat = k := rfl
   have HS := Lib.hid (atE_step es s k hlt)
   generalize es[k].step = x at hcell HS
   by_cases hx : x ≤ s
   ·have hd : decide (x ≤ s) = true := decide_eq_true hx
    rw [if_pos hx] at HS
    clear hx
    go_wp2
    go_roundw
    case rel => exact ⟨k + 1, by omega, by go_num, by rw [HS.out], hb⟩
    case measure => simp only [intOf]; omega
   ·have hd : decide (x ≤ s) = false := decide_eq_false hx
    rw [if_neg hx] at HS
    clear hx
    go_wp2
    go_roundw
    case rel => exact ⟨k + 1, by omega, by go_num, by rw [HS.out], hb⟩
    case measure => simp only [intOf]; omega
  ·have hn2 : decide ((k : Int) < (es.length : Int)) = false := decide_eq_false (by omega)
   obtain rfl : k = es.length := by omega
   go_wp2
   go_ret
   exact ⟨rfl, hb⟩
set_option maxHeartbeats 2000000 in
set_option maxRecDepth 100000 in
theorem histAt_walk (v : Value) (es : List En) (s : Int) (w : World) (hR : RowE w v es) (hn : es.length ≤ 1048576) :
  Calls Tryz.prog 65 #[v, .int .i64 s] w fun e w' => e = .returned (.int .i64 (atE es s es.length)) ∧ Below w.heap.size w w' := by
 have HA := Lib.hid hR
 obtain ⟨A, c, rfl, hc, _⟩ := hR
 go_enter Tryz.func65, Tryz.ntmps65
 go_wp2
 go_loopw [10, 5] (fun i a wr => ∃ k : Nat, k ≤ es.length ∧ i = .int .i64 k ∧ a = .int .i64 (atE es s k) ∧ Below w.heap.size w wr) (fun i _ _ => es.length - (intOf i).toNat)
 case atStart => exact ⟨0, by omega, rfl, rfl, Below.refl _ _⟩
 case round =>
  obtain ⟨k, hk, rfl, rfl, hb⟩ := hrel
  by_cases hlt : k < es.length
  ·obtain ⟨ad, pv, e0, hpv, hcell⟩ := (HA.out.below hb).at k hlt
   subst e0
   have i1 : ((k : Int) < (es.length : Int)) := by omega
   have it : ((k : Int)).toNat = k := rfl
   have HS := Lib.hid (atE_step es s k hlt)
   generalize es[k] = x at hcell HS hpv
   obtain ⟨Ap, cp, rfl, _, _⟩ := hpv
   have HB := Lib.hid hb
   clear hb
   unfold eCells C17 at hcell
   by_cases hx : x.step ≤ s
   ·have hd : decide (x.step ≤ s) = true := decide_eq_true hx
    rw [if_pos hx] at HS
    clear hx
    go_wp2
    go_roundw
    case rel => exact ⟨k + 1, by omega, by go_num, by rw [HS.out], HB.out.alloc HB.out.size _⟩
    case measure => simp only [intOf]; omega
   ·have hd : decide (x.step ≤ s) = false := decide_eq_false hx
    rw [if_neg hx] at HS
    clear hx
    go_wp2
    go_roundw
    case rel => exact ⟨k + 1, by omega, by go_num, by rw [HS.out], HB.out.alloc HB.out.size _⟩
    case measure => simp only [intOf]; omega
  ·have hn2 : decide ((k : Int) < (es.length : Int)) = false := decide_eq_false (by omega)
   obtain rfl : k = es.length := by omega
   go_wp2
   go_ret
   exact ⟨rfl, hb⟩
set_option maxHeartbeats 2000000 in
set_option maxRecDepth 100000 in
theorem keyFn_walk (x : En) (pv : Value) (key : Int) (g : Nat) (w : World) (hg : w.cell? ⟨g, 0, none⟩ = some (.int .i64 key)) (hlt : g < w.heap.size) :
  Calls Tryz.prog 103 #[.agg (eCells x pv), .pointer (some ⟨g, 0, none⟩)] w fun e w' => e = .returned (.bool (x.key == key)) ∧ Below w.heap.size w w' := by
 have K0 := blk_new w (.cells (eCells x pv) 49)
 have HB0 := (Below.refl w.heap.size w).alloc (Nat.le_refl _) (.cells (eCells x pv) 49)
 have hg1 : (w.alloc (.cells (eCells x pv) 49)).cell? ⟨g, 0, none⟩ = some (.int .i64 key) := cell_later HB0 hg
 unfold eCells at *
 go_enter Tryz.func103, Tryz.ntmps103
 go_upto_region 1 with fail
 generalize w.alloc _ = w1 at K0 HB0 hg1 ⊢
 have kc := (cells17 K0).1
 go_wp2
 go_ret
 exact ⟨rfl, HB0⟩
set_option maxHeartbeats 2000000 in
set_option maxRecDepth 100000 in
theorem indexFn_walk (v : Value) (es : List En) (key : Int) (g : Nat) (w : World) (hR : RowE w v es) (hn : es.length ≤ 1048576) (hg : w.cell? ⟨g, 0, none⟩ = some (.int .i64 key)) (hlg : g < w.heap.size) :
  Calls Tryz.prog 102 #[v, .func (.func 103) #[] #[.pointer (some ⟨g, 0, none⟩)]] w fun e w' => e = .returned (.int .i64 (keyV es key)) ∧ Below w.heap.size w w' := by
 have HA := Lib.hid hR
 obtain ⟨A, c, rfl, hc, _⟩ := hR
 have HG := Lib.hid hg
 clear hg
 obtain ⟨r, HR⟩ : ∃ r, Hid (r = keyV es key) := ⟨_, Lib.hid rfl⟩
 rw [← HR.out]
 go_enter Tryz.func102, Tryz.ntmps102
 go_wp2
 go_loopw [8] (fun i wr => ∃ k : Nat, k ≤ es.length ∧ i = .int .i64 k ∧ (∀ j (q : j < es.length), j < k → ¬ es[j].key = key) ∧ Below w.heap.size w wr) (fun i _ => es.length - (intOf i).toNat)
 case atStart => exact ⟨0, by omega, rfl, fun j _ h => absurd h (by omega), Below.refl _ _⟩
 case round =>
  obtain ⟨k, hk, rfl, hne, hb⟩ := hrel
  by_cases hlt : k < es.length
  ·obtain ⟨ad, pv, e0, hpv, hcell⟩ := (HA.out.below hb).at k hlt
   subst e0
   have i1 : ((k : Int) < (es.length : Int)) := by omega
   have it : ((k : Int)).toNat = k := rfl
   have HN := Lib.hid hne
   have HX : ∃ x, Hid (x = es[k]) := ⟨_, Lib.hid rfl⟩
   obtain ⟨x, HX⟩ := HX
   rw [← HX.out] at hcell hpv
   have HF := Lib.hid (keyFn_walk x pv key g wr (cell_later hb HG.out) (Nat.lt_of_lt_of_le hlg hb.size))
   have HB := Lib.hid hb
   clear hpv hb hne
   unfold eCells C17 at hcell
   unfold eCells at HF
   obtain ⟨q, HQ⟩ : ∃ q, Hid ((x.key == key) = q) := ⟨_, Lib.hid rfl⟩
   rw [HQ.out] at HF
   go_wp2_with fail
   refine HF.out.mono ?_
   rintro e w2 ⟨rfl, hb2⟩
   have HB2 := Lib.hid (below_then HB.out HB.out.size hb2)
   clear hcell hb2
   cases q with
   | true =>
    have HY : Hid (r = (k : Int)) := Lib.hid (by rw [HR.out]; exact keyV_some k hlt (by rw [← HX.out]; exact eq_of_beq HQ.out) HN.out)
    go_wp2
    go_ret
    exact ⟨by rw [HY.out]; rfl, HB2.out⟩
   | false =>
    have HN2 : Hid (∀ j (q : j < es.length), j < k + 1 → ¬ es[j].key = key) := Lib.hid fun j q hj => by
     by_cases e : j = k
     ·subst e; rw [← HX.out]; exact beq_eq_false_iff_ne.1 HQ.out
     ·exact HN.out j q (by omega)
    go_wp2
    go_roundw
    case rel => exact ⟨k + 1, by omega, by go_num, HN2.out, HB2.out⟩
    case measure => simp only [intOf]; omega
  ·have hn2 : decide ((k : Int) < (es.length : Int)) = false := decide_eq_false (by omega)
   have HX : Hid (r = -1) := Lib.hid (by rw [HR.out]; exact keyV_none fun j q => hne j q (by omega))
   clear hne
   go_wp2
   go_ret
   exact ⟨by rw [HX.out]; rfl, hb⟩
set_option maxHeartbeats 2000000 in
set_option maxRecDepth 100000 in
theorem keyAt_walk (v : Value) (es : List En) (key : Int) (w : World) (hR : RowE w v es) (hn : es.length ≤ 1048576) :
  Calls Tryz.prog 63 #[v, .int .i64 key] w fun e w' => e = .returned (.int .i64 (keyV es key)) ∧ Below w.heap.size w w' := by
 have K0 := blk_new w (.cells #[.int .i64 key] 3)
 have HB0 := (Below.refl w.heap.size w).alloc (Nat.le_refl _) (.cells #[.int .i64 key] 3)
 have HI := Lib.hid (indexFn_walk v es key w.heap.size _ (hR.below HB0) hn (blk_cell K0 0) (blk_lt K0))
 have hmf : ∀ (fn : Fn) (first cap : Array Value) (w : World), (Instr.makeFunc fn first cap).run Tryz.prog w = .ok (.func fn first cap) w := fun _ _ _ _ => rfl
 clear hR K0
 have HB1 := Lib.hid HB0
 clear HB0
 go_enter Tryz.func63, Tryz.ntmps63
 go_wp2_with fail
 refine HI.out.mono ?_
 rintro e w2 ⟨rfl, hb2⟩
 have HB2 := Lib.hid (below_then HB1.out HB1.out.size hb2)
 clear hb2
 go_wp2
 go_ret
 exact ⟨rfl, HB2.out⟩
end Go.Proofs.YtopcpbokfngpeaaGreatDoor.H
/- HistOk: what it says of a row of entries. Conditions: each theorem's own. -/
set_option linter.unusedVariables false
namespace Go.Proofs.YtopcpbokfngpeaaGreatDoor.H
open Go.RowKit Go.Proofs.YtopcpbokfngpeaaGreatDoorW.PrintWords Go.Proofs.YtopcpbokfngpeaaGreatDoor.Base Go.Proofs.YtopcpbokfngpeaaGreatDoor.Pure
def stepE (es : List En) (i : Nat) : Int := (es[i]?.map En.step).getD 0
def keyE (es : List En) (i : Nat) : Int := (es[i]?.map En.key).getD 0
theorem stepE_at {es : List En} {i : Nat} (h : i < es.length) : stepE es i = es[i].step := by simp [stepE, h]
theorem keyE_at {es : List En} {i : Nat} (h : i < es.length) : keyE es i = es[i].key := by simp [keyE, h]
def okE (es : List En) (i : Nat) : Bool := ((es[i]?.map oneV).getD true) && ((decide (i = 0) || decide (stepE es (i - 1) < stepE es i)) && decide (∀ j, j < i → keyE es j ≠ keyE es i))
def histOkV (es : List En) : Bool := decide (∀ i, i < es.length → okE es i = true) && decide (es.length ≤ 20)
theorem okE_at {es : List En} {i : Nat} (h : i < es.length) : okE es i = (oneV es[i] && ((decide (i = 0) || decide (stepE es (i - 1) < stepE es i)) && decide (∀ j, j < i → keyE es j ≠ keyE es i))) := by
 unfold okE; simp [h]
theorem hist_bad {es : List En} (k : Nat) (h : k < es.length) (hk : okE es k = false) : histOkV es = false := by
 unfold histOkV
 rw [decide_eq_false fun q => by rw [q k h] at hk; cases hk]; rfl
theorem hist_all {es : List En} (h : ∀ i, i < es.length → okE es i = true) : histOkV es = decide (es.length ≤ 20) := by
 unfold histOkV; rw [decide_eq_true h]; rfl
theorem okE_step {es : List En} {i : Nat} (h : i < es.length) (hk : okE es i = true) : 0 ≤ stepE es i ∧ stepE es i ≤ 60 := by
 rw [okE_at h] at hk
 have h1 : oneV es[i] = true := by simp only [Bool.and_eq_true] at hk; exact hk.1
 have h2 : inV es[i].step 0 60 = true := by unfold oneV at h1; simp only [Bool.and_eq_true] at h1; exact h1.1
 unfold inV at h2
 simp only [Bool.and_eq_true, decide_eq_true_eq] at h2
 rw [stepE_at h]; exact h2
def lastE (es : List En) (i : Nat) : Int := if i = 0 then -1 else stepE es (i - 1)
theorem lastE_bound {es : List En} {k : Nat} (h : k ≤ es.length) (hall : ∀ j, j < k → okE es j = true) : -1 ≤ lastE es k ∧ lastE es k ≤ 60 := by
 unfold lastE
 split
 ·omega
 ·have := okE_step (es := es) (i := k - 1) (by omega) (hall _ (by omega)); omega
theorem lastE_step {es : List En} {k : Nat} (h : k < es.length) : lastE es (k + 1) = es[k].step := by
 unfold lastE; rw [if_neg (by omega), Nat.add_sub_cancel, stepE_at h]
theorem okE_impl {es : List En} {k : Nat} (h : k < es.length) (hall : ∀ j, j < k → okE es j = true) :
  okE es k = (inV es[k].step (lastE es k + 1) 60 && (okU es[k].u && (inV es[k].doc 0 9999 && (inV es[k].key 0 9999 && ((keyV es es[k].key == (k : Int)) && decide (es[k].st.length ≤ 20)))))) := by
 have hb := lastE_bound (Nat.le_of_lt h) hall
 have hk : (keyV es es[k].key == (k : Int)) = decide (∀ j, j < k → keyE es j ≠ keyE es k) := by
  rw [Bool.eq_iff_iff, beq_iff_eq, decide_eq_true_eq]
  constructor
  ·intro e j hj q
   rw [keyE_at (by omega), keyE_at h] at q
   have hnn : ∀ n, es.findIdx? (fun x => x.key == es[k].key) = some n → n ≤ j := fun n hn => by
    obtain ⟨h1, h2, h3⟩ := List.findIdx?_eq_some_iff_getElem.1 hn
    by_cases c : n ≤ j
    ·exact c
    ·exact absurd (by simpa using q) (h3 j (by omega))
   unfold keyV at e
   cases hf : es.findIdx? (fun x => x.key == es[k].key) with
   | none => rw [hf] at e; simp only at e; omega
   | some n => rw [hf] at e; simp only at e; have := hnn n hf; omega
  ·intro q
   exact keyV_some k h rfl fun j hj hjk e => q j hjk (by rw [keyE_at hj, keyE_at h]; exact e)
 have hs : (inV es[k].step 0 60 && (decide (k = 0) || decide (stepE es (k - 1) < stepE es k))) = inV es[k].step (lastE es k + 1) 60 := by
  unfold inV
  rw [Bool.eq_iff_iff]
  simp only [Bool.and_eq_true, Bool.or_eq_true, decide_eq_true_eq]
  rw [stepE_at h]
  by_cases c : k = 0
  ·have e : lastE es k = -1 := by unfold lastE; rw [if_pos c]
   rw [e]; omega
  ·have e : lastE es k = stepE es (k - 1) := by unfold lastE; rw [if_neg c]
   rw [e] at hb ⊢; omega
 rw [okE_at h, hk, ← hs]
 unfold oneV
 cases inV es[k].step 0 60 <;> cases okU es[k].u <;> cases inV es[k].doc 0 9999 <;> cases inV es[k].key 0 9999 <;> cases (decide (k = 0) || decide (stepE es (k - 1) < stepE es k)) <;> simp [Bool.and_comm]
end Go.Proofs.YtopcpbokfngpeaaGreatDoor.H
/- impl.HistOk: what the call comes to; the package-level variables read as their tables. Conditions: each theorem's own. -/
set_option linter.unusedVariables false
namespace Go.Proofs.YtopcpbokfngpeaaGreatDoor.H
open Go.RowKit Go.Proofs.YtopcpbokfngpeaaGreatDoorW.PrintWords Go.Proofs.YtopcpbokfngpeaaGreatDoor.Base Go.Proofs.YtopcpbokfngpeaaGreatDoor.Pure
set_option maxHeartbeats 8000000 in
set_option maxRecDepth 100000 in
theorem implHistOk_walk (v : Value) (es : List En) (w : World) (hR : RowE w v es) (hf : ∀ x ∈ es, FitP x.u) (hn : es.length ≤ 1048576) (hT : Tabs w) :
  Calls Tryz.prog 31 #[v] w fun e w' => e = .returned (.bool (histOkV es)) ∧ Below w.heap.size w w' := by
 have HA := Lib.hid hR
 obtain ⟨A, c, rfl, hc, _⟩ := hR
 obtain ⟨r, HR⟩ : ∃ r, Hid (r = histOkV es) := ⟨_, Lib.hid rfl⟩
 rw [← HR.out]
 have HU := Lib.hid fun (k : Nat) (h : k < es.length) pv w1 (hP : PathAt w1 pv (es[k]).u.path) (hb : Below w.heap.size w w1) => implUrlOk_walk es[k].u pv w1 (hf _ (List.getElem_mem h)) hP (hT.below hb)
 have HK := Lib.hid fun key w1 (hb : Below w.heap.size w w1) => keyAt_walk _ es key w1 (HA.out.below hb) hn
 clear hf hT
 go_enter Tryz.func31, Tryz.ntmps31
 go_wp2
 go_loopw [8, 3] (fun i l wr => ∃ k : Nat, k ≤ es.length ∧ i = .int .i64 k ∧ l = .int .i64 (lastE es k) ∧ (∀ j, j < k → okE es j = true) ∧ Below w.heap.size w wr) (fun i _ _ => es.length - (intOf i).toNat)
 case atStart => exact ⟨0, by omega, rfl, rfl, fun j h => absurd h (by omega), Below.refl _ _⟩
 case round =>
  obtain ⟨k, hk, rfl, rfl, hall, hb⟩ := hrel
  by_cases hlt : k < es.length
  ·have HALL := Lib.hid hall
   obtain ⟨ad, pv, e0, hpv, hcell⟩ := (HA.out.below hb).at k hlt
   subst e0
   have i1 : ((k : Int) < (es.length : Int)) := by omega
   have it : ((k : Int)).toNat = k := rfl
   have hlb := lastE_bound (Nat.le_of_lt hlt) hall
   have HOK := Lib.hid (okE_impl hlt hall)
   have HL := Lib.hid (lastE_step hlt)
   obtain ⟨Ap, cp, rfl, _, _⟩ := id hpv
   have HU2 := Lib.hid fun w1 (h1 : Below wr.heap.size wr w1) => HU.out k hlt _ w1 (hpv.below h1) (below_then hb hb.size h1)
   have hwl : IntKind.i64.wrap (lastE es k + 1) = lastE es k + 1 := by rw [IntKind.wrap_i64]; omega
   generalize lastE es k = l0 at HOK hwl hlb ⊢
   have HX : ∃ x, Hid (x = es[k]) := ⟨_, Lib.hid rfl⟩
   obtain ⟨x, HX⟩ := HX
   rw [← HX.out] at hcell HU2 HOK HL
   have H1 := Lib.hid fun w1 => implInV_walk x.step (l0 + 1) 60 w1
   have H3 := Lib.hid fun w1 => implInV_walk x.doc 0 9999 w1
   have H4 := Lib.hid fun w1 => implInV_walk x.key 0 9999 w1
   have H5 := Lib.hid fun w1 h1 => HK.out x.key w1 h1
   have hl : decide ((20 : Int) < ((x.st.length : Nat) : Int)) = !(decide (x.st.length ≤ 20)) := by rw [← decide_not, decide_eq_decide]; omega
   generalize inV x.step (l0 + 1) 60 = b1 at H1 HOK
   generalize okU x.u = b2 at HU2 HOK
   generalize inV x.doc 0 9999 = b3 at H3 HOK
   generalize inV x.key 0 9999 = b4 at H4 HOK
   obtain ⟨b5, HB5⟩ : ∃ b5, Hid ((keyV es x.key == (k : Int)) = b5) := ⟨_, Lib.hid rfl⟩
   rw [HB5.out] at HOK
   generalize keyV es x.key = n5 at H5 HB5
   obtain ⟨b6, HB6⟩ : ∃ b6, Hid (decide (x.st.length ≤ 20) = b6) := ⟨_, Lib.hid rfl⟩
   rw [HB6.out] at HOK hl
   have HB := Lib.hid hb
   have HHL := Lib.hid hl
   have K0 := blk_new wr (.cells #[.int .i64 x.step, .string (B x.u.sch), .string (B x.u.usr), .string (B x.u.pas), .int .i64 x.u.hk, .string (B x.u.hn), .int .i64 x.u.ha, .int .i64 x.u.port, .slice Ap x.u.path.length cp, .string (B x.u.opq), .bool x.u.hq, .string (B x.u.qry), .bool x.u.hf, .string (B x.u.frg), .int .i64 x.doc, .int .i64 x.key, .string (B x.st)] 49)
   have hb0 := (Below.refl wr.heap.size wr).alloc (Nat.le_refl _) (.cells #[.int .i64 x.step, .string (B x.u.sch), .string (B x.u.usr), .string (B x.u.pas), .int .i64 x.u.hk, .string (B x.u.hn), .int .i64 x.u.ha, .int .i64 x.u.port, .slice Ap x.u.path.length cp, .string (B x.u.opq), .bool x.u.hq, .string (B x.u.qry), .bool x.u.hf, .string (B x.u.frg), .int .i64 x.doc, .int .i64 x.key, .string (B x.st)] 49)
   clear hpv hb hall hlb hl
   unfold eCells C17 at hcell
   unfold uCells at HU2
   go_wp2_with fail
   generalize wr.alloc _ = w1 at K0 hb0 ⊢
   have hsz : wr.heap.size = wr.heap.size := rfl
   clear hsz
   have HW1 := Lib.hid hb0
   clear hb0
   generalize wr.heap.size = g at K0 ⊢
   refine (H1.out _).mono ?_
   rintro e w2 ⟨rfl, hb2⟩
   have K2 := blk_below K0 hb2
   have HW2 := Lib.hid (below_then HW1.out HW1.out.size hb2)
   clear K0 hb2 hcell
   cases b1 with
   | false =>
    have HY : Hid (r = false) := Lib.hid (by rw [HR.out]; exact hist_bad k hlt (by rw [HOK.out]; rfl))
    go_wp2
    go_ret
    exact ⟨by rw [HY.out]; rfl, below_then HB.out HB.out.size HW2.out⟩
   | true =>
    have kc := (cells17 K2).1
    go_wp2_with fail
    refine (HU2.out _ HW2.out).mono ?_
    rintro e w3 ⟨rfl, hb3⟩
    have K3 := blk_below K2 hb3
    have HW3 := Lib.hid (below_then HW2.out HW2.out.size hb3)
    clear kc K2 hb3
    cases b2 with
    | false =>
     have HY : Hid (r = false) := Lib.hid (by rw [HR.out]; exact hist_bad k hlt (by rw [HOK.out]; rfl))
     go_wp2
     go_ret
     exact ⟨by rw [HY.out]; rfl, below_then HB.out HB.out.size HW3.out⟩
    | true =>
     have kc := (cells17 K3).1
     go_wp2_with fail
     refine (H3.out _).mono ?_
     rintro e w4 ⟨rfl, hb4⟩
     have K4 := blk_below K3 hb4
     have HW4 := Lib.hid (below_then HW3.out HW3.out.size hb4)
     clear kc K3 hb4
     cases b3 with
     | false =>
      have HY : Hid (r = false) := Lib.hid (by rw [HR.out]; exact hist_bad k hlt (by rw [HOK.out]; rfl))
      go_wp2
      go_ret
      exact ⟨by rw [HY.out]; rfl, below_then HB.out HB.out.size HW4.out⟩
     | true =>
      have kc := (cells17 K4).1
      go_wp2_with fail
      refine (H4.out _).mono ?_
      rintro e w5 ⟨rfl, hb5⟩
      have K5 := blk_below K4 hb5
      have HW5 := Lib.hid (below_then HW4.out HW4.out.size hb5)
      clear kc K4 hb5
      cases b4 with
      | false =>
       have HY : Hid (r = false) := Lib.hid (by rw [HR.out]; exact hist_bad k hlt (by rw [HOK.out]; rfl))
       go_wp2
       go_ret
       exact ⟨by rw [HY.out]; rfl, below_then HB.out HB.out.size HW5.out⟩
      | true =>
       have kc := (cells17 K5).1
       go_wp2_with fail
       refine (H5.out _ (below_then HB.out HB.out.size HW5.out)).mono ?_
       rintro e w6 ⟨rfl, hb6⟩
       have K6 := blk_below K5 hb6
       have HW6 := Lib.hid (below_then HW5.out HW5.out.size hb6)
       clear kc K5 hb6
       cases b5 with
       | false =>
        have hq := HB5.out
        have hq2 : (n5 != (k : Int)) = true := by rw [bne, hq]; rfl
        have HY : Hid (r = false) := Lib.hid (by rw [HR.out]; exact hist_bad k hlt (by rw [HOK.out]; rfl))
        go_wp2
        go_ret
        exact ⟨by rw [HY.out]; rfl, below_then HB.out HB.out.size HW6.out⟩
       | true =>
        have hq := HB5.out
        have hq2 : (n5 != (k : Int)) = false := by rw [bne, hq]; rfl
        have kc := (cells17 K6).1
        cases b6 with
        | false =>
         have hl := HHL.out
         rw [Bool.not_false] at hl
         have HY : Hid (r = false) := Lib.hid (by rw [HR.out]; exact hist_bad k hlt (by rw [HOK.out]; rfl))
         go_wp2
         go_ret
         exact ⟨by rw [HY.out]; rfl, below_then HB.out HB.out.size HW6.out⟩
        | true =>
         have hl := HHL.out
         rw [Bool.not_true] at hl
         have HALL2 : Hid (∀ j, j < k + 1 → okE es j = true) := Lib.hid fun j hj => by
          by_cases e : j = k
          ·subst e; rw [HOK.out]; rfl
          ·exact HALL.out j (by omega)
         go_wp2
         go_roundw
         case rel => exact ⟨k + 1, by omega, by go_num, by rw [HL.out], HALL2.out, below_then HB.out HB.out.size HW6.out⟩
         case measure => simp only [intOf]; omega
  ·have hn2 : decide ((k : Int) < (es.length : Int)) = false := decide_eq_false (by omega)
   have HX : Hid (r = decide (((es.length : Nat) : Int) ≤ 20)) := Lib.hid (by rw [HR.out, hist_all fun i hi => hall i (by omega), decide_eq_decide]; omega)
   clear hall
   go_wp2
   go_ret
   exact ⟨by rw [HX.out]; rfl, hb⟩
end Go.Proofs.YtopcpbokfngpeaaGreatDoor.H
/- A region that draws its order and only reads and calls: one walk in the order of the text serves every order. Conditions: each theorem's own. -/
set_option linter.unusedVariables false
namespace Go.Proofs.YtopcpbokfngpeaaGreatDoor.H
open Go.RowKit Go.Proofs.YtopcpbokfngpeaaGreatDoorW.PrintWords
theorem wp_region_below {P : Program} {id : Nat} {Q : Exit → Act → World → Prop} {a : Act} {w : World} {l : List Oper} (hm : P.follows .mixedOrders = true) (hB : Region.lexB .any l.toArray = true)
  (h : wpQuiet P l.toArray (fun w' => Below w.heap.size w w') (fun a' => ∀ w', Below w.heap.size w w' → Q .normal a' w') l a) : (Code.region id l.toArray true).wp P Q a w :=
 wp_region_quiet (C := fun w' => Below w.heap.size w w') hm hB (below_drew (Below.refl _ _)) (by simpa using h)
end Go.Proofs.YtopcpbokfngpeaaGreatDoor.H
/- spec.HistOk: what the call comes to. Conditions: each theorem's own. -/
set_option linter.unusedVariables false
namespace Go.Proofs.YtopcpbokfngpeaaGreatDoor.H
open Go.RowKit Go.Proofs.YtopcpbokfngpeaaGreatDoorW.PrintWords Go.Proofs.YtopcpbokfngpeaaGreatDoor.Base Go.Proofs.YtopcpbokfngpeaaGreatDoor.Pure
theorem C17.later {w w1 : World} {a : Addr} {x : En} {pv : Value} (h : C17 w a (eCells x pv)) (hb : Below w.heap.size w w1) : C17 w1 a (eCells x pv) := by
 obtain ⟨h0, h1, h2, h3, h4, h5, h6, h7, h8, h9, h10, h11, h12, h13, h14, h15, h16⟩ := h
 exact ⟨cell_later hb h0, cell_later hb h1, cell_later hb h2, cell_later hb h3, cell_later hb h4, cell_later hb h5, cell_later hb h6, cell_later hb h7, cell_later hb h8, cell_later hb h9, cell_later hb h10, cell_later hb h11, cell_later hb h12, cell_later hb h13, cell_later hb h14, cell_later hb h15, cell_later hb h16⟩
set_option maxHeartbeats 8000000 in
set_option maxRecDepth 100000 in
theorem specHistOk_walk (v : Value) (es : List En) (w : World) (hR : RowE w v es) (hf : ∀ x ∈ es, FitP x.u) (hn : es.length ≤ 1048576) :
  Calls Tryz.prog 27 #[v] w fun e w' => e = .returned (.bool (histOkV es)) ∧ Below w.heap.size w w' := by
 have HA := Lib.hid hR
 obtain ⟨A, c, rfl, hc, _⟩ := hR
 obtain ⟨r, HR⟩ : ∃ r, Hid (r = histOkV es) := ⟨_, Lib.hid rfl⟩
 rw [← HR.out]
 have HO := Lib.hid fun (k : Nat) (h : k < es.length) pv w1 (hP : PathAt w1 pv (es[k]).u.path) => specOne_walk es[k] pv w1 (hf _ (List.getElem_mem h)) hP
 clear hf
 go_enter Tryz.func27, Tryz.ntmps27
 go_wp2
 go_loopw [3] (fun i wr => ∃ k : Nat, k ≤ es.length ∧ i = .int .i64 k ∧ (∀ j, j < k → okE es j = true) ∧ Below w.heap.size w wr) (fun i _ => es.length - (intOf i).toNat)
 case atStart => exact ⟨0, by omega, rfl, fun j h => absurd h (by omega), Below.refl _ _⟩
 case round =>
  obtain ⟨k, hk, rfl, hall, hb⟩ := hrel
  by_cases hlt : k < es.length
  ·have HALL := Lib.hid hall
   obtain ⟨ad, pv, e0, hpv, hcell⟩ := (HA.out.below hb).at k hlt
   subst e0
   have i1 : ((k : Int) < (es.length : Int)) := by omega
   have it : ((k : Int)).toNat = k := rfl
   have HC := Lib.hid fun w1 (h1 : Below wr.heap.size wr w1) => HO.out k hlt pv w1 (hpv.below h1)
   have HOK := Lib.hid (okE_at hlt)
   have HX : ∃ x, Hid (x = es[k]) := ⟨_, Lib.hid rfl⟩
   obtain ⟨x, HX⟩ := HX
   rw [← HX.out] at hcell HC HOK
   have HCL := Lib.hid fun w1 (h1 : Below wr.heap.size wr w1) => hcell.later h1
   have HB := Lib.hid hb
   clear hpv hb hall hcell
   unfold eCells C17 at HCL
   unfold eCells at HC
   obtain ⟨b, HBV⟩ : ∃ b, Hid (oneV x = b) := ⟨_, Lib.hid rfl⟩
   rw [HBV.out] at HC HOK
   obtain ⟨q, HQV⟩ : ∃ q, Hid (decide (stepE es (k - 1) < stepE es k) = q) := ⟨_, Lib.hid rfl⟩
   rw [HQV.out] at HOK
   obtain ⟨cc, HCV⟩ : ∃ cc, Hid ((b && (decide (k = 0) || q)) = cc) := ⟨_, Lib.hid rfl⟩
   obtain ⟨dd, HDD⟩ : ∃ dd, Hid (dd = !cc) := ⟨_, Lib.hid rfl⟩
   have HSX := Lib.hid (stepE_at hlt)
   rw [← HX.out] at HSX
   go_upto_if 34 with fail
   go_cut [34] (fun z wc => z = .bool dd ∧ ∃ w2, w2 = wc ∧ Below w.heap.size w w2)
   case first =>
    cases b with
    | false =>
     obtain rfl : cc = false := by rw [← HCV.out]; rfl
     obtain rfl : dd = true := HDD.out
     refine wp_region_below (by kernel_rfl) (by kernel_rfl) ?_
     repeat (with_reducible refine wpQuiet_step (fun K hK => ?_); go_simp; first | (refine hK _ ?_; clear hK K) | (refine ⟨_, fun _ _ => rfl, hK _ ?_⟩; clear hK K) | (rw [if_neg (by decide)]; refine hK _ ?_; clear hK K) | (apply Exists.intro; refine ⟨fun wq hq => ?_, hK _ ?_⟩; (first | (go_at_call 64; refine (HC.out _ hq).mono ?_; rintro e w3 ⟨rfl, hb3⟩; exact ⟨rfl, below_then hq hq.size hb3⟩) | (have kk := HCL.out _ hq; go_simp; with_reducible rfl)); clear hK K))
     with_reducible refine wpQuiet_nil ?_
     intro w2 hb2
     go_wp2
     go_meet
     case rel => exact ⟨rfl, _, rfl, below_then HB.out HB.out.size hb2⟩
    | true =>
     by_cases k0 : k = 0
     ·obtain rfl : cc = true := by rw [← HCV.out]; simp [k0]
      have hk0 : decide (0 < (k : Int)) = false := decide_eq_false (by omega)
      have hk1 : decide (0 < k) = false := decide_eq_false (by omega)
      clear k0
      obtain rfl : dd = false := HDD.out
      refine wp_region_below (by kernel_rfl) (by kernel_rfl) ?_
      repeat (with_reducible refine wpQuiet_step (fun K hK => ?_); go_simp; first | (refine hK _ ?_; clear hK K) | (refine ⟨_, fun _ _ => rfl, hK _ ?_⟩; clear hK K) | (rw [if_neg (by decide)]; refine hK _ ?_; clear hK K) | (apply Exists.intro; refine ⟨fun wq hq => ?_, hK _ ?_⟩; (first | (go_at_call 64; refine (HC.out _ hq).mono ?_; rintro e w3 ⟨rfl, hb3⟩; exact ⟨rfl, below_then hq hq.size hb3⟩) | (have kk := HCL.out _ hq; go_simp; with_reducible rfl)); clear hK K))
      with_reducible refine wpQuiet_nil ?_
      intro w2 hb2
      go_wp2
      go_meet
      case rel => exact ⟨rfl, _, rfl, below_then HB.out HB.out.size hb2⟩
     ·obtain ⟨m, hm⟩ : ∃ m, k = m + 1 := ⟨k - 1, by omega⟩
      have hml : m < es.length := by omega
      have i2 : ((m : Int) < (es.length : Int)) := by omega
      have it2 : ((m : Int)).toNat = m := rfl
      have hw : IntKind.i64.wrap ((k : Int) - 1) = (m : Int) := by rw [IntKind.wrap_i64]; omega
      have hk0 : decide (0 < (k : Int)) = true := decide_eq_true (by omega)
      have hk1 : decide (0 < k) = true := decide_eq_true (by omega)
      have HSY := Lib.hid (stepE_at hml)
      have hkm : k - 1 = m := by omega
      rw [hkm] at HQV
      obtain rfl : cc = q := by rw [← HCV.out]; simp [k0]
      have hcmp : decide (x.step ≤ es[m].step) = !cc := by
       rw [← HQV.out, HSX.out, HSY.out, ← decide_not, decide_eq_decide]; omega
      have HM := Lib.hid fun w2 (hb : Below w.heap.size w w2) => (HA.out.below hb).cell m hml
      have HK := Lib.hid fun w2 (hb : Below w.heap.size w w2) => (HA.out.below hb).cell k hlt
      rw [← HX.out] at HK
      generalize es[m] = y at hcmp HM
      clear hkm hm k0
      cases cc <;> simp only [Bool.not_true, Bool.not_false] at hcmp
      all_goals
       first | obtain rfl : dd = true := HDD.out | obtain rfl : dd = false := HDD.out
       refine wp_region_below (by kernel_rfl) (by kernel_rfl) ?_
       repeat (with_reducible refine wpQuiet_step (fun K hK => ?_); go_simp; first | (refine hK _ ?_; clear hK K) | (refine ⟨_, fun _ _ => rfl, hK _ ?_⟩; clear hK K) | (rw [if_neg (by decide)]; refine hK _ ?_; clear hK K) | (apply Exists.intro; refine ⟨fun wq hq => ?_, hK _ ?_⟩; (first | (go_at_call 64; refine (HC.out _ hq).mono ?_; rintro e w3 ⟨rfl, hb3⟩; exact ⟨rfl, below_then hq hq.size hb3⟩) | (have kk := HCL.out _ hq; go_simp; with_reducible rfl) | (obtain ⟨ad2, e2, hcm, _, _⟩ := HM.out _ (below_then HB.out HB.out.size hq); obtain rfl := Option.some.inj e2; obtain ⟨ad3, e3, hck, _, _⟩ := HK.out _ (below_then HB.out HB.out.size hq); obtain rfl := Option.some.inj e3; go_simp; with_reducible rfl)); clear hK K))
       with_reducible refine wpQuiet_nil ?_
       intro w2 hb2
       go_wp2
       go_meet
       case rel => exact ⟨rfl, _, rfl, below_then HB.out HB.out.size hb2⟩
   case rest =>
    obtain ⟨rfl, w2, rfl, hb2⟩ := hcut
    have HB2 := Lib.hid hb2
    clear hb2 HC HCL
    have HOK2 : Hid (okE es k = (cc && decide (∀ j, j < k → keyE es j ≠ keyE es k))) := Lib.hid (by rw [HOK.out, ← HCV.out, Bool.and_assoc])
    cases dd with
    | true =>
     obtain rfl : cc = false := by cases cc with | false => rfl | true => exact absurd HDD.out (by decide)
     have HY : Hid (r = false) := Lib.hid (by rw [HR.out]; exact hist_bad k hlt (by rw [HOK2.out]; rfl))
     go_wp2
     go_ret
     exact ⟨by rw [HY.out]; rfl, HB2.out⟩
    | false =>
     obtain rfl : cc = true := by cases cc with | true => rfl | false => exact absurd HDD.out (by decide)
     go_wp2
     go_loopw [4] (fun j wi => ∃ p : Nat, p ≤ k ∧ j = .int .i64 p ∧ (∀ z, z < p → keyE es z ≠ keyE es k) ∧ Below w.heap.size w wi) (fun j _ => k - (intOf j).toNat)
     case atStart => exact ⟨0, by omega, rfl, fun z hz => absurd hz (by omega), HB2.out⟩
     case round =>
      obtain ⟨p, hp, rfl, hne, hb3⟩ := hrel
      have HNE := Lib.hid hne
      clear hne
      by_cases hpl : p < k
      ·have hpe : p < es.length := by omega
       obtain ⟨ad2, e2, _, _, hcp⟩ := (HA.out.below hb3).cell p hpe
       obtain rfl := Option.some.inj e2
       obtain ⟨ad3, e3, _, _, hck⟩ := (HA.out.below hb3).cell k hlt
       obtain rfl := Option.some.inj e3
       have j1 : ((p : Int) < (k : Int)) := by omega
       have j2 : ((p : Int) < (es.length : Int)) := by omega
       have j3 : ((p : Int)).toNat = p := rfl
       have HKP := Lib.hid (keyE_at hpe)
       have HKK := Lib.hid (keyE_at hlt)
       generalize es[p].key = y1 at hcp HKP
       generalize es[k].key = y2 at hck HKK
       have HB3 := Lib.hid hb3
       clear hb3
       obtain ⟨qq, HQQ⟩ : ∃ qq, Hid ((y1 == y2) = qq) := ⟨_, Lib.hid rfl⟩
       cases qq with
       | true =>
        have hqq := HQQ.out
        have HY : Hid (r = false) := Lib.hid (by
         rw [HR.out]
         refine hist_bad k hlt ?_
         rw [HOK2.out, decide_eq_false fun h => h p hpl (by rw [HKP.out, HKK.out]; exact eq_of_beq HQQ.out)]; rfl)
        go_wp2_with fail
        go_quiet (fail)
        go_wp2
        go_ret
        exact ⟨by rw [HY.out]; rfl, below_drewN HB3.out _⟩
       | false =>
        have hqq := HQQ.out
        have HNE2 : Hid (∀ z, z < p + 1 → keyE es z ≠ keyE es k) := Lib.hid fun z hz => by
         by_cases e : z = p
         ·subst e; rw [HKP.out, HKK.out]; exact beq_eq_false_iff_ne.1 HQQ.out
         ·exact HNE.out z (by omega)
        go_wp2_with fail
        go_quiet (fail)
        go_wp2
        go_roundw
        case rel => exact ⟨p + 1, by omega, by go_num, HNE2.out, below_drewN HB3.out _⟩
        case measure => simp only [intOf]; omega
      ·have hn3 : decide ((p : Int) < (k : Int)) = false := decide_eq_false (by omega)
       have HALL2 : Hid (∀ j, j < k + 1 → okE es j = true) := Lib.hid fun j hj => by
        by_cases e : j = k
        ·subst e; rw [HOK2.out, decide_eq_true fun z hz => HNE.out z (by omega)]; rfl
        ·exact HALL.out j (by omega)
       go_wp2
       go_roundw
       case rel => exact ⟨k + 1, by omega, by go_num, HALL2.out, hb3⟩
       case measure => simp only [intOf]; omega
  ·have hn2 : decide ((k : Int) < (es.length : Int)) = false := decide_eq_false (by omega)
   have HX : Hid (r = decide (((es.length : Nat) : Int) ≤ 20)) := Lib.hid (by rw [HR.out, hist_all fun i hi => hall i (by omega), decide_eq_decide]; omega)
   clear hall
   go_wp2
   go_ret
   exact ⟨by rw [HX.out]; rfl, hb⟩
end Go.Proofs.YtopcpbokfngpeaaGreatDoor.H
/- HistAt, HistKey of both sides: what the calls come to; the package-level variables read as their tables. Conditions: each theorem's own. -/
set_option linter.unusedVariables false
namespace Go.Proofs.YtopcpbokfngpeaaGreatDoor.H
open Go.RowKit Go.Proofs.YtopcpbokfngpeaaGreatDoorW.PrintWords Go.Proofs.YtopcpbokfngpeaaGreatDoor.Base Go.Proofs.YtopcpbokfngpeaaGreatDoor.Pure
def histAtV (es : List En) (s : Int) : Int := if histOkV es = true then atE es s es.length else -1
def histKeyV (es : List En) (k : Int) : Int := if histOkV es = true then keyV es k else -1
set_option maxRecDepth 100000 in
theorem specHistAt_walk (v : Value) (es : List En) (s : Int) (w : World) (hR : RowE w v es) (hf : ∀ x ∈ es, FitP x.u) (hn : es.length ≤ 1048576) :
  Calls Tryz.prog 30 #[v, .int .i64 s] w fun e w' => e = .returned (.int .i64 (histAtV es s)) ∧ Below w.heap.size w w' := by
 have HO := Lib.hid (specHistOk_walk v es w hR hf hn)
 have HA := Lib.hid fun w1 (hb : Below w.heap.size w w1) => l5At_walk v es s w1 (hR.below hb) hn
 unfold histAtV
 generalize histOkV es = b at HO ⊢
 clear hR hf
 go_enter Tryz.func30, Tryz.ntmps30
 go_wp2_with fail
 refine HO.out.mono ?_
 rintro e w2 ⟨rfl, hb2⟩
 have HB2 := Lib.hid hb2
 clear hb2
 cases b with
 | false =>
  go_wp2
  go_ret
  exact ⟨rfl, HB2.out⟩
 | true =>
  go_wp2_with fail
  refine (HA.out _ HB2.out).mono ?_
  rintro e w3 ⟨rfl, hb3⟩
  have HB3 := Lib.hid (below_then HB2.out HB2.out.size hb3)
  clear hb3
  go_wp2
  go_ret
  exact ⟨rfl, HB3.out⟩
set_option maxRecDepth 100000 in
theorem implHistAt_walk (v : Value) (es : List En) (s : Int) (w : World) (hR : RowE w v es) (hf : ∀ x ∈ es, FitP x.u) (hn : es.length ≤ 1048576) (hT : Tabs w) :
  Calls Tryz.prog 29 #[v, .int .i64 s] w fun e w' => e = .returned (.int .i64 (histAtV es s)) ∧ Below w.heap.size w w' := by
 have HO := Lib.hid (implHistOk_walk v es w hR hf hn hT)
 have HA := Lib.hid fun w1 (hb : Below w.heap.size w w1) => histAt_walk v es s w1 (hR.below hb) hn
 unfold histAtV
 generalize histOkV es = b at HO ⊢
 clear hR hf hT
 go_enter Tryz.func29, Tryz.ntmps29
 go_wp2_with fail
 refine HO.out.mono ?_
 rintro e w2 ⟨rfl, hb2⟩
 have HB2 := Lib.hid hb2
 clear hb2
 cases b with
 | false =>
  go_wp2
  go_ret
  exact ⟨rfl, HB2.out⟩
 | true =>
  go_wp2_with fail
  refine (HA.out _ HB2.out).mono ?_
  rintro e w3 ⟨rfl, hb3⟩
  have HB3 := Lib.hid (below_then HB2.out HB2.out.size hb3)
  clear hb3
  go_wp2
  go_ret
  exact ⟨rfl, HB3.out⟩
set_option maxRecDepth 100000 in
theorem implHistKey_walk (v : Value) (es : List En) (s : Int) (w : World) (hR : RowE w v es) (hf : ∀ x ∈ es, FitP x.u) (hn : es.length ≤ 1048576) (hT : Tabs w) :
  Calls Tryz.prog 25 #[v, .int .i64 s] w fun e w' => e = .returned (.int .i64 (histKeyV es s)) ∧ Below w.heap.size w w' := by
 have HO := Lib.hid (implHistOk_walk v es w hR hf hn hT)
 have HA := Lib.hid fun w1 (hb : Below w.heap.size w w1) => keyAt_walk v es s w1 (hR.below hb) hn
 unfold histKeyV
 generalize histOkV es = b at HO ⊢
 clear hR hf hT
 go_enter Tryz.func25, Tryz.ntmps25
 go_wp2_with fail
 refine HO.out.mono ?_
 rintro e w2 ⟨rfl, hb2⟩
 have HB2 := Lib.hid hb2
 clear hb2
 cases b with
 | false =>
  go_wp2
  go_ret
  exact ⟨rfl, HB2.out⟩
 | true =>
  go_wp2_with fail
  refine (HA.out _ HB2.out).mono ?_
  rintro e w3 ⟨rfl, hb3⟩
  have HB3 := Lib.hid (below_then HB2.out HB2.out.size hb3)
  clear hb3
  go_wp2
  go_ret
  exact ⟨rfl, HB3.out⟩
set_option maxHeartbeats 2000000 in
set_option maxRecDepth 100000 in
theorem specHistKey_walk (v : Value) (es : List En) (s : Int) (w : World) (hR : RowE w v es) (hf : ∀ x ∈ es, FitP x.u) (hn : es.length ≤ 1048576) :
  Calls Tryz.prog 26 #[v, .int .i64 s] w fun e w' => e = .returned (.int .i64 (histKeyV es s)) ∧ Below w.heap.size w w' := by
 have HA := Lib.hid hR
 have HO := Lib.hid fun w1 (hb : Below w.heap.size w w1) => specHistOk_walk _ es w1 (HA.out.below hb) hf hn
 obtain ⟨A, c, rfl, hc, _⟩ := hR
 obtain ⟨r, HR⟩ : ∃ r, Hid (r = histKeyV es s) := ⟨_, Lib.hid rfl⟩
 rw [← HR.out]
 have HV : Hid (histKeyV es s = if histOkV es = true then keyV es s else -1) := Lib.hid rfl
 generalize histOkV es = b at HO HV
 clear hf
 go_enter Tryz.func26, Tryz.ntmps26
 go_wp2
 go_loopw [5] (fun i wr => ∃ k : Nat, k ≤ es.length ∧ i = .int .i64 k ∧ (∀ j (q : j < es.length), j < k → ¬ es[j].key = s) ∧ Below w.heap.size w wr) (fun i _ => es.length - (intOf i).toNat)
 case atStart => exact ⟨0, by omega, rfl, fun j _ h => absurd h (by omega), Below.refl _ _⟩
 case round =>
  obtain ⟨k, hk, rfl, hne, hb⟩ := hrel
  have HN := Lib.hid hne
  have HB := Lib.hid hb
  clear hne hb
  by_cases hlt : k < es.length
  ·have i1 : ((k : Int) < (es.length : Int)) := by omega
   have it : ((k : Int)).toNat = k := rfl
   go_wp2_with fail
   refine (HO.out _ HB.out).mono ?_
   rintro e w2 ⟨rfl, hb2⟩
   have HB2 := Lib.hid (below_then HB.out HB.out.size hb2)
   clear hb2
   cases b with
   | false =>
    have HY : Hid (r = -1) := Lib.hid (by rw [HR.out, HV.out]; rfl)
    go_wp2
    go_ret
    exact ⟨by rw [HY.out]; rfl, HB2.out⟩
   | true =>
    obtain ⟨ad, e0, _, _, hck⟩ := (HA.out.below HB2.out).cell k hlt
    subst e0
    have HX : ∃ x, Hid (x = es[k].key) := ⟨_, Lib.hid rfl⟩
    obtain ⟨x, HX⟩ := HX
    rw [← HX.out] at hck
    obtain ⟨q, HQ⟩ : ∃ q, Hid ((x == s) = q) := ⟨_, Lib.hid rfl⟩
    cases q with
    | true =>
     have hq := HQ.out
     have HY : Hid (r = (k : Int)) := Lib.hid (by rw [HR.out, HV.out, if_pos rfl]; exact keyV_some k hlt (by rw [← HX.out]; exact eq_of_beq HQ.out) HN.out)
     go_wp2
     go_ret
     exact ⟨by rw [HY.out]; rfl, HB2.out⟩
    | false =>
     have hq := HQ.out
     have HN2 : Hid (∀ j (q : j < es.length), j < k + 1 → ¬ es[j].key = s) := Lib.hid fun j q hj => by
      by_cases e : j = k
      ·subst e; rw [← HX.out]; exact beq_eq_false_iff_ne.1 HQ.out
      ·exact HN.out j q (by omega)
     go_wp2
     go_roundw
     case rel => exact ⟨k + 1, by omega, by go_num, HN2.out, HB2.out⟩
     case measure => simp only [intOf]; omega
  ·have hn2 : decide ((k : Int) < (es.length : Int)) = false := decide_eq_false (by omega)
   have HY : Hid (r = -1) := Lib.hid (by
    rw [HR.out, HV.out, keyV_none fun j q => HN.out j q (by omega)]
    split <;> rfl)
   go_wp2
   go_ret
   exact ⟨by rw [HY.out]; rfl, HB.out⟩
end Go.Proofs.YtopcpbokfngpeaaGreatDoor.H
/- Of no program: what the laws on drawn entries say. Conditions: each theorem's own. -/
set_option linter.unusedVariables false
namespace Go.Proofs.YtopcpbokfngpeaaGreatDoor.H
open Go.RowKit Go.Proofs.YtopcpbokfngpeaaGreatDoorW.PrintWords Go.Proofs.YtopcpbokfngpeaaGreatDoor.Base Go.Proofs.YtopcpbokfngpeaaGreatDoor.Pure
theorem keys_apart {es : List En} (h : histOkV es = true) (i j : Nat) (hi : i < es.length) (hj : j < i) : es[j].key ≠ es[i].key := by
 unfold histOkV at h
 have h1 := of_decide_eq_true (Bool.and_eq_true_iff.1 h).1 i hi
 rw [okE_at hi] at h1
 have h2 := of_decide_eq_true (Bool.and_eq_true_iff.1 (Bool.and_eq_true_iff.1 h1).2).2 j hj
 rw [keyE_at hi, keyE_at (show j < es.length by omega)] at h2
 exact h2
theorem key_law {es : List En} (key : Int) (h : histOkV es = true) : (∀ i (hi : i < es.length), decide (es[i].key = key) = decide ((i : Int) = keyV es key)) ∧ keyV es key < es.length ∧ -1 ≤ keyV es key := by
 by_cases hk : ∃ k, ∃ q : k < es.length, es[k].key = key
 ·obtain ⟨k, q, e⟩ := hk
  have hv := keyV_some k q e fun j qj hj he => keys_apart h k j q hj (he.trans e.symm)
  rw [hv]
  refine ⟨fun i hi => ?_, by omega, by omega⟩
  by_cases hik : i = k
  ·subst hik
   rw [decide_eq_true e, decide_eq_true rfl]
  ·rw [decide_eq_false (show ¬ (i : Int) = (k : Int) by omega), decide_eq_false]
   intro he
   rcases Nat.lt_or_gt_of_ne hik with c | c
   ·exact keys_apart h k i q c (he.trans e.symm)
   ·exact keys_apart h i k hi c (e.trans he.symm)
 ·have hv := keyV_none (es := es) (key := key) fun j qj he => hk ⟨j, qj, he⟩
  rw [hv]
  refine ⟨fun i hi => ?_, by omega, by omega⟩
  rw [decide_eq_false (show ¬ (i : Int) = -1 by omega), decide_eq_false fun he => hk ⟨i, hi, he⟩]
theorem at_law (es : List En) (s : Int) : ∀ n, n ≤ es.length → -1 ≤ atE es s n ∧ atE es s n < n ∧ (∀ k : Nat, (k : Int) = atE es s n → ∃ h : k < es.length, es[k].step ≤ s) ∧ ∀ j : Nat, atE es s n < (j : Int) → ∀ h : j < es.length, j < n → s < es[j].step
 | 0, _ => ⟨by unfold atE; omega, by unfold atE; omega, fun k hk => by unfold atE at hk; omega, fun j _ _ hj => absurd hj (Nat.not_lt_zero j)⟩
 | n + 1, hn => by
  have hlt : n < es.length := by omega
  obtain ⟨i1, i2, i3, i4⟩ := at_law es s n (by omega)
  rw [atE_step es s n hlt]
  by_cases hs : es[n].step ≤ s
  ·rw [if_pos hs]
   refine ⟨by omega, by omega, fun k hk => ?_, fun j h1 h2 h3 => by omega⟩
   obtain rfl : k = n := by omega
   exact ⟨hlt, hs⟩
  ·rw [if_neg hs]
   refine ⟨i1, by omega, i3, fun j h1 h2 h3 => ?_⟩
   by_cases hj : j = n
   ·subst hj; omega
   ·exact i4 j h1 h2 (by omega)
end Go.Proofs.YtopcpbokfngpeaaGreatDoor.H
namespace Go.Proofs.YtopcpbokfngpeaaGreatDoorW.PrintWords
open Go.ChangeShapes Go.WideShapes
theorem sized_ints {H : Type} {enc : TypeId × Value → H} {P : Program} {W : World} {base : Nat} {spare : Nat → Bool} {held : Bool} {t e : TypeId} {k : IntKind} {a : Option Addr} {len cap : Nat} {d : DataW H} {ps : List MemPlace} {ts : List TypeId} {ds : List (DataW H)} {j : Nat}
    (hsz : (DataW.weightsEach P ts ds).all (· ≤ reachBytes) = true) (ht : ts[j]? = some t) (hd : ds[j]? = some d) (hu : P.underlying t = some (.slice e)) (he : P.underlying e = some (.int k)) (hc : P.cellsOf e = 1) {B : Nat} (hB : P.bytesOf e = B)
    (h : DataW.Trod enc P W base spare held t (.slice a len cap) d ps) : len * B ≤ 140737488351232 := by
  obtain ⟨fuel, hf⟩ := h
  rcases open_ints hu he hc hf with ⟨hcs, _⟩ | ⟨x, l, c, zs, hcs, _, hl, _, hz, hx, _, _⟩
  · simp [Value.cells] at hcs
    obtain ⟨rfl, rfl, rfl⟩ := hcs
    simp
  · simp [Value.cells] at hcs
    obtain ⟨rfl, rfl, rfl⟩ := hcs
    obtain ⟨hx, _⟩ := Prod.mk.inj hx
    subst hx
    have z := sized_slice hsz ht hd hu
    rw [hB] at z
    have hl2 : len ≤ zs.length := by
      rw [hz]
      split
      · exact hl
      · exact Nat.le_refl _
    have h1 : (lits (H := H) k (zs.take len)).length + (lits (H := H) k (zs.drop len)).length = zs.length := by
      simp [lits]
      omega
    rw [h1] at z
    exact Nat.le_trans (Nat.mul_le_mul_right _ hl2) z
end Go.Proofs.YtopcpbokfngpeaaGreatDoorW.PrintWords
