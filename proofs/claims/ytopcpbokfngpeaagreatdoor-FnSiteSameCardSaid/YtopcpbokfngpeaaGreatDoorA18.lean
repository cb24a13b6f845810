/- Texts of this claim, joined: DUrlF, DUrlH. Conditions: each theorem's own. -/
import Derived.Test.YtopcpbokfngpeaaGreatDoorA16
/- spec.l11Two, and the draws of two addresses: their texts are not too long. Conditions: each theorem's own. -/
set_option linter.unusedVariables false
namespace Go.Proofs.YtopcpbokfngpeaaGreatDoor.H
open Go.RowKit Go.Proofs.YtopcpbokfngpeaaGreatDoorW.PrintWords Go.Proofs.YtopcpbokfngpeaaGreatDoor.Base Go.Proofs.YtopcpbokfngpeaaGreatDoor.Pure
theorem results_cc {P : Program} {fn : Func} {p q : Tmp} {ty : TypeId} (h : fn.results = #[.cell p ty, .cell q ty]) (tmps : Array Value) (w : World) (g k : Nat) (t : TypeId) (cs ds : Array Value) (d : TypeDesc)
  (hp : tmps.getD p undef = .pointer (some ⟨g, 0, none⟩)) (hq : tmps.getD q undef = .pointer (some ⟨k, 0, none⟩)) (hg : w.heap[g]? = some (.cells cs t (0, 0))) (hk : w.heap[k]? = some (.cells ds t (0, 0)))
  (hu : P.underlying ty = some d) (hd : (match d with | .struct _ | .array _ _ => true | _ => false) = true) (hi : (P.info? ty).map (·.size) = some cs.size) (hj : (P.info? ty).map (·.size) = some ds.size) :
  (results fn tmps).run P w = .ok (.tuple #[.agg cs, .agg ds]) w := by
 have hp' : tmps[p]?.getD undef = .pointer (some ⟨g, 0, none⟩) := by simpa using hp
 have hq' : tmps[q]?.getD undef = .pointer (some ⟨k, 0, none⟩) := by simpa using hq
 simp [results, h, hp', hq', asAddr, run_loadVar_row w g t ty cs (0, 0) d hg hu hd hi, run_loadVar_row w k t ty ds (0, 0) d hk hu hd hj]
theorem q_typed {w w1 : World} {base : Nat} {e : TypeId} {size n : Nat} {v : Value} {xs : List Value} (h : QRow w base e size v n xs) (hk : ∀ (k : Nat) (cur : Array Value), w.heap[k]? = some (Obj.cells cur e) → w1.heap[k]? = w.heap[k]?) : QRow w1 base e size v n xs := by
 obtain ⟨h1, h2⟩ := h
 refine ⟨h1, ?_⟩
 rcases h2 with ⟨h0, A, hA, hc⟩ | ⟨g, off, cap, cur, hv, hg, hh, r⟩
 ·refine .inl ⟨h0, A, hA, fun a ha => ?_⟩
  obtain ⟨b1, cur, b2⟩ := hc a ha
  exact ⟨b1, cur, (hk _ cur b2).trans b2⟩
 ·exact .inr ⟨g, off, cap, cur, hv, hg, (hk _ cur hh).trans hh, r⟩
def putW (w : World) (g : Nat) (u : Ur) (pv : Value) : World := (((((((((((((w.setCell ⟨g, 0, none⟩ (.string (B u.sch))).setCell ⟨g, 1, none⟩ (.string (B u.usr))).setCell ⟨g, 2, none⟩ (.string (B u.pas))).setCell ⟨g, 3, none⟩ (.int .i64 u.hk)).setCell ⟨g, 4, none⟩ (.string (B u.hn))).setCell ⟨g, 5, none⟩ (.int .i64 u.ha)).setCell ⟨g, 6, none⟩ (.int .i64 u.port)).setCell ⟨g, 7, none⟩ (pv)).setCell ⟨g, 8, none⟩ (.string (B u.opq))).setCell ⟨g, 9, none⟩ (.bool u.hq)).setCell ⟨g, 10, none⟩ (.string (B u.qry))).setCell ⟨g, 11, none⟩ (.bool u.hf)).setCell ⟨g, 12, none⟩ (.string (B u.frg)))
theorem putW_grown {w : World} {g : Nat} {u : Ur} {pv : Value} : w.grownBy (putW w g u pv) (some g) := grown13 (grown_b (Below.refl _ w))
theorem putW_blk {w : World} {g : Nat} {u : Ur} {pv : Value} (h : Blk w g zz) : Blk (putW w g u pv) g (uCells u pv) := by
 unfold zz at h
 exact Blk.put13 h
theorem q_putW {w : World} {g : Nat} {cs : Array Value} {u : Ur} {pv : Value} {base n : Nat} {v : Value} {xs : List Value} (h : QRow w base 9 1 v n xs) (hb : Blk w g cs) : QRow (putW w g u pv) base 9 1 v n xs :=
 q_typed h fun k cur hk => putW_grown.block k (by rcases Nat.lt_or_ge k w.heap.size with q | q; exact q; rw [Array.getElem?_eq_none q] at hk; cases hk) fun q => by
  obtain rfl := Option.some.inj q
  unfold Blk at hb
  rw [hk] at hb
  injection hb with q; injection q with _ q _
  exact absurd q (by decide)
theorem Drew.putW {w0 w w1 : World} {g n b : Nat} {u : Ur} {pv : Value} (h : Drew w0 w w1 g n) (hg : b ≠ g) (hb : w.heap.size ≤ b) (hs : w0.heap.size ≤ w.heap.size) : Drew w0 w (putW w1 b u pv) g n := Drew.put13 h hg hb hs
theorem q_set {w : World} {g i : Nat} {cs : Array Value} {x : Value} {base n : Nat} {v : Value} {xs : List Value} (h : QRow w base 9 1 v n xs) (hb : Blk w g cs) : QRow (w.setCell ⟨g, i, none⟩ x) base 9 1 v n xs :=
 q_typed h fun k cur hk => Below.heap_setCell w ⟨g, i, none⟩ x k fun q => by
  obtain rfl : k = g := q
  unfold Blk at hb
  rw [hk] at hb
  injection hb with q; injection q with _ q _
  exact absurd q (by decide)
abbrev Held2 (w0 : World) (g h : Nat) (c0 c1 c2 c3 c4 c5 c6 c7 c8 c9 c10 c11 c12 d0 d1 d2 d3 d4 d5 d6 d7 d8 d9 d10 d11 d12 : Value) (w : World) : Prop := (C13 w g c0 c1 c2 c3 c4 c5 c6 c7 c8 c9 c10 c11 c12 ∧ C13 w h d0 d1 d2 d3 d4 d5 d6 d7 d8 d9 d10 d11 d12) ∧ Below w0.heap.size w0 w
theorem Held2.drew {w0 w : World} {g h : Nat} {c0 c1 c2 c3 c4 c5 c6 c7 c8 c9 c10 c11 c12 d0 d1 d2 d3 d4 d5 d6 d7 d8 d9 d10 d11 d12 : Value} (k : Held2 w0 g h c0 c1 c2 c3 c4 c5 c6 c7 c8 c9 c10 c11 c12 d0 d1 d2 d3 d4 d5 d6 d7 d8 d9 d10 d11 d12 w) : Held2 w0 g h c0 c1 c2 c3 c4 c5 c6 c7 c8 c9 c10 c11 c12 d0 d1 d2 d3 d4 d5 d6 d7 d8 d9 d10 d11 d12 w.drew := ⟨⟨(Held.drew ⟨k.1.1, k.2⟩).1, (Held.drew ⟨k.1.2, k.2⟩).1⟩, below_drew k.2⟩
theorem Held2.far13 {w0 w : World} {g h j : Nat} {c0 c1 c2 c3 c4 c5 c6 c7 c8 c9 c10 c11 c12 d0 d1 d2 d3 d4 d5 d6 d7 d8 d9 d10 d11 d12 v0 v1 v2 v3 v4 v5 v6 v7 v8 v9 v10 v11 v12 : Value} (k : Held2 w0 g h c0 c1 c2 c3 c4 c5 c6 c7 c8 c9 c10 c11 c12 d0 d1 d2 d3 d4 d5 d6 d7 d8 d9 d10 d11 d12 w) (h1 : j ≠ g) (h2 : j ≠ h) (hge : w0.heap.size ≤ j) : Held2 w0 g h c0 c1 c2 c3 c4 c5 c6 c7 c8 c9 c10 c11 c12 d0 d1 d2 d3 d4 d5 d6 d7 d8 d9 d10 d11 d12 (((((((((((((w.setCell ⟨j, 0, none⟩ v0).setCell ⟨j, 1, none⟩ v1).setCell ⟨j, 2, none⟩ v2).setCell ⟨j, 3, none⟩ v3).setCell ⟨j, 4, none⟩ v4).setCell ⟨j, 5, none⟩ v5).setCell ⟨j, 6, none⟩ v6).setCell ⟨j, 7, none⟩ v7).setCell ⟨j, 8, none⟩ v8).setCell ⟨j, 9, none⟩ v9).setCell ⟨j, 10, none⟩ v10).setCell ⟨j, 11, none⟩ v11).setCell ⟨j, 12, none⟩ v12) :=
 ⟨⟨(Held.far13 ⟨k.1.1, k.2⟩ h1 hge).1, (Held.far13 ⟨k.1.2, k.2⟩ h2 hge).1⟩, below13 k.2 hge⟩
def TwoDrew (w0 w : World) (g n : Nat) (e : Ending) (w' : World) : Prop := ∃ u v pv qv, e = .returned (.tuple #[.agg (uCells u pv), .agg (uCells v qv)]) ∧ FitP u ∧ FitP v ∧ QRow w' (g + 1) 9 1 pv u.path.length (strV u.path) ∧ QRow w' (g + 1) 9 1 qv v.path.length (strV v.path) ∧ Drew w0 w w' g n
theorem fitp_hf {u : Ur} (f : FitP u) {x : Bs} (hx : x.length ≤ 1000) : FitP { u with hf := true, frg := x } := ⟨⟨f.fit.s, f.fit.us, f.fit.ps, f.fit.hn, f.fit.o, f.fit.q, by show x.length ≤ _; omega, f.fit.p, f.fit.pl, f.fit.port⟩, f.pp⟩
theorem fitp_hq {u : Ur} (f : FitP u) : FitP { u with hq := true, qry := [113] } := ⟨⟨f.fit.s, f.fit.us, f.fit.ps, f.fit.hn, f.fit.o, by show ([113] : Bs).length ≤ _; decide, f.fit.f, f.fit.p, f.fit.pl, f.fit.port⟩, f.pp⟩
theorem fitp_path {u : Ur} (f : FitP u) {x : Bs} (hx : x.length ≤ 1000) : FitP { u with path := [x, [121]] } := by
 have h1 : (pathPut [x, [121]]).length = x.length + 3 := by unfold pathPut; simp
 exact ⟨⟨f.fit.s, f.fit.us, f.fit.ps, f.fit.hn, f.fit.o, f.fit.q, f.fit.f, by show (pathPut [x, [121]]).length ≤ _; omega, by show ([x, [121]] : List Bs).length ≤ _; simp, f.fit.port⟩, by show (pathPut [x, [121]]).length ≤ _; omega⟩
set_option maxHeartbeats 8000000 in
set_option maxRecDepth 100000 in
theorem two_draw (g n : Nat) (w0 w : World) (h : Drew w0 w w g (n + 400)) : Calls Tryz.prog 32 #[.pointer (some ⟨g, 0, none⟩)] w (TwoDrew w0 w g n) := by
 have hlt := h.rd.lt
 have hs0 := h.b.size
 obtain ⟨K2, K3, HBn⟩ := two_any w zz zz
 have D1 := h.below HBn
 clear HBn
 have hg3 : w.heap.size ≠ w.heap.size + 1 := by omega
 have hgg : w.heap.size + 1 ≠ g := by omega
 have hge : w.heap.size ≤ w.heap.size + 1 := by omega
 have hg1 : w.heap.size ≠ g := by omega
 go_enter Tryz.func32, Tryz.ntmps32
 go_upto_region 1 with fail
 unfold zz at K2 K3 D1
 generalize (w.alloc _).alloc _ = w1 at K2 K3 D1 ⊢
 generalize w.heap.size + 1 = g3 at K3 hg3 hgg hge ⊢
 go_wp2_with fail
 refine (pick_draw g (n + 399) 3 w0 w1 w1 D1.at (by omega) (by omega)).mono ?_
 rintro e w2 ⟨r, rfl, hr, D12⟩
 have K22 := K2.drewn D12 hg1
 have K32 := K3.drewn D12 hgg
 have D2 := D1.trans D12
 clear D1 D12 K2 K3
 by_cases c0 : r = 0
 ·have d0 : ((r : Int) == 0) = true := by rw [beq_iff_eq]; omega
  go_wp2_with fail
  refine (near_draw g (n + 398) w0 w2 (D2.at.less (by omega))).mono ?_
  rintro e w3 ⟨u, pv, rfl, fu, hqu, D23⟩
  obtain ⟨A, c, rfl, _⟩ := q_slice hqu
  have K23 := K22.drewn D23 hg1
  have K33 := K32.drewn D23 hgg
  have D3 := D2.trans D23
  clear D23 K22 K32 D2
  unfold uCells
  go_wp2_with fail
  refine (near_draw g (n + 397) w0 w3 (D3.at.less (by omega))).mono ?_
  rintro e w4 ⟨v, qv, rfl, fv, hqv, D34⟩
  obtain ⟨A4, c4, rfl, _⟩ := q_slice hqv
  have K24 := K23.drewn D34 hg1
  have K34 := K33.drewn D34 hgg
  have D4 := D3.trans D34
  have hqu4 := q_drewn hqu D34 (Nat.lt_succ_self g)
  clear D34 K23 K33 D3 hqu
  unfold uCells
  have K25 : Blk w4 w.heap.size zz := K24
  have K35 : Blk w4 g3 zz := K34
  have HD := Lib.hid ((Drew.putW (b := g3) (u := v) (pv := (.slice A4 v.path.length c4)) (Drew.putW (b := w.heap.size) (u := u) (pv := (.slice A u.path.length c)) D4 hg1 (Nat.le_refl _) hs0) hgg hge hs0).less (show n ≤ n + 397 by omega))
  have HK2 := Lib.hid (Blk.grown (putW_blk (u := u) (pv := (.slice A u.path.length c)) K25) (putW_grown (g := g3) (u := v) (pv := (.slice A4 v.path.length c4))) hg3)
  have K3a := Blk.grown K35 (putW_grown (g := w.heap.size) (u := u) (pv := (.slice A u.path.length c))) hg3.symm
  have HK3 := Lib.hid (putW_blk (u := v) (pv := (.slice A4 v.path.length c4)) K3a)
  have HQu := Lib.hid (q_putW (u := v) (pv := (.slice A4 v.path.length c4)) (q_putW (u := u) (pv := (.slice A u.path.length c)) hqu4 K25) K3a)
  have HQv := Lib.hid (q_putW (u := v) (pv := (.slice A4 v.path.length c4)) (q_putW (u := u) (pv := (.slice A u.path.length c)) hqv K25) K3a)
  have kc2 := K24.cells
  have kc3 := K34.cells
  clear K25 K35 K3a D4
  go_wp2
  exact bodyPost_ret (results_cc rfl _ _ w.heap.size g3 27 _ _ _ rfl rfl HK2.out HK3.out Tryz.underlying27 rfl (by kernel_rfl) (by kernel_rfl)) rfl ⟨u, v, _, _, rfl, fu.fit, fv.fit, HQu.out, HQv.out, HD.out⟩
 have d0 : ((r : Int) == 0) = false := by rw [beq_eq_false_iff_ne]; omega
 by_cases c1 : r = 1
 ·have d1 : ((r : Int) == 1) = true := by rw [beq_iff_eq]; omega
  go_wp2_with fail
  refine (anyUrl_draw g (n + 260) w0 w2 (D2.at.less (by omega))).mono ?_
  rintro e w3 ⟨u, pv, rfl, fu, hqu, D23⟩
  obtain ⟨A, c, rfl, _⟩ := q_slice hqu
  have K23 := K22.drewn D23 hg1
  have K33 := K32.drewn D23 hgg
  have D3 := D2.trans D23
  clear D23 K22 K32 D2
  obtain ⟨K44, hba⟩ := near_fold w3 (uCells u (.slice A u.path.length c))
  have n42 : w3.heap.size ≠ w.heap.size := Nat.ne_of_gt K23.lt
  have n43 : w3.heap.size ≠ g3 := Nat.ne_of_gt K33.lt
  have n4g : w3.heap.size ≠ g := Nat.ne_of_gt D3.rd.lt
  have hw3 := D3.k.1
  have K24 := K23.below hba
  have K34 := K33.below hba
  have D4 := D3.below hba
  have hq4 := q_below hqu hba
  clear hqu K23 K33 D3 hba
  unfold uCells at K44 K24 K34 D4 hq4 ⊢
  go_upto_region 6 with fail
  generalize w3.alloc _ = w4 at K44 K24 K34 D4 hq4 ⊢
  generalize w3.heap.size = g4 at K44 n42 n43 n4g hw3 ⊢
  have HCP := Lib.hid (l3Copy_walk u (.slice A u.path.length c) w4 (pathAt_q hq4) fu.fit.pl)
  have kc4 := K44.cells.1
  go_wp2_with fail
  refine HCP.out.mono ?_
  rintro e w5 ⟨v5, rfl, hown, hb5⟩
  clear kc4 HCP
  obtain ⟨A5, c5, rfl, _⟩ := own_form hown
  obtain ⟨K56, hba⟩ := near_fold w5 (uCells u (.slice A5 u.path.length c5))
  have hb46 := below_then hb5 hb5.size hba
  have K46 := K44.below hb46
  have K26 := K24.below hb46
  have K36 := K34.below hb46
  have D6 := D4.below hb46
  have hq6 := q_below hq4 hb46
  have n54 : w5.heap.size ≠ g4 := Nat.ne_of_gt (K44.below hb5).lt
  have n52 : w5.heap.size ≠ w.heap.size := Nat.ne_of_gt (K24.below hb5).lt
  have n53 : w5.heap.size ≠ g3 := Nat.ne_of_gt (K34.below hb5).lt
  have n5g : w5.heap.size ≠ g := Nat.ne_of_gt (D4.rd.below hb5).lt
  have hg4l : g + 1 ≤ w4.heap.size := D4.rd.lt
  have hw5 := (D4.below hb5).k.1
  have hr6 : QRow (w5.alloc (.cells (uCells u (.slice A5 u.path.length c5)) 27)) (g + 1) 9 1 (.slice A5 u.path.length c5) u.path.length (strV u.path) := q_mono (own_q (own_below hown hba)) hg4l
  clear hown hb5 hba hb46 hq4 K24 K34 K44 D4 hg4l
  unfold uCells at K56 K46 K26 K36 D6 hq6 hr6 ⊢
  go_upto_region 7 with fail
  generalize w5.alloc _ = w6 at K56 K46 K26 K36 D6 hq6 hr6 ⊢
  generalize w5.heap.size = g5 at K56 n54 n52 n53 n5g hw5 ⊢
  go_wp2_with fail
  refine (pick_draw g (n + 259) 4 w0 w6 w6 (D6.at.less (by omega)) (by omega) (by omega)).mono ?_
  rintro e w7 ⟨r2, rfl, hr2, D67⟩
  have K57 := K56.drewn D67 n5g
  have K47 := K46.drewn D67 n4g
  have K27 := K26.drewn D67 hg1
  have K37 := K36.drewn D67 hgg
  have hq7 := q_drewn hq6 D67 (Nat.lt_succ_self g)
  have hr7 := q_drewn hr6 D67 (Nat.lt_succ_self g)
  have D7 := D6.trans D67
  clear D67 K56 K46 K26 K36 hq6 hr6 D6
  go_upto_block 1 with fail
  go_cut [5, 21] (fun x _ wc => x = .pointer (some ⟨g5, 0, none⟩) ∧ ∃ (wd : World) (b : Ur) (A9 : Option Addr) (c9 : Nat), wd = wc ∧ FitP b ∧ Blk wd g5 #[.string (B b.sch), .string (B b.usr), .string (B b.pas), .int .i64 b.hk, .string (B b.hn), .int .i64 b.ha, .int .i64 b.port, (.slice A9 b.path.length c9), .string (B b.opq), .bool b.hq, .string (B b.qry), .bool b.hf, .string (B b.frg)] ∧ Blk wd g4 #[.string (B u.sch), .string (B u.usr), .string (B u.pas), .int .i64 u.hk, .string (B u.hn), .int .i64 u.ha, .int .i64 u.port, (.slice A u.path.length c), .string (B u.opq), .bool u.hq, .string (B u.qry), .bool u.hf, .string (B u.frg)] ∧ Blk wd w.heap.size #[.string ⟨#[]⟩, .string ⟨#[]⟩, .string ⟨#[]⟩, .int .i64 0, .string ⟨#[]⟩, .int .i64 0, .int .i64 0, .slice none 0 0, .string ⟨#[]⟩, .bool false, .string ⟨#[]⟩, .bool false, .string ⟨#[]⟩] ∧ Blk wd g3 #[.string ⟨#[]⟩, .string ⟨#[]⟩, .string ⟨#[]⟩, .int .i64 0, .string ⟨#[]⟩, .int .i64 0, .int .i64 0, .slice none 0 0, .string ⟨#[]⟩, .bool false, .string ⟨#[]⟩, .bool false, .string ⟨#[]⟩] ∧ QRow wd (g + 1) 9 1 (.slice A u.path.length c) u.path.length (strV u.path) ∧ QRow wd (g + 1) 9 1 (.slice A9 b.path.length c9) b.path.length (strV b.path) ∧ Drew w0 w wd g n)
  case first =>
   by_cases e0 : r2 = 0
   ·have f0 : ((r2 : Int) == 0) = true := by rw [beq_iff_eq]; omega
    have kc5 := K57.cells
    go_upto_region 10 with fail
    clear kc5
    have K58 := (Blk.put K57 11 (.bool true))
    have K48 := (Blk.far (p := ⟨g5, 11, none⟩) K47 n54.symm (.bool true))
    have K28 := (Blk.far (p := ⟨g5, 11, none⟩) K27 n52.symm (.bool true))
    have K38 := (Blk.far (p := ⟨g5, 11, none⟩) K37 n53.symm (.bool true))
    have hq8 := (q_set (i := 11) (x := (.bool true)) hq7 K57)
    have hr8 := (q_set (i := 11) (x := (.bool true)) hr7 K57)
    have D8 := (Drew.put D7 (b := g5) 11 (.bool true) n5g hw5 hs0)
    generalize (w7.setCell ⟨g5, 11, none⟩ (.bool true)) = w8 at K58 K48 K28 K38 hq8 hr8 D8 ⊢
    clear K57 K47 K27 K37 hq7 hr7 D7
    have kc5 := K58.cells
    go_wp2_with fail
    refine (of_lit g (n + 258) 1 2 w0 w8 w8 _ _ (D8.at.less (by omega)) (by rfl) (by rfl) (by omega) (by omega)).mono ?_
    rintro e w9 ⟨x, rfl, hx, Dx⟩
    clear kc5
    have K59 := K58.drewn Dx n5g
    have K49 := K48.drewn Dx n4g
    have K29 := K28.drewn Dx hg1
    have K39 := K38.drewn Dx hgg
    have hq9 := q_drewn hq8 Dx (Nat.lt_succ_self g)
    have hr9 := q_drewn hr8 Dx (Nat.lt_succ_self g)
    have D9 := D8.trans Dx
    clear Dx K58 K48 K28 K38 hq8 hr8 D8
    have kc5 := K59.cells
    have K510 := Lib.hid (Blk.put K59 12 (.string (B x)))
    have K410 := Lib.hid (Blk.far (p := ⟨g5, 12, none⟩) K49 n54.symm (.string (B x)))
    have K210 := Lib.hid (Blk.far (p := ⟨g5, 12, none⟩) K29 n52.symm (.string (B x)))
    have K310 := Lib.hid (Blk.far (p := ⟨g5, 12, none⟩) K39 n53.symm (.string (B x)))
    have hq10 := Lib.hid (q_set (i := 12) (x := (.string (B x))) hq9 K59)
    have hr10 := Lib.hid (q_set (i := 12) (x := (.string (B x))) hr9 K59)
    have D10 := Lib.hid (Drew.put D9 (b := g5) 12 (.string (B x)) n5g hw5 hs0)
    go_wp2
    go_meet
    case rel => exact ⟨rfl, _, { u with hf := true, frg := x }, _, _, rfl, fitp_hf fu (x := x) (by omega), K510.out, K410.out, K210.out, K310.out, hq10.out, hr10.out, D10.out.less (by omega)⟩
   have f0 : ((r2 : Int) == 0) = false := by rw [beq_eq_false_iff_ne]; omega
   by_cases e1 : r2 = 1
   ·have f1 : ((r2 : Int) == 1) = true := by rw [beq_iff_eq]; omega
    have kc5 := K57.cells
    have K58 := Lib.hid (Blk.put (Blk.put K57 9 (.bool true)) 10 (.string ⟨#[113]⟩))
    have K48 := Lib.hid (Blk.far (p := ⟨g5, 10, none⟩) (Blk.far (p := ⟨g5, 9, none⟩) K47 n54.symm (.bool true)) n54.symm (.string ⟨#[113]⟩))
    have K28 := Lib.hid (Blk.far (p := ⟨g5, 10, none⟩) (Blk.far (p := ⟨g5, 9, none⟩) K27 n52.symm (.bool true)) n52.symm (.string ⟨#[113]⟩))
    have K38 := Lib.hid (Blk.far (p := ⟨g5, 10, none⟩) (Blk.far (p := ⟨g5, 9, none⟩) K37 n53.symm (.bool true)) n53.symm (.string ⟨#[113]⟩))
    have hq8 := Lib.hid (q_set (i := 10) (x := (.string ⟨#[113]⟩)) (q_set (i := 9) (x := (.bool true)) hq7 K57) (Blk.put K57 9 (.bool true)))
    have hr8 := Lib.hid (q_set (i := 10) (x := (.string ⟨#[113]⟩)) (q_set (i := 9) (x := (.bool true)) hr7 K57) (Blk.put K57 9 (.bool true)))
    have D8 := Lib.hid (Drew.put (Drew.put D7 (b := g5) 9 (.bool true) n5g hw5 hs0) (b := g5) 10 (.string ⟨#[113]⟩) n5g hw5 hs0)
    go_wp2
    go_meet
    case rel => exact ⟨rfl, _, { u with hq := true, qry := [113] }, _, _, rfl, fitp_hq fu, K58.out, K48.out, K28.out, K38.out, hq8.out, hr8.out, D8.out.less (by omega)⟩
   have f1 : ((r2 : Int) == 1) = false := by rw [beq_eq_false_iff_ne]; omega
   by_cases e2 : r2 = 2
   ·have f2 : ((r2 : Int) == 2) = true := by rw [beq_iff_eq]; omega
    have kc5 := K57.cells
    go_wp2_with fail
    refine (of_lit g (n + 258) 1 2 w0 w7 w7 _ _ (D7.at.less (by omega)) (by rfl) (by rfl) (by omega) (by omega)).mono ?_
    rintro e w8 ⟨x, rfl, hx, Dx⟩
    clear kc5
    have K58 := K57.drewn Dx n5g
    have K48 := K47.drewn Dx n4g
    have K28 := K27.drewn Dx hg1
    have K38 := K37.drewn Dx hgg
    have hq8 := q_drewn hq7 Dx (Nat.lt_succ_self g)
    have hr8 := q_drewn hr7 Dx (Nat.lt_succ_self g)
    have D8 := D7.trans Dx
    clear Dx K57 K47 K27 K37 hq7 hr7 D7
    have hba := below_alloc (Below.refl _ w8) (.cells #[.string (B x), .string ⟨#[121]⟩] 9)
    have hgl : g + 1 ≤ w8.heap.size := D8.rd.lt
    have hr9 : QRow (w8.alloc (.cells #[.string (B x), .string ⟨#[121]⟩] 9)) (g + 1) 9 1 (.slice (some ⟨w8.heap.size, 0, none⟩) 2 2) 2 (strV [x, [121]]) := q_of_own (World.ownsRow_lit w8 #[.string (B x), .string ⟨#[121]⟩] 2 hgl (by unfold maxLen; omega) rfl)
    have K59 := K58.below hba
    have K49 := K48.below hba
    have K29 := K28.below hba
    have K39 := K38.below hba
    have hq9 := q_below hq8 hba
    have D9 := D8.below hba
    clear hba hgl K58 K48 K28 K38 hq8 hr8 D8
    have kc5 := K59.cells
    have K510 := Lib.hid (Blk.put K59 7 (.slice (some ⟨w8.heap.size, 0, none⟩) 2 2))
    have K410 := Lib.hid (Blk.far (p := ⟨g5, 7, none⟩) K49 n54.symm (.slice (some ⟨w8.heap.size, 0, none⟩) 2 2))
    have K210 := Lib.hid (Blk.far (p := ⟨g5, 7, none⟩) K29 n52.symm (.slice (some ⟨w8.heap.size, 0, none⟩) 2 2))
    have K310 := Lib.hid (Blk.far (p := ⟨g5, 7, none⟩) K39 n53.symm (.slice (some ⟨w8.heap.size, 0, none⟩) 2 2))
    have hq10 := Lib.hid (q_set (i := 7) (x := (.slice (some ⟨w8.heap.size, 0, none⟩) 2 2)) hq9 K59)
    have hr10 := Lib.hid (q_set (i := 7) (x := (.slice (some ⟨w8.heap.size, 0, none⟩) 2 2)) hr9 K59)
    have D10 := Lib.hid (Drew.put D9 (b := g5) 7 (.slice (some ⟨w8.heap.size, 0, none⟩) 2 2) n5g hw5 hs0)
    go_wp2
    go_meet
    case rel => exact ⟨rfl, _, { u with path := [x, [121]] }, _, _, rfl, fitp_path fu (x := x) (by omega), K510.out, K410.out, K210.out, K310.out, hq10.out, hr10.out, D10.out.less (by omega)⟩
   have f2 : ((r2 : Int) == 2) = false := by rw [beq_eq_false_iff_ne]; omega
   have K520 := Lib.hid K57
   have K420 := Lib.hid K47
   have K220 := Lib.hid K27
   have K320 := Lib.hid K37
   have hq20 := Lib.hid hq7
   have hr20 := Lib.hid hr7
   have D20 := Lib.hid D7
   go_wp2
   go_meet
   case rel => exact ⟨rfl, _, u, _, _, rfl, fu, K520.out, K420.out, K220.out, K320.out, hq20.out, hr20.out, D20.out.less (by omega)⟩
  case rest =>
   obtain ⟨rfl, w20, b, A9, c9, rfl, fb, K520, K420, K220, K320, hq20, hr20, D20⟩ := hcut
   clear K57 K47 K27 K37 hq7 hr7 D7
   have kz2 := K220.cells
   have kz3 := K320.cells
   have kz4 := K420.cells.1
   have kz5 := K520.cells.1
   have kd2 := (K220.below (below_drew (Below.refl _ w20))).cells
   have kd3 := (K320.below (below_drew (Below.refl _ w20))).cells
   have kd4 := (K420.below (below_drew (Below.refl _ w20))).cells.1
   have kd5 := (K520.below (below_drew (Below.refl _ w20))).cells.1
   have K25 : Blk w20 w.heap.size zz := K220
   have K35 : Blk w20 g3 zz := K320
   have HD := Lib.hid (((Drew.putW (b := g3) (u := b) (pv := (.slice A9 b.path.length c9)) (Drew.putW (b := w.heap.size) (u := u) (pv := (.slice A u.path.length c)) D20 hg1 (Nat.le_refl _) hs0) hgg hge hs0).below (below_drew (Below.refl _ _))).less (show n ≤ n by omega))
   have HK2 := Lib.hid ((Blk.grown (putW_blk (u := u) (pv := (.slice A u.path.length c)) K25) (putW_grown (g := g3) (u := b) (pv := (.slice A9 b.path.length c9))) hg3).below (below_drew (Below.refl _ _)))
   have K3a := Blk.grown K35 (putW_grown (g := w.heap.size) (u := u) (pv := (.slice A u.path.length c))) hg3.symm
   have HK3 := Lib.hid ((putW_blk (u := b) (pv := (.slice A9 b.path.length c9)) K3a).below (below_drew (Below.refl _ _)))
   have HQu := Lib.hid (q_below (q_putW (u := b) (pv := (.slice A9 b.path.length c9)) (q_putW (u := u) (pv := (.slice A u.path.length c)) hq20 K25) K3a) (below_drew (Below.refl _ _)))
   have HQv := Lib.hid (q_below (q_putW (u := b) (pv := (.slice A9 b.path.length c9)) (q_putW (u := u) (pv := (.slice A u.path.length c)) hr20 K25) K3a) (below_drew (Below.refl _ _)))
   clear K25 K35 K3a D20
   go_wp2_with fail
   go_region_with (fail)
   all_goals
    go_wp2
    exact bodyPost_ret (results_cc rfl _ _ w.heap.size g3 27 _ _ _ rfl rfl HK2.out HK3.out Tryz.underlying27 rfl (by kernel_rfl) (by kernel_rfl)) rfl ⟨u, b, _, _, rfl, fu, fb, HQu.out, HQv.out, HD.out⟩
 have d1 : ((r : Int) == 1) = false := by rw [beq_eq_false_iff_ne]; omega
 go_wp2_with fail
 refine (anyUrl_draw g (n + 260) w0 w2 (D2.at.less (by omega))).mono ?_
 rintro e w3 ⟨u, pv, rfl, fu, hqu, D23⟩
 obtain ⟨A, c, rfl, _⟩ := q_slice hqu
 have K23 := K22.drewn D23 hg1
 have K33 := K32.drewn D23 hgg
 have D3 := D2.trans D23
 clear D23 K22 K32 D2
 unfold uCells
 go_wp2_with fail
 refine (anyUrl_draw g (n + 130) w0 w3 (D3.at.less (by omega))).mono ?_
 rintro e w4 ⟨v, qv, rfl, fv, hqv, D34⟩
 obtain ⟨A4, c4, rfl, _⟩ := q_slice hqv
 have K24 := K23.drewn D34 hg1
 have K34 := K33.drewn D34 hgg
 have D4 := D3.trans D34
 have hqu4 := q_drewn hqu D34 (Nat.lt_succ_self g)
 clear D34 K23 K33 D3 hqu
 unfold uCells
 have K25 : Blk w4 w.heap.size zz := K24
 have K35 : Blk w4 g3 zz := K34
 have HD := Lib.hid ((Drew.putW (b := g3) (u := v) (pv := (.slice A4 v.path.length c4)) (Drew.putW (b := w.heap.size) (u := u) (pv := (.slice A u.path.length c)) D4 hg1 (Nat.le_refl _) hs0) hgg hge hs0).less (show n ≤ n + 130 by omega))
 have HK2 := Lib.hid (Blk.grown (putW_blk (u := u) (pv := (.slice A u.path.length c)) K25) (putW_grown (g := g3) (u := v) (pv := (.slice A4 v.path.length c4))) hg3)
 have K3a := Blk.grown K35 (putW_grown (g := w.heap.size) (u := u) (pv := (.slice A u.path.length c))) hg3.symm
 have HK3 := Lib.hid (putW_blk (u := v) (pv := (.slice A4 v.path.length c4)) K3a)
 have HQu := Lib.hid (q_putW (u := v) (pv := (.slice A4 v.path.length c4)) (q_putW (u := u) (pv := (.slice A u.path.length c)) hqu4 K25) K3a)
 have HQv := Lib.hid (q_putW (u := v) (pv := (.slice A4 v.path.length c4)) (q_putW (u := u) (pv := (.slice A u.path.length c)) hqv K25) K3a)
 have kc2 := K24.cells
 have kc3 := K34.cells
 clear K25 K35 K3a D4
 go_wp2
 exact bodyPost_ret (results_cc rfl _ _ w.heap.size g3 27 _ _ _ rfl rfl HK2.out HK3.out Tryz.underlying27 rfl (by kernel_rfl) (by kernel_rfl)) rfl ⟨u, v, _, _, rfl, fu, fv, HQu.out, HQv.out, HD.out⟩
end Go.Proofs.YtopcpbokfngpeaaGreatDoor.H
/- spec.DrawOriginSame, DrawSiteSame: a code that reads as bytes gives two addresses whose texts are not too long. Conditions: each theorem's own. -/
set_option linter.unusedVariables false
namespace Go.Proofs.YtopcpbokfngpeaaGreatDoor.H
open Go.RowKit Go.Proofs.YtopcpbokfngpeaaGreatDoorW.PrintWords Go.Proofs.YtopcpbokfngpeaaGreatDoor.Base Go.Proofs.YtopcpbokfngpeaaGreatDoor.Pure
set_option maxHeartbeats 4000000 in
set_option maxRecDepth 100000 in
theorem code_DrawOriginSame (a0 : Option Addr) (len0 cap0 : Nat) (z0 : List Int) (w : World) (w0 : CodeRow w a0 len0 cap0 z0) :
  Calls Tryz.prog 8 #[.slice a0 len0 cap0] w fun e w' => ∃ u v pv qv, e = .returned (.tuple #[.agg (uCells u pv), .agg (uCells v qv)]) ∧ FitP u ∧ FitP v ∧ PathAt w' pv u.path ∧ PathAt w' qv v.path ∧ Below w.heap.size w w' := by
 obtain ⟨K2, K3, HBn⟩ := two_any w zz zz
 have w1 := w0.below HBn
 have hg3 : w.heap.size ≠ w.heap.size + 1 := by omega
 have hge : w.heap.size ≤ w.heap.size + 1 := by omega
 unfold zz at K2 K3 HBn w1
 clear w0
 go_enter Tryz.func8, Tryz.ntmps8
 go_upto_region 1 with fail
 generalize (w.alloc _).alloc _ = w1' at K2 K3 HBn w1 ⊢
 have hlt2 := K2.lt
 have hlt3 := K3.lt
 generalize w.heap.size + 1 = g3 at K3 hg3 hge hlt3 ⊢
 go_wp2_with fail
 refine (open_draw a0 len0 cap0 z0 w1' w1).mono ?_
 rintro e w2 ⟨g, rfl, hg, D2, hb2⟩
 have K22 := K2.below hb2
 have K32 := K3.below hb2
 clear K2 K3 w1
 go_wp2_with fail
 refine (two_draw g 1000 w1' w2 (D2.less (by omega))).mono ?_
 rintro e w3 ⟨u, v, pv, qv, rfl, fu, fv, hqu, hqv, D3⟩
 obtain ⟨A, c, rfl, _⟩ := q_slice hqu
 obtain ⟨A4, c4, rfl, _⟩ := q_slice hqv
 have K25 : Blk w3 w.heap.size zz := K22.drewn D3 (by omega)
 have K35 : Blk w3 g3 zz := K32.drewn D3 (by omega)
 have HK2 := Lib.hid (Blk.grown (putW_blk (u := u) (pv := .slice A u.path.length c) K25) (putW_grown (g := g3) (u := v) (pv := .slice A4 v.path.length c4)) hg3)
 have K3a := Blk.grown K35 (putW_grown (g := w.heap.size) (u := u) (pv := .slice A u.path.length c)) hg3.symm
 have HK3 := Lib.hid (putW_blk (u := v) (pv := .slice A4 v.path.length c4) K3a)
 have HQu := Lib.hid (q_putW (u := v) (pv := .slice A4 v.path.length c4) (q_putW (u := u) (pv := .slice A u.path.length c) hqu K25) K3a)
 have HQv := Lib.hid (q_putW (u := v) (pv := .slice A4 v.path.length c4) (q_putW (u := u) (pv := .slice A u.path.length c) hqv K25) K3a)
 have HB := Lib.hid (below_then HBn HBn.size D3.b)
 have K2z := K22.drewn D3 (by omega)
 have K3z := K32.drewn D3 (by omega)
 have kc2 := K2z.cells
 have kc3 := K3z.cells
 clear K25 K35 K3a K2z K3z D3 D2 hb2 K22 K32 hqu hqv
 unfold uCells
 go_wp2
 exact bodyPost_ret (results_cc rfl _ _ w.heap.size g3 27 _ _ _ rfl rfl HK2.out HK3.out Tryz.underlying27 rfl (by kernel_rfl) (by kernel_rfl)) rfl ⟨u, v, _, _, rfl, fu, fv, pathAt_q HQu.out, pathAt_q HQv.out, below13 (below13 HB.out (Nat.le_refl _)) hge⟩
set_option maxHeartbeats 4000000 in
set_option maxRecDepth 100000 in
theorem code_DrawSiteSame (a0 : Option Addr) (len0 cap0 : Nat) (z0 : List Int) (w : World) (w0 : CodeRow w a0 len0 cap0 z0) :
  Calls Tryz.prog 13 #[.slice a0 len0 cap0] w fun e w' => ∃ u v pv qv, e = .returned (.tuple #[.agg (uCells u pv), .agg (uCells v qv)]) ∧ FitP u ∧ FitP v ∧ PathAt w' pv u.path ∧ PathAt w' qv v.path ∧ Below w.heap.size w w' := by
 obtain ⟨K2, K3, HBn⟩ := two_any w zz zz
 have w1 := w0.below HBn
 have hg3 : w.heap.size ≠ w.heap.size + 1 := by omega
 have hge : w.heap.size ≤ w.heap.size + 1 := by omega
 unfold zz at K2 K3 HBn w1
 clear w0
 go_enter Tryz.func13, Tryz.ntmps13
 go_upto_region 1 with fail
 generalize (w.alloc _).alloc _ = w1' at K2 K3 HBn w1 ⊢
 have hlt2 := K2.lt
 have hlt3 := K3.lt
 generalize w.heap.size + 1 = g3 at K3 hg3 hge hlt3 ⊢
 go_wp2_with fail
 refine (open_draw a0 len0 cap0 z0 w1' w1).mono ?_
 rintro e w2 ⟨g, rfl, hg, D2, hb2⟩
 have K22 := K2.below hb2
 have K32 := K3.below hb2
 clear K2 K3 w1
 go_wp2_with fail
 refine (two_draw g 1000 w1' w2 (D2.less (by omega))).mono ?_
 rintro e w3 ⟨u, v, pv, qv, rfl, fu, fv, hqu, hqv, D3⟩
 obtain ⟨A, c, rfl, _⟩ := q_slice hqu
 obtain ⟨A4, c4, rfl, _⟩ := q_slice hqv
 have K25 : Blk w3 w.heap.size zz := K22.drewn D3 (by omega)
 have K35 : Blk w3 g3 zz := K32.drewn D3 (by omega)
 have HK2 := Lib.hid (Blk.grown (putW_blk (u := u) (pv := .slice A u.path.length c) K25) (putW_grown (g := g3) (u := v) (pv := .slice A4 v.path.length c4)) hg3)
 have K3a := Blk.grown K35 (putW_grown (g := w.heap.size) (u := u) (pv := .slice A u.path.length c)) hg3.symm
 have HK3 := Lib.hid (putW_blk (u := v) (pv := .slice A4 v.path.length c4) K3a)
 have HQu := Lib.hid (q_putW (u := v) (pv := .slice A4 v.path.length c4) (q_putW (u := u) (pv := .slice A u.path.length c) hqu K25) K3a)
 have HQv := Lib.hid (q_putW (u := v) (pv := .slice A4 v.path.length c4) (q_putW (u := u) (pv := .slice A u.path.length c) hqv K25) K3a)
 have HB := Lib.hid (below_then HBn HBn.size D3.b)
 have K2z := K22.drewn D3 (by omega)
 have K3z := K32.drewn D3 (by omega)
 have kc2 := K2z.cells
 have kc3 := K3z.cells
 clear K25 K35 K3a K2z K3z D3 D2 hb2 K22 K32 hqu hqv
 unfold uCells
 go_wp2
 exact bodyPost_ret (results_cc rfl _ _ w.heap.size g3 27 _ _ _ rfl rfl HK2.out HK3.out Tryz.underlying27 rfl (by kernel_rfl) (by kernel_rfl)) rfl ⟨u, v, _, _, rfl, fu, fv, pathAt_q HQu.out, pathAt_q HQv.out, below13 (below13 HB.out (Nat.le_refl _)) hge⟩
end Go.Proofs.YtopcpbokfngpeaaGreatDoor.H
