/- Texts of this claim, joined: DUrlP, DUrlC, DUrlE, DUrlG, DUrlF, HUrlL, HUrlX, HEntW, DEntW. Conditions: each theorem's own. -/
import Derived.Test.YtopcpbokfngpeaaGreatDoorB15
import Derived.Test.YtopcpbokfngpeaaGreatDoorB13
import Derived.Deep.AppendLies
import Derived.Deep.RegionWith
import Derived.Deep.RegionLaw
import Derived.Test.YtopcpbokfngpeaaGreatDoorB14
import Derived.Deep.OwnRows
import Derived.WalkSpells
/- Of no program: what the laws on drawn addresses say. Conditions: each theorem's own. -/
set_option linter.unusedVariables false
namespace Go.Proofs.YtopcpbokfngpeaaGreatDoor.H
open Go.RowKit Go.Proofs.YtopcpbokfngpeaaGreatDoorW.PrintWords Go.Proofs.YtopcpbokfngpeaaGreatDoor.Base Go.Proofs.YtopcpbokfngpeaaGreatDoor.Pure
structure Sm (u : Ur) : Prop where
 s : u.sch.length ≤ 700
 us : u.usr.length ≤ 700
 ps : u.pas.length ≤ 700
 hn : u.hn.length ≤ 700
 o : u.opq.length ≤ 700
 q : u.qry.length ≤ 700
 f : u.frg.length ≤ 700
 pp : (pathPut u.path).length ≤ 700
 pl : u.path.length ≤ 12
 port : -1 ≤ u.port ∧ u.port ≤ 65535
theorem Sm.fit {u : Ur} (h : Sm u) : FitP u := by
 obtain ⟨h1, h2, h3, h4, h5, h6, h7, h8, h9, h10⟩ := h
 exact ⟨⟨by omega, by omega, by omega, by omega, by omega, by omega, by omega, by omega, by omega, by omega⟩, by omega⟩
theorem sm_zero : Sm Ur.zero := ⟨by decide, by decide, by decide, by decide, by decide, by decide, by decide, by decide, by decide, by decide⟩
theorem tail_sm (u : Ur) (h : TailOk u) : u.qry.length ≤ (tailB u).length ∧ u.frg.length ≤ (tailB u).length := by
 have h1 := h.q0
 have h2 := h.f0
 unfold tailB
 rw [List.length_append]
 constructor
 ·cases hq : u.hq with
  | false => rw [h1 hq]; simp
  | true => simp; omega
 ·cases hf : u.hf with
  | false => rw [h2 hf]; simp
  | true => simp; omega
theorem sm_goodO (u : Ur) (h : GoodO u) (hl : (putU u).length ≤ 700) : Sm u := by
 have e := h.rest
 have e1 : u.usr = [] := congrArg Ur.usr e
 have e2 : u.pas = [] := congrArg Ur.pas e
 have e3 : u.hn = [] := congrArg Ur.hn e
 have e4 : u.path = [] := congrArg Ur.path e
 have e5 : u.port = -1 := congrArg Ur.port e
 obtain ⟨t1, t2⟩ := tail_sm u h.t
 rw [putU_O u h.own] at hl
 simp only [List.length_append, List.length_cons] at hl
 exact ⟨by omega, by rw [e1]; simp, by rw [e2]; simp, by rw [e3]; simp, by omega, by omega, by omega, by rw [e4]; simp [pathPut], by rw [e4]; simp, by omega⟩
theorem sm_goodH (u : Ur) (h : GoodH u) (hl : (putU u).length ≤ 700) : Sm u := by
 obtain ⟨s1, s2, s3⟩ := http_sch _ h.s
 obtain ⟨t1, t2⟩ := tail_sm u h.t
 have hp := h.a.port
 have hn := h.a.host.size
 have hpl := h.pl
 rw [putU_H u s3] at hl
 unfold authB at hl
 simp only [List.length_append, List.length_cons] at hl
 have hu : u.usr.length ≤ (userB u).length ∧ u.pas.length ≤ (userB u).length := by
  unfold userB
  by_cases hz : u.usr ≠ [] ∨ u.pas ≠ []
  ·rw [if_pos hz]
   by_cases hp0 : u.pas ≠ []
   ·rw [if_pos hp0]; simp only [List.length_append, List.length_cons]; omega
   ·have : u.pas = [] := Decidable.byContradiction hp0
    rw [this]; simp
  ·have h1 : u.usr = [] := Decidable.byContradiction fun q => hz (.inl q)
   have h2 : u.pas = [] := Decidable.byContradiction fun q => hz (.inr q)
   rw [h1, h2]; simp
 exact ⟨by omega, by omega, by omega, by omega, by rw [h.o]; simp, by omega, by omega, by omega, hpl, by omega⟩
theorem urlG_no (l : Bs) (h : (urlG l).2 = false) : (urlG l).1 = Ur.zero := by
 unfold urlG at h ⊢
 by_cases hl : l.length ≤ 200
 ·rw [if_pos hl] at h ⊢
  cases hs : schemeV (trimU l) with
  | none => rfl
  | some sr =>
   obtain ⟨s, r⟩ := sr
   rw [hs] at h
   have h' : (readU s r).2 = false := h
   show (readU s r).1 = Ur.zero
   by_cases h1 : ownP s < 0
   ·unfold readU at h'; rw [if_pos h1] at h'; cases h'
   ·by_cases h2 : hostedOk s r = true
    ·unfold readU at h'; rw [if_neg h1, if_pos h2] at h'; cases h'
    ·unfold readU; rw [if_neg h1, if_neg h2]
 ·rw [if_neg hl]
theorem sm_url (l : Bs) : Sm (urlG l).1 := by
 cases h : (urlG l).2 with
 | false => rw [urlG_no l h]; exact sm_zero
 | true =>
  have hl := urlG_len l h
  obtain ⟨g, hp⟩ := good_of l h
  rcases g with g | g
  ·exact sm_goodO _ g (by omega)
  ·exact sm_goodH _ g (by omega)
/-! FnUrlText. -/
/-! FnPortOf. -/
def ownB (u : Ur) : Bool := (decide (portU u = 80) && u.sch == [104, 116, 116, 112]) || (decide (portU u = 443) && u.sch == [104, 116, 116, 112, 115])
/-! FnUrlParts. -/
def partsU (u : Ur) : Ur := { u with hq := true, qry := [111, 116, 104, 101, 114], hf := true, frg := [101, 110, 100] }
/-! FnUrlCase, FnUrlSlash. -/
def upK (n : Nat) (l : Bs) : Bs := (l.take n).map (fun c => c - 32) ++ l.drop n
def turnS (l : Bs) : Bs := swapC 47 92 (upA [63, 35] l) ++ upR [63, 35] l
end Go.Proofs.YtopcpbokfngpeaaGreatDoor.H
/- spec.l3Copy, l11Near, l11Url, l11AnyUrl: what is drawn is an address whose texts are not too long. Conditions: each theorem's own. -/
set_option linter.unusedVariables false
namespace Go.Proofs.YtopcpbokfngpeaaGreatDoor.H
open Go.RowKit Go.Proofs.YtopcpbokfngpeaaGreatDoorW.PrintWords Go.Proofs.YtopcpbokfngpeaaGreatDoor.Base Go.Proofs.YtopcpbokfngpeaaGreatDoor.Pure
theorem strV_cells {w : World} {A : Option Addr} {ps : List Bs} (h : Kd.C Kd.string w A (ps.map B).length (ps.map B)) (hn : 0 < ps.length) : ∃ ad, A = some ad ∧ ∀ j v, (strV ps)[j]? = some v → w.cell? (ad.add j) = some v := by
 obtain ⟨ad, e, _⟩ := kd_at h 0 hn
 refine ⟨ad, e, fun j v hj => ?_⟩
 have hl : j < ps.length := by
  rcases Nat.lt_or_ge j ps.length with q | q
  ·exact q
  ·rw [List.getElem?_eq_none (by simpa [strV] using q)] at hj; cases hj
 obtain ⟨ad', e', hc⟩ := kd_at h j hl
 obtain rfl : ad' = ad := Option.some.inj (e'.symm.trans e)
 rw [hc]
 simpa [strV, hl] using hj
theorem Drew.put13 {w0 w w1 : World} {g n b : Nat} {v0 v1 v2 v3 v4 v5 v6 v7 v8 v9 v10 v11 v12 : Value} (h : Drew w0 w w1 g n) (hg : b ≠ g) (hb : w.heap.size ≤ b) (hs : w0.heap.size ≤ w.heap.size) : Drew w0 w (((((((((((((w1.setCell ⟨b, 0, none⟩ v0).setCell ⟨b, 1, none⟩ v1).setCell ⟨b, 2, none⟩ v2).setCell ⟨b, 3, none⟩ v3).setCell ⟨b, 4, none⟩ v4).setCell ⟨b, 5, none⟩ v5).setCell ⟨b, 6, none⟩ v6).setCell ⟨b, 7, none⟩ v7).setCell ⟨b, 8, none⟩ v8).setCell ⟨b, 9, none⟩ v9).setCell ⟨b, 10, none⟩ v10).setCell ⟨b, 11, none⟩ v11).setCell ⟨b, 12, none⟩ v12) g n :=
 h.grown (row := some b) (grown13 (grown_b (Below.refl _ w1))) (fun c hc => by obtain rfl := Option.some.inj hc; exact ⟨hb, hg⟩) hs
def UrlDrew (F : Ur → Prop) (w0 w : World) (g n : Nat) (e : Ending) (w' : World) : Prop := ∃ u pv, e = .returned (.agg (uCells u pv)) ∧ F u ∧ QRow w' (g + 1) 9 1 pv u.path.length (strV u.path) ∧ Drew w0 w w' g n
theorem own_lower {w : World} {base base' : Nat} {e : TypeId} {size n : Nat} {v : Value} {xs : List Value} (h : w.ownsRow base e size v n xs) (hb : base' ≤ base) : w.ownsRow base' e size v n xs := by
 obtain ⟨h1, h2⟩ := h
 refine ⟨h1, ?_⟩
 rcases h2 with h2 | ⟨g, cap, cur, hv, hg, r⟩
 ·exact .inl h2
 ·exact .inr ⟨g, cap, cur, hv, Nat.le_trans hb hg, r⟩
theorem zz_new (w : World) : Blk (w.alloc (.cells zz 27)) w.heap.size zz := blk_new w _
set_option maxHeartbeats 2000000 in
set_option maxRecDepth 100000 in
theorem l3Copy_walk (u : Ur) (pv : Value) (w : World) (hP : PathAt w pv u.path) (hn : u.path.length ≤ 1048576) :
  Calls Tryz.prog 68 #[.agg (uCells u pv)] w fun e w' => ∃ v, e = .returned (.agg (uCells u v)) ∧ w'.ownsRow w.heap.size 9 1 v u.path.length (strV u.path) ∧ Below w.heap.size w w' := by
 obtain ⟨i0, hi, hz0, hz1, hz2⟩ := info_parts infoStr
 obtain ⟨K1, K2, HB⟩ := two_new w (uCells u pv)
 have hn1 : w.heap.size + 1 ≠ w.heap.size := by omega
 have hge : w.heap.size ≤ w.heap.size + 1 := by omega
 obtain ⟨A, c, rfl, hAc, hC⟩ := hP
 have hC1 := Kd.C_below hC HB
 clear hC
 unfold uCells zz at *
 go_enter Tryz.func68, Tryz.ntmps68
 go_upto_region 1 with fail
 generalize (w.alloc (.cells #[.string (B u.sch), .string (B u.usr), .string (B u.pas), .int .i64 u.hk, .string (B u.hn), .int .i64 u.ha, .int .i64 u.port, (.slice A u.path.length c), .string (B u.opq), .bool u.hq, .string (B u.qry), .bool u.hf, .string (B u.frg)] 27)).alloc _ = w1 at K1 K2 HB hC1 ⊢
 have hg2 : w.heap.size + 1 < w1.heap.size := K2.lt
 generalize w.heap.size + 1 = g2 at K2 hn1 hge hg2 ⊢
 have kc1 := Blk.cells K1
 by_cases hz : 0 < u.path.length
 ·have hd : decide (0 < (u.path.length : Int)) = true := decide_eq_true (by omega)
  obtain ⟨ad, rfl, hcell⟩ := strV_cells hC1 hz
  go_upto_region 2 with fail
  obtain ⟨qv, hqv⟩ : ∃ q, q = Value.slice (some ad) u.path.length c := ⟨_, rfl⟩
  rw [← hqv] at K1 kc1 ⊢
  have HQV := Lib.hid hqv
  clear hqv
  have kz := (Blk.cells (Blk.below K1 (below_alloc (Below.refl _ w1) (.cells #[] 9)))).1
  go_wp2_with (at_builtin; refine wpList_append_own _ rfl _ _ 25 rfl w1.heap.size 9 i0 (.string ⟨#[]⟩) 1 16 Tryz.underlying25 hi hz0 hz1 hz2 rfl (by decide) _ _ _ rfl (own_empty w1 9) ad u.path.length c (strV u.path) HQV.out ?c1 ?c2 ?c3 ?c4 ?c5 ?c6 ?_)
  case c1 => simp [strV]
  case c2 => intro j v hj; exact pw_cell_below (below_alloc (Below.refl _ w1) _) (hcell j v hj)
  case c3 => intro v hv; obtain ⟨s, _, rfl⟩ := List.mem_map.1 hv; rfl
  case c4 => unfold maxLen; omega
  case c5 => omega
  case c6 => simp
  intro v' w2 hown hgrow _
  obtain ⟨A2, c2, rfl, _⟩ := own_form hown
  have hgrow' : (w1.alloc (.cells #[] 9)).grownBy w2 (some w1.heap.size) := hgrow
  have l1 : w.heap.size < w1.heap.size := K1.lt
  have K12 := Blk.grown (Blk.below K1 (below_alloc (Below.refl _ w1) (.cells #[] 9))) hgrow' (by omega)
  have K22 := Blk.grown (Blk.below K2 (below_alloc (Below.refl _ w1) (.cells #[] 9))) hgrow' (by omega)
  have HB2 := (HB.alloc HB.size (.cells #[] 9)).grown hgrow' (by simp; omega) (fun j hj => by obtain rfl := Option.some.inj hj; omega)
  clear kz kc1 K1 K2 HB hgrow hgrow' hcell
  have kc1 := K12.cells
  go_upto_region 4 with fail
  have K13 := K12.put 7 (.slice A2 u.path.length c2)
  have K23 := Blk.far (p := ⟨w.heap.size, 7, none⟩) K22 hn1 (.slice A2 u.path.length c2)
  have HB3 := HB2.setCell (p := ⟨w.heap.size, 7, none⟩) (Nat.le_refl _) (.slice A2 u.path.length c2)
  have HO3 := own_move (w1 := w2.setCell ⟨w.heap.size, 7, none⟩ (.slice A2 u.path.length c2)) hown fun k hk => Below.heap_setCell _ _ _ k (by have := (own_lt hown k hk).1; show k ≠ w.heap.size; omega)
  generalize w2.setCell _ _ = w3 at K13 K23 HB3 HO3 ⊢
  clear kc1 K12 K22 HB2 hown
  have K13 : Blk w3 w.heap.size #[.string (B u.sch), .string (B u.usr), .string (B u.pas), .int .i64 u.hk, .string (B u.hn), .int .i64 u.ha, .int .i64 u.port, (.slice A2 u.path.length c2), .string (B u.opq), .bool u.hq, .string (B u.qry), .bool u.hf, .string (B u.frg)] := K13
  have kc1 := K13.cells
  have kc2 := K23.cells
  have HB4 := Lib.hid HB3
  have HO4 := Lib.hid HO3
  clear HB3 HO3
  go_wp2
  exact bodyPost_ret (results_cell_row rfl _ _ g2 27 _ (0, 0) _ rfl (Blk.put13 K23) Tryz.underlying27 rfl (by kernel_rfl)) rfl ⟨.slice A2 u.path.length c2, rfl, own_lower (own_move HO4.out fun k hk => (grown13 (g := g2) (grown_b (Below.refl _ w3))).block k (own_lt HO4.out k hk).2 (fun q => by have := (own_lt HO4.out k hk).1; have := Option.some.inj q; omega)) (Nat.le_of_lt l1), below13 HB4.out hge⟩
 ·have hd : decide (0 < (u.path.length : Int)) = false := decide_eq_false (by omega)
  go_upto_region 4 with fail
  have hz0' : u.path = [] := List.eq_nil_of_length_eq_zero (by omega)
  have K12 := K1.put 7 (.slice none 0 0)
  have K22 := Blk.far (p := ⟨w.heap.size, 7, none⟩) K2 hn1 (.slice none 0 0)
  have HB2 := HB.setCell (p := ⟨w.heap.size, 7, none⟩) (Nat.le_refl _) (.slice none 0 0)
  generalize w1.setCell _ _ = w2 at K12 K22 HB2 ⊢
  clear kc1 K1 K2 HB
  have K12 : Blk w2 w.heap.size #[.string (B u.sch), .string (B u.usr), .string (B u.pas), .int .i64 u.hk, .string (B u.hn), .int .i64 u.ha, .int .i64 u.port, .slice none 0 0, .string (B u.opq), .bool u.hq, .string (B u.qry), .bool u.hf, .string (B u.frg)] := K12
  have kc1 := K12.cells
  have kc2 := K22.cells
  have HB3 := Lib.hid HB2
  clear HB2
  go_wp2
  exact bodyPost_ret (results_cell_row rfl _ _ g2 27 _ (0, 0) _ rfl (Blk.put13 K22) Tryz.underlying27 rfl (by kernel_rfl)) rfl ⟨.slice none 0 0, rfl, by rw [hz0']; exact World.ownsRow_nil _ _ _ _, below13 HB3.out hge⟩
theorem near_fold (w : World) (cs : Array Value) : Blk (w.alloc (.cells cs 27)) w.heap.size cs ∧ Below w.heap.size w (w.alloc (.cells cs 27)) := ⟨blk_new w _, below_alloc (Below.refl _ _) _⟩
set_option maxHeartbeats 2000000 in
set_option maxRecDepth 100000 in
theorem near_draw (g n : Nat) (w0 w : World) (h : Drew w0 w w g (n + 1)) :
  Calls Tryz.prog 67 #[.pointer (some ⟨g, 0, none⟩)] w (UrlDrew Sm w0 w g n) := by
 have hlt := h.rd.lt
 have hs0 := h.b.size
 have K2 : Blk (w.alloc (.cells zz 27)) w.heap.size zz := zz_new w
 have D1 := h.alloc (.cells zz 27)
 unfold zz at K2 D1
 go_enter Tryz.func67, Tryz.ntmps67
 go_upto_region 1 with fail
 generalize w.alloc _ = w1 at K2 D1 ⊢
 have hg2 : w.heap.size < w1.heap.size := K2.lt
 go_wp2_with fail
 refine (of_lit g n 20 9 w0 w1 w1 _ _ D1.at (by rfl) (by rfl) (by omega) (by omega)).mono ?_
 rintro e w2 ⟨x, rfl, hx, D12⟩
 have K22 := K2.drewn D12 (by omega)
 have D2 := D1.trans D12
 clear D12 K2 D1
 go_wp2_with fail
 refine (specUrlGet_walk x w2 (by omega)).mono ?_
 rintro e w3 ⟨pv, rfl, hq, hb3⟩
 have sm := sm_url x
 generalize (urlG x).2 = ok at *
 generalize (urlG x).1 = u at hq sm ⊢
 obtain ⟨A, c, rfl, _⟩ := q_slice hq
 obtain ⟨K4, hba⟩ := near_fold w3 (uCells u (.slice A u.path.length c))
 have hge : w.heap.size < w2.heap.size := K22.lt
 have hgr : g + 1 ≤ w2.heap.size := D2.rd.lt
 have K23 := (K22.below hb3).below hba
 have HQ := Lib.hid (q_below hq hba)
 have D3 := Lib.hid ((D2.below hb3).below hba)
 clear hq hb3 hba K22 D2
 unfold uCells at K4 K23 HQ D3 ⊢
 go_upto_region 2 with fail
 generalize w3.alloc _ = w4 at K4 K23 HQ D3 ⊢
 generalize w3.heap.size = g4 at K4 ⊢
 have kc4 := K4.cells
 have kc2 := K23.cells
 go_wp2
 refine bodyPost_ret (results_cell_row rfl _ _ w.heap.size 27 _ (0, 0) _ rfl (Blk.put13 K23) Tryz.underlying27 rfl (by kernel_rfl)) rfl ⟨u, _, rfl, sm, q_mono (q_grown HQ.out (grown13 (g := w.heap.size) (grown_b (Below.refl _ _))) hge) hgr, Drew.put13 D3.out (by omega) (Nat.le_refl _) hs0⟩
set_option maxHeartbeats 4000000 in
set_option maxRecDepth 100000 in
theorem url_draw (g n : Nat) (w0 w : World) (h : Drew w0 w w g (n + 121)) :
  Calls Tryz.prog 45 #[.pointer (some ⟨g, 0, none⟩)] w (UrlDrew Sm w0 w g n) := by
 have hlt := h.rd.lt
 have hs0 := h.b.size
 have K2 : Blk (w.alloc (.cells zz 27)) w.heap.size zz := zz_new w
 have D1 := h.alloc (.cells zz 27)
 unfold zz at K2 D1
 go_enter Tryz.func45, Tryz.ntmps45
 go_upto_region 1 with fail
 generalize w.alloc _ = w1 at K2 D1 ⊢
 go_wp2_with fail
 go_loopw [3] (fun i wr => ∃ k : Nat, k ≤ 4 ∧ i = .int .i64 (k : Int) ∧ Drew w0 w wr g (n + (30 * (4 - k) + 1)) ∧ Blk wr w.heap.size #[.string ⟨#[]⟩, .string ⟨#[]⟩, .string ⟨#[]⟩, .int .i64 0, .string ⟨#[]⟩, .int .i64 0, .int .i64 0, .slice none 0 0, .string ⟨#[]⟩, .bool false, .string ⟨#[]⟩, .bool false, .string ⟨#[]⟩]) (fun i _ => 4 - (intOf i).toNat)
 case atStart => exact ⟨0, by omega, rfl, D1, K2⟩
 case round =>
  clear D1 K2
  obtain ⟨k, hk, rfl, D1, K2⟩ := hrel
  by_cases hk4 : k < 4
  ·have hd : decide ((k : Int) < 4) = true := decide_eq_true (by omega)
   obtain ⟨m, hm⟩ : ∃ m, m = 4 - (k + 1) := ⟨_, rfl⟩
   have D1' : Drew w0 w wr g (n + (30 * m + 1) + 30) := D1.less (by omega)
   have hwr : w.heap.size < wr.heap.size := K2.lt
   go_wp2_with fail
   refine (text_draw g _ w0 wr D1'.at).mono ?_
   rintro e w2 ⟨x, rfl, hx, D12⟩
   have K22 := K2.drewn D12 (by omega)
   have D2 := D1'.trans D12
   clear D12 K2 D1 D1'
   go_wp2_with fail
   refine (specUrlGet_walk x w2 (by omega)).mono ?_
   rintro e w3 ⟨pv, rfl, hq, hb3⟩
   have sm := sm_url x
   generalize (urlG x).2 = ok at *
   generalize (urlG x).1 = u at hq sm ⊢
   obtain ⟨A, c, rfl, _⟩ := q_slice hq
   obtain ⟨K4, hba⟩ := near_fold w3 (uCells u (.slice A u.path.length c))
   have hge : w.heap.size < w2.heap.size := K22.lt
   have hgr : g + 1 ≤ w2.heap.size := D2.rd.lt
   have K23 := (K22.below hb3).below hba
   have HQ := Lib.hid (q_below hq hba)
   have D3 := Lib.hid ((D2.below hb3).below hba)
   clear hq hb3 hba K22 D2
   unfold uCells at K4 K23 HQ D3 ⊢
   go_upto_region 5 with fail
   generalize w3.alloc _ = w4 at K4 K23 HQ D3 ⊢
   generalize w3.heap.size = g4 at K4 ⊢
   cases ok with
   | false =>
    go_wp2
    go_roundw
    case rel => exact ⟨k + 1, by omega, by go_num, by rw [← hm]; exact D3.out, K23⟩
    case measure => simp only [intOf]; omega
   | true =>
    have HOK := Lib.hid (specUrlOk_walk u (.slice A u.path.length c) w4 sm.fit (pathAt_q HQ.out))
    have kc4 := K4.cells.1
    unfold uCells at HOK
    go_wp2_with fail
    refine HOK.out.mono ?_
    rintro e w5 ⟨rfl, hb5⟩
    have K25 := K23.below hb5
    have K45 := K4.below hb5
    have HQ5 := Lib.hid (q_below HQ.out hb5)
    have D5 := Lib.hid (D3.out.below hb5)
    clear kc4 K23 K4 HQ D3 hb5 HOK
    cases ho : okU u with
    | false =>
     go_wp2
     go_roundw
     case rel => exact ⟨k + 1, by omega, by go_num, by rw [← hm]; exact D5.out, K25⟩
     case measure => simp only [intOf]; omega
    | true =>
     have kc4 := K45.cells
     have kc2 := K25.cells
     go_wp2
     refine bodyPost_ret (results_cell_row rfl _ _ w.heap.size 27 _ (0, 0) _ rfl (Blk.put13 K25) Tryz.underlying27 rfl (by kernel_rfl)) rfl ⟨u, _, rfl, sm, q_mono (q_grown HQ5.out (grown13 (g := w.heap.size) (grown_b (Below.refl _ _))) hge) hgr, (Drew.put13 D5.out (by omega) (Nat.le_refl _) hs0).less (by omega)⟩
  ·have hd : decide ((k : Int) < 4) = false := decide_eq_false (by omega)
   have D1' : Drew w0 w wr g (n + 1) := D1.less (by omega)
   have hwr : w.heap.size < wr.heap.size := K2.lt
   go_wp2_with fail
   refine (of_lit g n 20 4 w0 wr wr _ _ D1'.at (by rfl) (by rfl) (by omega) (by omega)).mono ?_
   rintro e w2 ⟨x, rfl, hx, D12⟩
   have K22 := K2.drewn D12 (by omega)
   have D2 := D1'.trans D12
   clear D12 K2 D1 D1'
   go_wp2_with fail
   refine (specUrlGet_walk x w2 (by omega)).mono ?_
   rintro e w3 ⟨pv, rfl, hq, hb3⟩
   have sm := sm_url x
   generalize (urlG x).2 = ok at *
   generalize (urlG x).1 = u at hq sm ⊢
   obtain ⟨A, c, rfl, _⟩ := q_slice hq
   obtain ⟨K4, hba⟩ := near_fold w3 (uCells u (.slice A u.path.length c))
   have hge : w.heap.size < w2.heap.size := K22.lt
   have hgr : g + 1 ≤ w2.heap.size := D2.rd.lt
   have K23 := (K22.below hb3).below hba
   have HQ := Lib.hid (q_below hq hba)
   have D3 := Lib.hid ((D2.below hb3).below hba)
   clear hq hb3 hba K22 D2
   unfold uCells at K4 K23 HQ D3 ⊢
   go_upto_region 8 with fail
   generalize w3.alloc _ = w4 at K4 K23 HQ D3 ⊢
   generalize w3.heap.size = g4 at K4 ⊢
   have kc4 := K4.cells
   have kc2 := K23.cells
   go_wp2
   refine bodyPost_ret (results_cell_row rfl _ _ w.heap.size 27 _ (0, 0) _ rfl (Blk.put13 K23) Tryz.underlying27 rfl (by kernel_rfl)) rfl ⟨u, _, rfl, sm, q_mono (q_grown HQ.out (grown13 (g := w.heap.size) (grown_b (Below.refl _ _))) hge) hgr, Drew.put13 D3.out (by omega) (Nat.le_refl _) hs0⟩
end Go.Proofs.YtopcpbokfngpeaaGreatDoor.H
/- spec.l11AnyUrl, spec.DrawUrlPut and its like: what is drawn is an address whose texts are not too long. Conditions: each theorem's own. -/
set_option linter.unusedVariables false
namespace Go.Proofs.YtopcpbokfngpeaaGreatDoor.H
open Go.RowKit Go.Proofs.YtopcpbokfngpeaaGreatDoorW.PrintWords Go.Proofs.YtopcpbokfngpeaaGreatDoor.Base Go.Proofs.YtopcpbokfngpeaaGreatDoor.Pure
theorem own_q {w : World} {base n : Nat} {v : Value} {ps : List Bs} (h : w.ownsRow base 9 1 v n (strV ps)) : QRow w base 9 1 v n (strV ps) := q_of_own h
theorem own_set {w : World} {base : Nat} {e : TypeId} {size n : Nat} {v : Value} {xs : List Value} {g3 : Nat} (h : w.ownsRow base e size v n xs) (hno : ∀ k, v.ownBlock = some k → k ≠ g3) (i : Nat) (u : Value) : (w.setCell ⟨g3, i, none⟩ u).ownsRow base e size v n xs := own_move h fun k hk => Below.heap_setCell w ⟨g3, i, none⟩ u k (hno k hk)
theorem fit_sch {u : Ur} (h : Sm u) {x : Bs} (hx : x.length ≤ 1000) : FitP { u with sch := x } := by
 have f := h.fit
 exact ⟨⟨by show x.length ≤ _; omega, f.fit.us, f.fit.ps, f.fit.hn, f.fit.o, f.fit.q, f.fit.f, f.fit.p, f.fit.pl, f.fit.port⟩, f.pp⟩
theorem fit_usr {u : Ur} (h : Sm u) {x : Bs} (hx : x.length ≤ 1000) : FitP { u with usr := x } := by
 have f := h.fit
 exact ⟨⟨f.fit.s, by show x.length ≤ _; omega, f.fit.ps, f.fit.hn, f.fit.o, f.fit.q, f.fit.f, f.fit.p, f.fit.pl, f.fit.port⟩, f.pp⟩
theorem fit_opq {u : Ur} (h : Sm u) {x : Bs} (hx : x.length ≤ 1000) : FitP { u with opq := x } := by
 have f := h.fit
 exact ⟨⟨f.fit.s, f.fit.us, f.fit.ps, f.fit.hn, by show x.length ≤ _; omega, f.fit.q, f.fit.f, f.fit.p, f.fit.pl, f.fit.port⟩, f.pp⟩
theorem fit_qry {u : Ur} (h : Sm u) {x : Bs} (hx : x.length ≤ 1000) : FitP { u with qry := x } := by
 have f := h.fit
 exact ⟨⟨f.fit.s, f.fit.us, f.fit.ps, f.fit.hn, f.fit.o, by show x.length ≤ _; omega, f.fit.f, f.fit.p, f.fit.pl, f.fit.port⟩, f.pp⟩
theorem fit_port {u : Ur} (h : Sm u) {x : Int} (hx : -1000000 ≤ x ∧ x ≤ 1000000) : FitP { u with port := x } := by
 have f := h.fit
 exact ⟨⟨f.fit.s, f.fit.us, f.fit.ps, f.fit.hn, f.fit.o, f.fit.q, f.fit.f, f.fit.p, f.fit.pl, by show _ ≤ x ∧ x ≤ _; omega⟩, f.pp⟩
theorem fit_host {u : Ur} (h : Sm u) {k a : Int} {x : Bs} (hx : x.length ≤ 1000) : FitP { u with hk := k, hn := x, ha := a } := by
 have f := h.fit
 exact ⟨⟨f.fit.s, f.fit.us, f.fit.ps, by show x.length ≤ _; omega, f.fit.o, f.fit.q, f.fit.f, f.fit.p, f.fit.pl, f.fit.port⟩, f.pp⟩
theorem fit_hf {u : Ur} (h : Sm u) (b : Bool) : FitP { u with hf := b } := by
 have f := h.fit
 exact ⟨⟨f.fit.s, f.fit.us, f.fit.ps, f.fit.hn, f.fit.o, f.fit.q, f.fit.f, f.fit.p, f.fit.pl, f.fit.port⟩, f.pp⟩
theorem path_snoc_len (ps : List Bs) (x : Bs) : (pathPut (ps ++ [x])).length = (pathPut ps).length + x.length + 1 := by
 unfold pathPut
 simp; omega
theorem fit_path {u : Ur} (h : Sm u) {x : Bs} (hx : x.length ≤ 1000) : FitP { u with path := u.path ++ [x] } := by
 have f := h.fit
 have h1 := h.pp
 have h2 := h.pl
 have h3 := path_snoc_len u.path x
 exact ⟨⟨f.fit.s, f.fit.us, f.fit.ps, f.fit.hn, f.fit.o, f.fit.q, f.fit.f, by show (pathPut (u.path ++ [x])).length ≤ _; omega, by show (u.path ++ [x]).length ≤ _; simp; omega, f.fit.port⟩, by show (pathPut (u.path ++ [x])).length ≤ _; omega⟩
set_option maxHeartbeats 8000000 in
set_option maxRecDepth 100000 in
theorem anyUrl_draw (g n : Nat) (w0 w : World) (h : Drew w0 w w g (n + 130)) :
  Calls Tryz.prog 59 #[.pointer (some ⟨g, 0, none⟩)] w (UrlDrew FitP w0 w g n) := by
 obtain ⟨i0, hi, hz0, hz1, hz2⟩ := info_parts infoStr
 have hlt := h.rd.lt
 have hs0 := h.b.size
 have K2 : Blk (w.alloc (.cells zz 27)) w.heap.size zz := zz_new w
 have D1 := h.alloc (.cells zz 27)
 unfold zz at K2 D1
 go_enter Tryz.func59, Tryz.ntmps59
 go_upto_region 1 with fail
 generalize w.alloc _ = w1 at K2 D1 ⊢
 have hg2 : w.heap.size < w1.heap.size := K2.lt
 go_wp2_with fail
 refine (url_draw g (n + 9) w0 w1 (D1.at.less (by omega))).mono ?_
 rintro e w2 ⟨u, pv, rfl, sm, hq, D12⟩
 have K22 := K2.drewn D12 (by omega)
 have D2 := D1.trans D12
 have hsz2 := D12.k.1
 clear D12 K2 D1
 go_wp2_with fail
 refine (l3Copy_walk u pv w2 (pathAt_q hq) (by have := sm.pl; omega)).mono ?_
 rintro e w3 ⟨v, rfl, hown, hb3⟩
 obtain ⟨A, c, rfl, hAc⟩ := own_form hown
 obtain ⟨K3, hba⟩ := near_fold w3 (uCells u (.slice A u.path.length c))
 have K23 := (K22.below hb3).below hba
 have D3 := (D2.below hb3).below hba
 have HOW := own_below hown hba
 have hsz3 := hb3.size
 clear hq hb3 K22 D2 hown
 unfold uCells at K3 K23 D3 HOW ⊢
 go_upto_region 2 with fail
 have hsz4 := hba.size
 clear hba
 generalize w3.alloc _ = w4 at K3 K23 D3 HOW hsz4 ⊢
 have hg34 : w3.heap.size < w4.heap.size := K3.lt
 have hno : ∀ k, (Value.slice A u.path.length c).ownBlock = some k → k ≠ w3.heap.size := fun k hk => by
  obtain ⟨cur, hcur⟩ := own_typed HOW k hk
  rintro rfl
  have := K3
  unfold Blk at this
  rw [hcur] at this
  injection this with q; injection q with _ q _
  exact absurd q (by decide)
 generalize hg3 : w3.heap.size = g3 at K3 hg34 hno ⊢
 have hne2 : w.heap.size ≠ g3 := by omega
 have hneg : g3 ≠ g := by omega
 have hw3 : w.heap.size ≤ g3 := by omega
 have hw2 : w.heap.size < w2.heap.size := by omega
 have hg1 : g + 1 ≤ w2.heap.size := by omega
 go_wp2_with fail
 refine (pick_draw g (n + 8) 20 w0 w4 w4 (D3.at.less (by omega)) (by omega) (by omega)).mono ?_
 rintro e w5 ⟨r, rfl, hr, D45⟩
 have K35 := K3.drewn D45 hneg
 have K25 := K23.drewn D45 (by omega)
 have HO5 := own_drewn HOW D45 (by omega)
 have D5 := D3.trans D45
 have hsz5 := D45.k.1
 clear D45 D3 K3 K23 HOW
 by_cases c0 : r = 0
 ·have d0 : ((r : Int) == 0) = true := by rw [beq_iff_eq]; omega
  go_wp2_with fail
  refine (of_lit g (n + 7) 5 5 w0 w5 w5 _ _ D5.at (by rfl) (by rfl) (by omega) (by omega)).mono ?_
  rintro e w6 ⟨x, rfl, hx, D56⟩
  have K36 := K35.drewn D56 hneg
  have K26 := K25.drewn D56 (by omega)
  have HO6 := own_drewn HO5 D56 (by omega)
  have D6 := D5.trans D56
  clear D5 D56 K35 K25 HO5
  have kc3 := K36.cells
  go_upto_region 19 with fail
  have K37 := (Blk.put K36 0 (.string (B x)))
  have K27 := (Blk.far (p := ⟨g3, 0, none⟩) K26 hne2 (.string (B x)))
  have HO7 := (own_set HO6 hno 0 (.string (B x)))
  have D7 := (Drew.put D6 (b := g3) 0 (.string (B x)) hneg hw3 hs0)
  generalize (w6.setCell ⟨g3, 0, none⟩ (.string (B x))) = w7 at K37 K27 HO7 D7 ⊢
  clear kc3 K36 K26 HO6 D6
  have K37 : Blk _ g3 #[.string (B x), .string (B u.usr), .string (B u.pas), .int .i64 u.hk, .string (B u.hn), .int .i64 u.ha, .int .i64 u.port, (.slice A u.path.length c), .string (B u.opq), .bool u.hq, .string (B u.qry), .bool u.hf, .string (B u.frg)] := K37
  have kc3 := K37.cells
  have kc2 := K27.cells
  have HD := Lib.hid D7
  have HO := Lib.hid HO7
  clear D7 HO7
  go_wp2
  exact bodyPost_ret (results_cell_row rfl _ _ w.heap.size 27 _ (0, 0) _ rfl (Blk.put13 K27) Tryz.underlying27 rfl (by kernel_rfl)) rfl ⟨{ u with sch := x }, _, rfl, fit_sch sm (x := x) (by omega), q_mono (q_grown (own_q HO.out) (grown13 (g := w.heap.size) (grown_b (Below.refl _ _))) hw2) hg1, (Drew.put13 HD.out (by omega) (Nat.le_refl _) hs0).less (by omega)⟩
 have d0 : ((r : Int) == 0) = false := by rw [beq_eq_false_iff_ne]; omega
 by_cases c1 : r = 1
 ·have d1 : ((r : Int) == 1) = true := by rw [beq_iff_eq]; omega
  go_wp2_with fail
  refine (one_lit g (n + 7) 7 (-2) 65536 w0 w5 w5 _ _ D5.at (by rfl) (by rfl) (by omega) (by omega)).mono ?_
  rintro e w6 ⟨x, rfl, hx, D56⟩
  have K36 := K35.drewn D56 hneg
  have K26 := K25.drewn D56 (by omega)
  have HO6 := own_drewn HO5 D56 (by omega)
  have D6 := D5.trans D56
  clear D5 D56 K35 K25 HO5
  have kc3 := K36.cells
  go_upto_region 19 with fail
  have K37 := (Blk.put K36 6 (.int .i64 x))
  have K27 := (Blk.far (p := ⟨g3, 6, none⟩) K26 hne2 (.int .i64 x))
  have HO7 := (own_set HO6 hno 6 (.int .i64 x))
  have D7 := (Drew.put D6 (b := g3) 6 (.int .i64 x) hneg hw3 hs0)
  generalize (w6.setCell ⟨g3, 6, none⟩ (.int .i64 x)) = w7 at K37 K27 HO7 D7 ⊢
  clear kc3 K36 K26 HO6 D6
  have K37 : Blk _ g3 #[.string (B u.sch), .string (B u.usr), .string (B u.pas), .int .i64 u.hk, .string (B u.hn), .int .i64 u.ha, .int .i64 x, (.slice A u.path.length c), .string (B u.opq), .bool u.hq, .string (B u.qry), .bool u.hf, .string (B u.frg)] := K37
  have kc3 := K37.cells
  have kc2 := K27.cells
  have HD := Lib.hid D7
  have HO := Lib.hid HO7
  clear D7 HO7
  go_wp2
  exact bodyPost_ret (results_cell_row rfl _ _ w.heap.size 27 _ (0, 0) _ rfl (Blk.put13 K27) Tryz.underlying27 rfl (by kernel_rfl)) rfl ⟨{ u with port := x }, _, rfl, fit_port sm (x := x) (by omega), q_mono (q_grown (own_q HO.out) (grown13 (g := w.heap.size) (grown_b (Below.refl _ _))) hw2) hg1, (Drew.put13 HD.out (by omega) (Nat.le_refl _) hs0).less (by omega)⟩
 have d1 : ((r : Int) == 1) = false := by rw [beq_eq_false_iff_ne]; omega
 by_cases c2 : r = 2
 ·have d2 : ((r : Int) == 2) = true := by rw [beq_iff_eq]; omega
  have hpl := sm.pl
  go_upto_region 8 with fail
  have KA : Blk w5.drew g3 _ := K35.below (below_drew (Below.refl _ _))
  have KB := KA.below (below_alloc (Below.refl _ w5.drew) (.cells #[.string ⟨#[]⟩, .string ⟨#[46, 46]⟩, .string ⟨#[97]⟩, .string ⟨#[97, 47, 98]⟩, .string ⟨#[97, 32, 98]⟩, .string ⟨#[63]⟩] 9))
  have DA : Drew w1 w1 w1 g 0 ∨ True := .inr trivial
  have D5d : Drew w0 w w5.drew g (n + 8) := D5.below (below_drew (Below.refl _ _))
  have K2d : Blk w5.drew w.heap.size _ := K25.below (below_drew (Below.refl _ _))
  have HOd := own_below HO5 (below_drew (Below.refl _ _))
  clear DA
  have ka := KA.cells.1
  have kb := KB.cells.1
  have kb2 := (Blk.cells (Blk.below (Blk.below K35 (below_alloc (Below.refl _ w5) (.cells #[.string ⟨#[]⟩, .string ⟨#[46, 46]⟩, .string ⟨#[97]⟩, .string ⟨#[97, 47, 98]⟩, .string ⟨#[97, 32, 98]⟩, .string ⟨#[63]⟩] 9))) (below_drew (Below.refl _ _)))).1
  have hnews : ∀ (W : World) (x : Bs) (j : Nat) (u : Value), ([.string (B x)] : List Value)[j]? = some u → (W.alloc (.cells #[.string (B x)] 9)).cell? ((⟨W.heap.size, 0, none⟩ : Addr).add j) = some u := fun W x => cell_one_new W _ _
  have hone : ∀ (x : Bs), ∀ u ∈ ([.string (B x)] : List Value), u.oneCell' = true := fun x u hu => by simp at hu; subst hu; rfl
  have hml : u.path.length + 1 ≤ maxLen := by unfold maxLen; omega
  go_region_law (first | ((go_simp; go_wp2_with (go_at_call 49; refine (of_lit g (n + 7) 3 6 w0 w5.drew w5.drew _ _ ?sa ?sb ?sc ?sd ?se).mono ?_; (case sa => exact D5d.at); (case sb => rfl); (case sc => rfl); (case sd => omega); (case se => omega); rintro e w6 ⟨x, rfl, hx, D56⟩; have K36 := KA.drewn D56 hneg; have K26 := K2d.drewn D56 (by omega); have HO6 := own_drewn HOd D56 (by omega); have D6 := D5d.trans D56; have hs6 : w5.heap.size ≤ w6.heap.size := D56.k.1; have kc := K36.cells.1; have ke := (K36.below (below_alloc (Below.refl _ w6) (.cells #[.string (B x)] 9))).cells.1); fail_if_success (case' h_1 => skip))) | ((refine step_append_lies _ (by rfl) _ _ _ (by rfl) w2.heap.size 9 i0 (.string ⟨#[]⟩) 1 16 Tryz.underlying25 hi hz0 hz1 hz2 (by rfl) (by decide) _ _ _ (by rfl) (HO6.alloc _) ⟨w6.heap.size, 0, none⟩ 1 1 [.string (B x)] (by rfl) (by rfl) (hnews w6 x) (hone x) (by omega) hml (by omega) (by simp; omega) _ rfl ?_; intro g7 cap7 w7 hown7 hgrow7 hat7 hlt7; have K37 : Blk w7 g3 _ := blk_grown (K36.below (below_alloc (Below.refl _ w6) (.cells #[.string (B x)] 9))) hgrow7 (fun q => (hno _ q.symm) rfl); have kh := K37.cells)))
  all_goals
   have K27 : Blk w7 w.heap.size _ := blk_grown (K26.below (below_alloc (Below.refl _ w6) (.cells #[.string (B x)] 9))) hgrow7 (fun q => by have := (own_lt HO6 _ q.symm).1; omega)
   have hno7 : ∀ k, (Value.slice (some ⟨g7, 0, none⟩) (u.path.length + 1) cap7).ownBlock = some k → k ≠ g3 := fun k hk => by
    obtain rfl : g7 = k := Option.some.inj hk
    rcases hat7 with q | q
    ·exact hno _ q
    ·have q2 : g7 = w6.heap.size + 1 := by rw [q]; simp
     omega
   have hown8 : w7.ownsRow w2.heap.size 9 1 (.slice (some ⟨g7, 0, none⟩) (u.path.length + 1) cap7) (u.path ++ [x]).length (strV (u.path ++ [x])) := by rw [show (u.path ++ [x]).length = u.path.length + 1 by simp, strV_snoc]; exact hown7
   have D7 := (D6.alloc (.cells #[.string (B x)] 9)).grown hgrow7 (fun b hb => by have := (own_lt HO6 b hb).1; exact ⟨by omega, by omega⟩) hs0
   go_upto_region 19 with fail
   have K38 := Blk.put K37 7 (.slice (some ⟨g7, 0, none⟩) (u.path.length + 1) cap7)
   have K28 := Blk.far (p := ⟨g3, 7, none⟩) K27 hne2 (.slice (some ⟨g7, 0, none⟩) (u.path.length + 1) cap7)
   have HO8 := own_set hown8 hno7 7 (.slice (some ⟨g7, 0, none⟩) (u.path.length + 1) cap7)
   have D8 := Drew.put D7 (b := g3) 7 (.slice (some ⟨g7, 0, none⟩) (u.path.length + 1) cap7) hneg hw3 hs0
   generalize w7.setCell _ _ = w8 at K38 K28 HO8 D8 ⊢
   have K38 : Blk _ g3 #[.string (B u.sch), .string (B u.usr), .string (B u.pas), .int .i64 u.hk, .string (B u.hn), .int .i64 u.ha, .int .i64 u.port, (.slice (some ⟨g7, 0, none⟩) (u.path.length + 1) cap7), .string (B u.opq), .bool u.hq, .string (B u.qry), .bool u.hf, .string (B u.frg)] := K38
   have K28 : Blk _ w.heap.size #[.string ⟨#[]⟩, .string ⟨#[]⟩, .string ⟨#[]⟩, .int .i64 0, .string ⟨#[]⟩, .int .i64 0, .int .i64 0, .slice none 0 0, .string ⟨#[]⟩, .bool false, .string ⟨#[]⟩, .bool false, .string ⟨#[]⟩] := K28
   clear ka kb kb2 kc ke kh K37 K27 K36 K26 KA KB HOd HO6 K2d hown8 hown7 hgrow7 hat7 D7 D6 D5d D56 hnews hone
   have kc3 := K38.cells
   have kc2 := K28.cells
   have HD := Lib.hid D8
   have HO := Lib.hid HO8
   clear D8 HO8
   go_wp2
   exact bodyPost_ret (results_cell_row rfl _ _ w.heap.size 27 _ (0, 0) _ rfl (Blk.put13 K28) Tryz.underlying27 rfl (by kernel_rfl)) rfl ⟨{ u with path := u.path ++ [x] }, _, rfl, fit_path sm (x := x) (by omega), q_mono (q_grown (own_q HO.out) (grown13 (g := w.heap.size) (grown_b (Below.refl _ _))) hw2) hg1, (Drew.put13 HD.out (by omega) (Nat.le_refl _) hs0).less (by omega)⟩
 have d2 : ((r : Int) == 2) = false := by rw [beq_eq_false_iff_ne]; omega
 by_cases c3 : r = 3
 ·have d3 : ((r : Int) == 3) = true := by rw [beq_iff_eq]; omega
  go_wp2_with fail
  refine (of_lit g (n + 7) 3 4 w0 w5 w5 _ _ D5.at (by rfl) (by rfl) (by omega) (by omega)).mono ?_
  rintro e w6 ⟨x, rfl, hx, D56⟩
  have K36 := K35.drewn D56 hneg
  have K26 := K25.drewn D56 (by omega)
  have HO6 := own_drewn HO5 D56 (by omega)
  have D6 := D5.trans D56
  clear D5 D56 K35 K25 HO5
  have kc3 := K36.cells
  go_upto_region 19 with fail
  have K37 := (Blk.put K36 10 (.string (B x)))
  have K27 := (Blk.far (p := ⟨g3, 10, none⟩) K26 hne2 (.string (B x)))
  have HO7 := (own_set HO6 hno 10 (.string (B x)))
  have D7 := (Drew.put D6 (b := g3) 10 (.string (B x)) hneg hw3 hs0)
  generalize (w6.setCell ⟨g3, 10, none⟩ (.string (B x))) = w7 at K37 K27 HO7 D7 ⊢
  clear kc3 K36 K26 HO6 D6
  have K37 : Blk _ g3 #[.string (B u.sch), .string (B u.usr), .string (B u.pas), .int .i64 u.hk, .string (B u.hn), .int .i64 u.ha, .int .i64 u.port, (.slice A u.path.length c), .string (B u.opq), .bool u.hq, .string (B x), .bool u.hf, .string (B u.frg)] := K37
  have kc3 := K37.cells
  have kc2 := K27.cells
  have HD := Lib.hid D7
  have HO := Lib.hid HO7
  clear D7 HO7
  go_wp2
  exact bodyPost_ret (results_cell_row rfl _ _ w.heap.size 27 _ (0, 0) _ rfl (Blk.put13 K27) Tryz.underlying27 rfl (by kernel_rfl)) rfl ⟨{ u with qry := x }, _, rfl, fit_qry sm (x := x) (by omega), q_mono (q_grown (own_q HO.out) (grown13 (g := w.heap.size) (grown_b (Below.refl _ _))) hw2) hg1, (Drew.put13 HD.out (by omega) (Nat.le_refl _) hs0).less (by omega)⟩
 have d3 : ((r : Int) == 3) = false := by rw [beq_eq_false_iff_ne]; omega
 by_cases c4 : r = 4
 ·have d4 : ((r : Int) == 4) = true := by rw [beq_iff_eq]; omega
  go_wp2_with fail
  refine (host_draw g (n + 5) w0 w5 (D5.at.less (by omega))).mono ?_
  rintro e w6 ⟨hk, hn, ha, rfl, hx, D56⟩
  have K36 := K35.drewn D56 hneg
  have K26 := K25.drewn D56 (by omega)
  have HO6 := own_drewn HO5 D56 (by omega)
  have D6 := D5.trans D56
  clear D5 D56 K35 K25 HO5
  have kc3 := K36.cells
  go_upto_region 19 with fail
  have K37 := (Blk.put (Blk.put (Blk.put K36 3 (.int .i64 hk)) 4 (.string (B hn))) 5 (.int .i64 ha))
  have K27 := (Blk.far (p := ⟨g3, 5, none⟩) (Blk.far (p := ⟨g3, 4, none⟩) (Blk.far (p := ⟨g3, 3, none⟩) K26 hne2 (.int .i64 hk)) hne2 (.string (B hn))) hne2 (.int .i64 ha))
  have HO7 := (own_set (own_set (own_set HO6 hno 3 (.int .i64 hk)) hno 4 (.string (B hn))) hno 5 (.int .i64 ha))
  have D7 := (Drew.put (Drew.put (Drew.put D6 (b := g3) 3 (.int .i64 hk) hneg hw3 hs0) (b := g3) 4 (.string (B hn)) hneg hw3 hs0) (b := g3) 5 (.int .i64 ha) hneg hw3 hs0)
  generalize (((w6.setCell ⟨g3, 3, none⟩ (.int .i64 hk)).setCell ⟨g3, 4, none⟩ (.string (B hn))).setCell ⟨g3, 5, none⟩ (.int .i64 ha)) = w7 at K37 K27 HO7 D7 ⊢
  clear kc3 K36 K26 HO6 D6
  have K37 : Blk _ g3 #[.string (B u.sch), .string (B u.usr), .string (B u.pas), .int .i64 hk, .string (B hn), .int .i64 ha, .int .i64 u.port, (.slice A u.path.length c), .string (B u.opq), .bool u.hq, .string (B u.qry), .bool u.hf, .string (B u.frg)] := K37
  have kc3 := K37.cells
  have kc2 := K27.cells
  have HD := Lib.hid D7
  have HO := Lib.hid HO7
  clear D7 HO7
  go_wp2
  exact bodyPost_ret (results_cell_row rfl _ _ w.heap.size 27 _ (0, 0) _ rfl (Blk.put13 K27) Tryz.underlying27 rfl (by kernel_rfl)) rfl ⟨{ u with hk := hk, hn := hn, ha := ha }, _, rfl, fit_host sm hx, q_mono (q_grown (own_q HO.out) (grown13 (g := w.heap.size) (grown_b (Below.refl _ _))) hw2) hg1, (Drew.put13 HD.out (by omega) (Nat.le_refl _) hs0).less (by omega)⟩
 have d4 : ((r : Int) == 4) = false := by rw [beq_eq_false_iff_ne]; omega
 by_cases c5 : r = 5
 ·have d5 : ((r : Int) == 5) = true := by rw [beq_iff_eq]; omega
  obtain ⟨w6, hw6⟩ : ∃ w6, w6 = w5 := ⟨_, rfl⟩
  subst hw6
  have K36 := K35; have K26 := K25; have HO6 := HO5; have D6 := D5
  clear D5 K35 K25 HO5
  have kc3 := K36.cells
  go_upto_region 19 with fail
  have K37 := (Blk.put K36 11 (.bool !u.hf))
  have K27 := (Blk.far (p := ⟨g3, 11, none⟩) K26 hne2 (.bool !u.hf))
  have HO7 := (own_set HO6 hno 11 (.bool !u.hf))
  have D7 := (Drew.put D6 (b := g3) 11 (.bool !u.hf) hneg hw3 hs0)
  generalize (w6.setCell ⟨g3, 11, none⟩ (.bool !u.hf)) = w7 at K37 K27 HO7 D7 ⊢
  clear kc3 K36 K26 HO6 D6
  have K37 : Blk _ g3 #[.string (B u.sch), .string (B u.usr), .string (B u.pas), .int .i64 u.hk, .string (B u.hn), .int .i64 u.ha, .int .i64 u.port, (.slice A u.path.length c), .string (B u.opq), .bool u.hq, .string (B u.qry), .bool !u.hf, .string (B u.frg)] := K37
  have kc3 := K37.cells
  have kc2 := K27.cells
  have HD := Lib.hid D7
  have HO := Lib.hid HO7
  clear D7 HO7
  go_wp2
  exact bodyPost_ret (results_cell_row rfl _ _ w.heap.size 27 _ (0, 0) _ rfl (Blk.put13 K27) Tryz.underlying27 rfl (by kernel_rfl)) rfl ⟨{ u with hf := !u.hf }, _, rfl, fit_hf sm _, q_mono (q_grown (own_q HO.out) (grown13 (g := w.heap.size) (grown_b (Below.refl _ _))) hw2) hg1, (Drew.put13 HD.out (by omega) (Nat.le_refl _) hs0).less (by omega)⟩
 have d5 : ((r : Int) == 5) = false := by rw [beq_eq_false_iff_ne]; omega
 by_cases c6 : r = 6
 ·have d6 : ((r : Int) == 6) = true := by rw [beq_iff_eq]; omega
  go_wp2_with fail
  refine (of_lit g (n + 7) 3 4 w0 w5 w5 _ _ D5.at (by rfl) (by rfl) (by omega) (by omega)).mono ?_
  rintro e w6 ⟨x, rfl, hx, D56⟩
  have K36 := K35.drewn D56 hneg
  have K26 := K25.drewn D56 (by omega)
  have HO6 := own_drewn HO5 D56 (by omega)
  have D6 := D5.trans D56
  clear D5 D56 K35 K25 HO5
  have kc3 := K36.cells
  go_upto_region 19 with fail
  have K37 := (Blk.put K36 1 (.string (B x)))
  have K27 := (Blk.far (p := ⟨g3, 1, none⟩) K26 hne2 (.string (B x)))
  have HO7 := (own_set HO6 hno 1 (.string (B x)))
  have D7 := (Drew.put D6 (b := g3) 1 (.string (B x)) hneg hw3 hs0)
  generalize (w6.setCell ⟨g3, 1, none⟩ (.string (B x))) = w7 at K37 K27 HO7 D7 ⊢
  clear kc3 K36 K26 HO6 D6
  have K37 : Blk _ g3 #[.string (B u.sch), .string (B x), .string (B u.pas), .int .i64 u.hk, .string (B u.hn), .int .i64 u.ha, .int .i64 u.port, (.slice A u.path.length c), .string (B u.opq), .bool u.hq, .string (B u.qry), .bool u.hf, .string (B u.frg)] := K37
  have kc3 := K37.cells
  have kc2 := K27.cells
  have HD := Lib.hid D7
  have HO := Lib.hid HO7
  clear D7 HO7
  go_wp2
  exact bodyPost_ret (results_cell_row rfl _ _ w.heap.size 27 _ (0, 0) _ rfl (Blk.put13 K27) Tryz.underlying27 rfl (by kernel_rfl)) rfl ⟨{ u with usr := x }, _, rfl, fit_usr sm (x := x) (by omega), q_mono (q_grown (own_q HO.out) (grown13 (g := w.heap.size) (grown_b (Below.refl _ _))) hw2) hg1, (Drew.put13 HD.out (by omega) (Nat.le_refl _) hs0).less (by omega)⟩
 have d6 : ((r : Int) == 6) = false := by rw [beq_eq_false_iff_ne]; omega
 by_cases c7 : r = 7
 ·have d7 : ((r : Int) == 7) = true := by rw [beq_iff_eq]; omega
  go_wp2_with fail
  refine (of_lit g (n + 7) 3 4 w0 w5 w5 _ _ D5.at (by rfl) (by rfl) (by omega) (by omega)).mono ?_
  rintro e w6 ⟨x, rfl, hx, D56⟩
  have K36 := K35.drewn D56 hneg
  have K26 := K25.drewn D56 (by omega)
  have HO6 := own_drewn HO5 D56 (by omega)
  have D6 := D5.trans D56
  clear D5 D56 K35 K25 HO5
  have kc3 := K36.cells
  go_upto_region 19 with fail
  have K37 := (Blk.put K36 8 (.string (B x)))
  have K27 := (Blk.far (p := ⟨g3, 8, none⟩) K26 hne2 (.string (B x)))
  have HO7 := (own_set HO6 hno 8 (.string (B x)))
  have D7 := (Drew.put D6 (b := g3) 8 (.string (B x)) hneg hw3 hs0)
  generalize (w6.setCell ⟨g3, 8, none⟩ (.string (B x))) = w7 at K37 K27 HO7 D7 ⊢
  clear kc3 K36 K26 HO6 D6
  have K37 : Blk _ g3 #[.string (B u.sch), .string (B u.usr), .string (B u.pas), .int .i64 u.hk, .string (B u.hn), .int .i64 u.ha, .int .i64 u.port, (.slice A u.path.length c), .string (B x), .bool u.hq, .string (B u.qry), .bool u.hf, .string (B u.frg)] := K37
  have kc3 := K37.cells
  have kc2 := K27.cells
  have HD := Lib.hid D7
  have HO := Lib.hid HO7
  clear D7 HO7
  go_wp2
  exact bodyPost_ret (results_cell_row rfl _ _ w.heap.size 27 _ (0, 0) _ rfl (Blk.put13 K27) Tryz.underlying27 rfl (by kernel_rfl)) rfl ⟨{ u with opq := x }, _, rfl, fit_opq sm (x := x) (by omega), q_mono (q_grown (own_q HO.out) (grown13 (g := w.heap.size) (grown_b (Below.refl _ _))) hw2) hg1, (Drew.put13 HD.out (by omega) (Nat.le_refl _) hs0).less (by omega)⟩
 have d7 : ((r : Int) == 7) = false := by rw [beq_eq_false_iff_ne]; omega
 obtain ⟨w6, hw6⟩ : ∃ w6, w6 = w5 := ⟨_, rfl⟩
 subst hw6
 have K36 := K35; have K26 := K25; have HO6 := HO5; have D6 := D5
 clear D5 K35 K25 HO5
 go_upto_region 19 with fail
 have K37 := K36; have K27 := K26; have HO7 := HO6; have D7 := D6
 clear K36 K26 HO6 D6
 have K37 : Blk _ g3 #[.string (B u.sch), .string (B u.usr), .string (B u.pas), .int .i64 u.hk, .string (B u.hn), .int .i64 u.ha, .int .i64 u.port, (.slice A u.path.length c), .string (B u.opq), .bool u.hq, .string (B u.qry), .bool u.hf, .string (B u.frg)] := K37
 have kc3 := K37.cells
 have kc2 := K27.cells
 have HD := Lib.hid D7
 have HO := Lib.hid HO7
 clear D7 HO7
 go_wp2
 exact bodyPost_ret (results_cell_row rfl _ _ w.heap.size 27 _ (0, 0) _ rfl (Blk.put13 K27) Tryz.underlying27 rfl (by kernel_rfl)) rfl ⟨u, _, rfl, sm.fit, q_mono (q_grown (own_q HO.out) (grown13 (g := w.heap.size) (grown_b (Below.refl _ _))) hw2) hg1, (Drew.put13 HD.out (by omega) (Nat.le_refl _) hs0).less (by omega)⟩
end Go.Proofs.YtopcpbokfngpeaaGreatDoor.H
/- The draws as the laws call them: a code that reads as bytes gives a text, or an address whose texts are not too long. Conditions: each theorem's own. -/
set_option linter.unusedVariables false
namespace Go.Proofs.YtopcpbokfngpeaaGreatDoor.H
open Go.RowKit Go.Proofs.YtopcpbokfngpeaaGreatDoorW.PrintWords Go.Proofs.YtopcpbokfngpeaaGreatDoor.Base Go.Proofs.YtopcpbokfngpeaaGreatDoor.Pure Go.Proofs.YtopcpbokfngpeaaGreatDoor.Lh Go.Proofs.YtopcpbokfngpeaaGreatDoor.Lp
def CodeRow (w : World) (a : Option Addr) (len cap : Nat) (zs : List Int) : Prop :=
 (a = none ∧ len = 0 ∧ cap = 0 ∧ zs = []) ∨ ∃ x, a = some x ∧ len ≤ cap ∧ cap ≤ maxLen ∧ zs.length = cap ∧ (∀ i, i < zs.length → w.cell? (x.add i) = some (.int .u8 (zs.getD i 0))) ∧ ∀ n ∈ zs, (Lit.int .u8 n).wf = true
theorem CodeRow.below {w w1 : World} {a : Option Addr} {len cap : Nat} {zs : List Int} (h : CodeRow w a len cap zs) (hb : Below w.heap.size w w1) : CodeRow w1 a len cap zs := by
 rcases h with h | ⟨x, h1, h2, h3, h4, h5, h6⟩
 ·exact .inl h
 ·exact .inr ⟨x, h1, h2, h3, h4, fun i hi => pw_cell_below hb (h5 i hi), h6⟩
theorem open_draw (a0 : Option Addr) (len0 cap0 : Nat) (z0 : List Int) (w : World) (w0 : CodeRow w a0 len0 cap0 z0) :
  Calls Tryz.prog 33 #[.slice a0 len0 cap0] w fun e w' => ∃ g, e = .returned (.pointer (some ⟨g, 0, none⟩)) ∧ w.heap.size ≤ g ∧ Drew w w' w' g 1000000 ∧ Below w.heap.size w w' := by
 obtain ⟨l0, rfl, hr0, hm0, hw0, hc0⟩ := ReadsInt.ofRowC w0
 obtain ⟨s, e, hok⟩ := l1Open_ok l0 hw0 1000000 (by omega)
 refine (spec_l1Open.calls a0 cap0 l0 s 0 w w (Below.refl _ _) (Kd.C_of_reads (d := (0 : Int)) (h1 := fun _ => rfl) hr0) hc0 e).mono ?_
 rintro e w' ⟨g, rfl, hI, hB, hB2⟩
 have hr : Rd w w' g 1000000 := ⟨s, 0, hI, hok⟩
 exact ⟨g, rfl, hr.ge, Drew.refl hr hB, hB⟩
theorem many_walk (s : Bs) (n : Int) (w : World) (hs : s.length ≤ 2) (h0 : 0 ≤ n) (h1 : n ≤ 200) : Calls Tryz.prog 101 #[.string (B s), .int .i64 n] w fun e w' => ∃ x : Bs, e = .returned (.string (B x)) ∧ x.length ≤ 5000 ∧ Below w.heap.size w w' := by
 obtain ⟨b, hb, ev⟩ := many_ev s n hs h0 h1
 obtain ⟨k, e⟩ := ev.rounds
 refine (spec_l1Many.calls k (B s) n (B b) w e).mono ?_
 rintro e w' ⟨rfl, hd⟩
 exact ⟨b, rfl, hb, hd.below⟩
end Go.Proofs.YtopcpbokfngpeaaGreatDoor.H
/- spec.l11Two, and the draws of two addresses: their texts are not too long. Conditions: each theorem's own. -/
set_option linter.unusedVariables false
namespace Go.Proofs.YtopcpbokfngpeaaGreatDoor.H
open Go.RowKit Go.Proofs.YtopcpbokfngpeaaGreatDoorW.PrintWords Go.Proofs.YtopcpbokfngpeaaGreatDoor.Base Go.Proofs.YtopcpbokfngpeaaGreatDoor.Pure
theorem q_typed {w w1 : World} {base : Nat} {e : TypeId} {size n : Nat} {v : Value} {xs : List Value} (h : QRow w base e size v n xs) (hk : ∀ (k : Nat) (cur : Array Value), w.heap[k]? = some (Obj.cells cur e) → w1.heap[k]? = w.heap[k]?) : QRow w1 base e size v n xs := by
 obtain ⟨h1, h2⟩ := h
 refine ⟨h1, ?_⟩
 rcases h2 with ⟨h0, A, hA, hc⟩ | ⟨g, off, cap, cur, hv, hg, hh, r⟩
 ·refine .inl ⟨h0, A, hA, fun a ha => ?_⟩
  obtain ⟨b1, cur, b2⟩ := hc a ha
  exact ⟨b1, cur, (hk _ cur b2).trans b2⟩
 ·exact .inr ⟨g, off, cap, cur, hv, hg, (hk _ cur hh).trans hh, r⟩
def putW (w : World) (g : Nat) (u : Ur) (pv : Value) : World := (((((((((((((w.setCell ⟨g, 0, none⟩ (.string (B u.sch))).setCell ⟨g, 1, none⟩ (.string (B u.usr))).setCell ⟨g, 2, none⟩ (.string (B u.pas))).setCell ⟨g, 3, none⟩ (.int .i64 u.hk)).setCell ⟨g, 4, none⟩ (.string (B u.hn))).setCell ⟨g, 5, none⟩ (.int .i64 u.ha)).setCell ⟨g, 6, none⟩ (.int .i64 u.port)).setCell ⟨g, 7, none⟩ (pv)).setCell ⟨g, 8, none⟩ (.string (B u.opq))).setCell ⟨g, 9, none⟩ (.bool u.hq)).setCell ⟨g, 10, none⟩ (.string (B u.qry))).setCell ⟨g, 11, none⟩ (.bool u.hf)).setCell ⟨g, 12, none⟩ (.string (B u.frg)))
theorem Drew.putW {w0 w w1 : World} {g n b : Nat} {u : Ur} {pv : Value} (h : Drew w0 w w1 g n) (hg : b ≠ g) (hb : w.heap.size ≤ b) (hs : w0.heap.size ≤ w.heap.size) : Drew w0 w (putW w1 b u pv) g n := Drew.put13 h hg hb hs
abbrev Held2 (w0 : World) (g h : Nat) (c0 c1 c2 c3 c4 c5 c6 c7 c8 c9 c10 c11 c12 d0 d1 d2 d3 d4 d5 d6 d7 d8 d9 d10 d11 d12 : Value) (w : World) : Prop := (C13 w g c0 c1 c2 c3 c4 c5 c6 c7 c8 c9 c10 c11 c12 ∧ C13 w h d0 d1 d2 d3 d4 d5 d6 d7 d8 d9 d10 d11 d12) ∧ Below w0.heap.size w0 w
theorem Held2.drew {w0 w : World} {g h : Nat} {c0 c1 c2 c3 c4 c5 c6 c7 c8 c9 c10 c11 c12 d0 d1 d2 d3 d4 d5 d6 d7 d8 d9 d10 d11 d12 : Value} (k : Held2 w0 g h c0 c1 c2 c3 c4 c5 c6 c7 c8 c9 c10 c11 c12 d0 d1 d2 d3 d4 d5 d6 d7 d8 d9 d10 d11 d12 w) : Held2 w0 g h c0 c1 c2 c3 c4 c5 c6 c7 c8 c9 c10 c11 c12 d0 d1 d2 d3 d4 d5 d6 d7 d8 d9 d10 d11 d12 w.drew := ⟨⟨(Held.drew ⟨k.1.1, k.2⟩).1, (Held.drew ⟨k.1.2, k.2⟩).1⟩, below_drew k.2⟩
theorem Held2.far13 {w0 w : World} {g h j : Nat} {c0 c1 c2 c3 c4 c5 c6 c7 c8 c9 c10 c11 c12 d0 d1 d2 d3 d4 d5 d6 d7 d8 d9 d10 d11 d12 v0 v1 v2 v3 v4 v5 v6 v7 v8 v9 v10 v11 v12 : Value} (k : Held2 w0 g h c0 c1 c2 c3 c4 c5 c6 c7 c8 c9 c10 c11 c12 d0 d1 d2 d3 d4 d5 d6 d7 d8 d9 d10 d11 d12 w) (h1 : j ≠ g) (h2 : j ≠ h) (hge : w0.heap.size ≤ j) : Held2 w0 g h c0 c1 c2 c3 c4 c5 c6 c7 c8 c9 c10 c11 c12 d0 d1 d2 d3 d4 d5 d6 d7 d8 d9 d10 d11 d12 (((((((((((((w.setCell ⟨j, 0, none⟩ v0).setCell ⟨j, 1, none⟩ v1).setCell ⟨j, 2, none⟩ v2).setCell ⟨j, 3, none⟩ v3).setCell ⟨j, 4, none⟩ v4).setCell ⟨j, 5, none⟩ v5).setCell ⟨j, 6, none⟩ v6).setCell ⟨j, 7, none⟩ v7).setCell ⟨j, 8, none⟩ v8).setCell ⟨j, 9, none⟩ v9).setCell ⟨j, 10, none⟩ v10).setCell ⟨j, 11, none⟩ v11).setCell ⟨j, 12, none⟩ v12) :=
 ⟨⟨(Held.far13 ⟨k.1.1, k.2⟩ h1 hge).1, (Held.far13 ⟨k.1.2, k.2⟩ h2 hge).1⟩, below13 k.2 hge⟩
def TwoDrew (w0 w : World) (g n : Nat) (e : Ending) (w' : World) : Prop := ∃ u v pv qv, e = .returned (.tuple #[.agg (uCells u pv), .agg (uCells v qv)]) ∧ FitP u ∧ FitP v ∧ QRow w' (g + 1) 9 1 pv u.path.length (strV u.path) ∧ QRow w' (g + 1) 9 1 qv v.path.length (strV v.path) ∧ Drew w0 w w' g n
end Go.Proofs.YtopcpbokfngpeaaGreatDoor.H
/- laws.toHost, laws.toStringS, laws.toUrl, laws.szHost, laws.szStringS, laws.szUrl: what the calls come to. No condition. -/
set_option linter.unusedVariables false
namespace Go.Proofs.YtopcpbokfngpeaaGreatDoor.H
open Go.RowKit Go.Proofs.YtopcpbokfngpeaaGreatDoorW.PrintWords Go.Proofs.YtopcpbokfngpeaaGreatDoor.Base Go.Proofs.YtopcpbokfngpeaaGreatDoor.Pure
def szU (u : Ur) : Nat := u.sch.length + u.usr.length + u.pas.length + u.hn.length + (u.path.length + (u.path.map List.length).sum) + u.opq.length + u.qry.length + u.frg.length
def sumT (ps : List Bs) : Nat := (ps.map List.length).sum
structure WfU (u : Ur) : Prop where
 a : u.sch.length ≤ 9223372036854775807
 b : u.usr.length ≤ 9223372036854775807
 c : u.pas.length ≤ 9223372036854775807
 d : u.hn.length ≤ 9223372036854775807
 e : u.opq.length ≤ 9223372036854775807
 f : u.qry.length ≤ 9223372036854775807
 g : u.frg.length ≤ 9223372036854775807
 p : u.path.length ≤ 9223372036854775807
 s : ∀ x ∈ u.path, x.length ≤ 9223372036854775807
 port : -9223372036854775808 ≤ u.port ∧ u.port ≤ 9223372036854775807
def szV (u : Ur) (n : Int) : Int := if (szU u : Int) ≤ n then n - (szU u : Int) else -1
end Go.Proofs.YtopcpbokfngpeaaGreatDoor.H
/- Entries of a history: words on rows of them, and on blocks that are written cell by cell. Conditions: each theorem's own. -/
set_option linter.unusedVariables false
namespace Go.Proofs.YtopcpbokfngpeaaGreatDoor.H
open Go.RowKit Go.Proofs.YtopcpbokfngpeaaGreatDoorW.PrintWords Go.Proofs.YtopcpbokfngpeaaGreatDoor.Base Go.Proofs.YtopcpbokfngpeaaGreatDoor.Pure
structure En where
  step : Int
  u : Ur
  doc : Int
  key : Int
  st : Bs
def eCells (e : En) (pv : Value) : Array Value := #[.int .i64 e.step, .string (B e.u.sch), .string (B e.u.usr), .string (B e.u.pas), .int .i64 e.u.hk, .string (B e.u.hn), .int .i64 e.u.ha, .int .i64 e.u.port, pv, .string (B e.u.opq), .bool e.u.hq, .string (B e.u.qry), .bool e.u.hf, .string (B e.u.frg), .int .i64 e.doc, .int .i64 e.key, .string (B e.st)]
def RowE (w : World) (v : Value) (es : List En) : Prop := ∃ A c, v = .slice A es.length c ∧ es.length ≤ c ∧ ∀ k (h : k < es.length), ∃ ad pv, A = some ad ∧ PathAt w pv (es[k]).u.path ∧ ∀ j x, (eCells es[k] pv)[j]? = some x → w.cell? (ad.add (k * 17 + j)) = some x
theorem RowE.below {w w1 : World} {v : Value} {es : List En} (h : RowE w v es) (hb : Below w.heap.size w w1) : RowE w1 v es := by
  obtain ⟨A, c, h1, h2, h3⟩ := h
  refine ⟨A, c, h1, h2, fun k hk => ?_⟩
  obtain ⟨ad, pv, a, b, d⟩ := h3 k hk
  exact ⟨ad, pv, a, b.below hb, fun j x q => cell_later hb (d j x q)⟩
def C17 (w : World) (a : Addr) (cs : Array Value) : Prop := w.cell? a = cs[0]? ∧ w.cell? ⟨a.block, a.off + 1, none⟩ = cs[1]? ∧ w.cell? ⟨a.block, a.off + 2, none⟩ = cs[2]? ∧ w.cell? ⟨a.block, a.off + 3, none⟩ = cs[3]? ∧ w.cell? ⟨a.block, a.off + 4, none⟩ = cs[4]? ∧ w.cell? ⟨a.block, a.off + 5, none⟩ = cs[5]? ∧ w.cell? ⟨a.block, a.off + 6, none⟩ = cs[6]? ∧ w.cell? ⟨a.block, a.off + 7, none⟩ = cs[7]? ∧ w.cell? ⟨a.block, a.off + 8, none⟩ = cs[8]? ∧ w.cell? ⟨a.block, a.off + 9, none⟩ = cs[9]? ∧ w.cell? ⟨a.block, a.off + 10, none⟩ = cs[10]? ∧ w.cell? ⟨a.block, a.off + 11, none⟩ = cs[11]? ∧ w.cell? ⟨a.block, a.off + 12, none⟩ = cs[12]? ∧ w.cell? ⟨a.block, a.off + 13, none⟩ = cs[13]? ∧ w.cell? ⟨a.block, a.off + 14, none⟩ = cs[14]? ∧ w.cell? ⟨a.block, a.off + 15, none⟩ = cs[15]? ∧ w.cell? ⟨a.block, a.off + 16, none⟩ = cs[16]?
theorem C17.mk {w : World} {ad : Addr} {k : Nat} {e : En} {pv : Value} (h : ∀ j x, (eCells e pv)[j]? = some x → w.cell? (ad.add (k * 17 + j)) = some x) : C17 w (ad.add (k * 17)) (eCells e pv) := by
  have f : ∀ j, 0 < j → j < 17 → w.cell? ⟨(ad.add (k * 17)).block, (ad.add (k * 17)).off + j, none⟩ = (eCells e pv)[j]? := fun j h0 h1 => by
    obtain ⟨x, hx⟩ : ∃ x, (eCells e pv)[j]? = some x := ⟨_, Array.getElem?_eq_getElem (show j < (eCells e pv).size from h1)⟩
    rw [← add_field _ _ j h0, hx]; exact h j x hx
  refine ⟨?_, f 1 (by omega) (by omega), f 2 (by omega) (by omega), f 3 (by omega) (by omega), f 4 (by omega) (by omega), f 5 (by omega) (by omega), f 6 (by omega) (by omega), f 7 (by omega) (by omega), f 8 (by omega) (by omega), f 9 (by omega) (by omega), f 10 (by omega) (by omega), f 11 (by omega) (by omega), f 12 (by omega) (by omega), f 13 (by omega) (by omega), f 14 (by omega) (by omega), f 15 (by omega) (by omega), f 16 (by omega) (by omega)⟩
  exact h 0 _ rfl
theorem RowE.at {w : World} {A : Option Addr} {n c : Nat} {es : List En} (h : RowE w (.slice A n c) es) (k : Nat) (hk : k < es.length) : ∃ ad pv, A = some ad ∧ PathAt w pv (es[k]).u.path ∧ C17 w (ad.add (k * 17)) (eCells es[k] pv) := by
  obtain ⟨A', c', e, _, h3⟩ := h
  obtain ⟨rfl, _, _⟩ : A = A' ∧ n = es.length ∧ c = c' := by injection e with a b c; exact ⟨a, b, c⟩
  obtain ⟨ad, pv, a, b, d⟩ := h3 k hk
  exact ⟨ad, pv, a, b, C17.mk d⟩
theorem RowE.cell {w : World} {A : Option Addr} {n c : Nat} {es : List En} (h : RowE w (.slice A n c) es) (k : Nat) (hk : k < es.length) : ∃ ad, A = some ad ∧ w.cell? (ad.add (k * 17)) = some (.int .i64 es[k].step) ∧ w.cell? ⟨(ad.add (k * 17)).block, (ad.add (k * 17)).off + 14, none⟩ = some (.int .i64 es[k].doc) ∧ w.cell? ⟨(ad.add (k * 17)).block, (ad.add (k * 17)).off + 15, none⟩ = some (.int .i64 es[k].key) := by
  obtain ⟨ad, pv, a, _, c⟩ := h.at k hk
  exact ⟨ad, a, c.1, c.2.2.2.2.2.2.2.2.2.2.2.2.2.2.1, c.2.2.2.2.2.2.2.2.2.2.2.2.2.2.2.1⟩
def putL (w : World) (g o : Nat) : List Value → World
  | [] => w
  | v :: t => putL (w.setCell ⟨g, o, none⟩ v) g (o + 1) t
def setL (cur : Array Value) (o : Nat) : List Value → Array Value
  | [] => cur
  | v :: t => setL (cur.setIfInBounds o v) (o + 1) t
theorem putL_heap {t : TypeId} {g : Nat} : ∀ (vs : List Value) (w : World) (o : Nat) (cur : Array Value), w.heap[g]? = some (.cells cur t (0, 0)) → (putL w g o vs).heap[g]? = some (.cells (setL cur o vs) t (0, 0))
  | [], _, _, _, h => h
  | v :: s, w, o, cur, h => putL_heap s _ _ _ (blk_set h o v)
theorem putL_grown {g : Nat} {w0 : World} : ∀ (vs : List Value) (w : World) (o : Nat), w0.grownBy w (some g) → w0.grownBy (putL w g o vs) (some g)
  | [], _, _, h => h
  | v :: s, w, o, h => putL_grown s _ _ (grown_put h o v)
theorem setL_old : ∀ (vs : List Value) (cur : Array Value) (o i : Nat), (i < o ∨ o + vs.length ≤ i) → (setL cur o vs)[i]? = cur[i]?
  | [], _, _, _, _ => rfl
  | v :: s, cur, o, i, h => by
    rw [setL, setL_old s _ _ _ (by simp at h; omega), Array.getElem?_setIfInBounds, if_neg (by simp at h; omega)]
theorem setL_new : ∀ (vs : List Value) (cur : Array Value) (o i : Nat), o + vs.length ≤ cur.size → i < vs.length → (setL cur o vs)[o + i]? = vs[i]?
  | [], _, _, _, _, h => absurd h (by simp)
  | v :: s, cur, o, i, h, hi => by
    rw [setL]
    cases i with
    | zero => rw [setL_old s _ _ _ (by omega), Array.getElem?_setIfInBounds, if_pos (by omega), if_pos (by simp at h; omega)]; rfl
    | succ i => rw [show o + (i + 1) = o + 1 + i by omega, setL_new s _ (o + 1) i (by simp at h ⊢; omega) (by simp at hi; omega)]; rfl
theorem cells17 {w : World} {g : Nat} {t : TypeId} {c0 c1 c2 c3 c4 c5 c6 c7 c8 c9 c10 c11 c12 c13 c14 c15 c16 : Value} (h : w.heap[g]? = some (.cells #[c0, c1, c2, c3, c4, c5, c6, c7, c8, c9, c10, c11, c12, c13, c14, c15, c16] t (0, 0))) :
    (w.cell? ⟨g, 0, none⟩ = some c0 ∧ w.cell? ⟨g, 1, none⟩ = some c1 ∧ w.cell? ⟨g, 2, none⟩ = some c2 ∧ w.cell? ⟨g, 3, none⟩ = some c3 ∧ w.cell? ⟨g, 4, none⟩ = some c4 ∧ w.cell? ⟨g, 5, none⟩ = some c5 ∧ w.cell? ⟨g, 6, none⟩ = some c6 ∧ w.cell? ⟨g, 7, none⟩ = some c7 ∧ w.cell? ⟨g, 8, none⟩ = some c8 ∧ w.cell? ⟨g, 9, none⟩ = some c9 ∧ w.cell? ⟨g, 10, none⟩ = some c10 ∧ w.cell? ⟨g, 11, none⟩ = some c11 ∧ w.cell? ⟨g, 12, none⟩ = some c12 ∧ w.cell? ⟨g, 13, none⟩ = some c13 ∧ w.cell? ⟨g, 14, none⟩ = some c14 ∧ w.cell? ⟨g, 15, none⟩ = some c15 ∧ w.cell? ⟨g, 16, none⟩ = some c16) ∧
    (w.frozen? ⟨g, 0, none⟩ = false ∧ w.frozen? ⟨g, 1, none⟩ = false ∧ w.frozen? ⟨g, 2, none⟩ = false ∧ w.frozen? ⟨g, 3, none⟩ = false ∧ w.frozen? ⟨g, 4, none⟩ = false ∧ w.frozen? ⟨g, 5, none⟩ = false ∧ w.frozen? ⟨g, 6, none⟩ = false ∧ w.frozen? ⟨g, 7, none⟩ = false ∧ w.frozen? ⟨g, 8, none⟩ = false ∧ w.frozen? ⟨g, 9, none⟩ = false ∧ w.frozen? ⟨g, 10, none⟩ = false ∧ w.frozen? ⟨g, 11, none⟩ = false ∧ w.frozen? ⟨g, 12, none⟩ = false ∧ w.frozen? ⟨g, 13, none⟩ = false ∧ w.frozen? ⟨g, 14, none⟩ = false ∧ w.frozen? ⟨g, 15, none⟩ = false ∧ w.frozen? ⟨g, 16, none⟩ = false) :=
  ⟨⟨blk_cell h 0, blk_cell h 1, blk_cell h 2, blk_cell h 3, blk_cell h 4, blk_cell h 5, blk_cell h 6, blk_cell h 7, blk_cell h 8, blk_cell h 9, blk_cell h 10, blk_cell h 11, blk_cell h 12, blk_cell h 13, blk_cell h 14, blk_cell h 15, blk_cell h 16⟩,
   ⟨blk_frozen h 0, blk_frozen h 1, blk_frozen h 2, blk_frozen h 3, blk_frozen h 4, blk_frozen h 5, blk_frozen h 6, blk_frozen h 7, blk_frozen h 8, blk_frozen h 9, blk_frozen h 10, blk_frozen h 11, blk_frozen h 12, blk_frozen h 13, blk_frozen h 14, blk_frozen h 15, blk_frozen h 16⟩⟩
theorem place17 {w : World} {g k : Nat} {t : TypeId} {cur : Array Value} (h : w.heap[g]? = some (.cells cur t (0, 0))) (hk : k * 17 + 17 ≤ cur.size) : ∃ v0 v1 v2 v3 v4 v5 v6 v7 v8 v9 v10 v11 v12 v13 v14 v15 v16, (w.cell? ⟨g, k * 17, none⟩ = some v0 ∧ w.cell? ⟨g, k * 17 + 1, none⟩ = some v1 ∧ w.cell? ⟨g, k * 17 + 2, none⟩ = some v2 ∧ w.cell? ⟨g, k * 17 + 3, none⟩ = some v3 ∧ w.cell? ⟨g, k * 17 + 4, none⟩ = some v4 ∧ w.cell? ⟨g, k * 17 + 5, none⟩ = some v5 ∧ w.cell? ⟨g, k * 17 + 6, none⟩ = some v6 ∧ w.cell? ⟨g, k * 17 + 7, none⟩ = some v7 ∧ w.cell? ⟨g, k * 17 + 8, none⟩ = some v8 ∧ w.cell? ⟨g, k * 17 + 9, none⟩ = some v9 ∧ w.cell? ⟨g, k * 17 + 10, none⟩ = some v10 ∧ w.cell? ⟨g, k * 17 + 11, none⟩ = some v11 ∧ w.cell? ⟨g, k * 17 + 12, none⟩ = some v12 ∧ w.cell? ⟨g, k * 17 + 13, none⟩ = some v13 ∧ w.cell? ⟨g, k * 17 + 14, none⟩ = some v14 ∧ w.cell? ⟨g, k * 17 + 15, none⟩ = some v15 ∧ w.cell? ⟨g, k * 17 + 16, none⟩ = some v16) ∧ (w.frozen? ⟨g, k * 17, none⟩ = false ∧ w.frozen? ⟨g, k * 17 + 1, none⟩ = false ∧ w.frozen? ⟨g, k * 17 + 2, none⟩ = false ∧ w.frozen? ⟨g, k * 17 + 3, none⟩ = false ∧ w.frozen? ⟨g, k * 17 + 4, none⟩ = false ∧ w.frozen? ⟨g, k * 17 + 5, none⟩ = false ∧ w.frozen? ⟨g, k * 17 + 6, none⟩ = false ∧ w.frozen? ⟨g, k * 17 + 7, none⟩ = false ∧ w.frozen? ⟨g, k * 17 + 8, none⟩ = false ∧ w.frozen? ⟨g, k * 17 + 9, none⟩ = false ∧ w.frozen? ⟨g, k * 17 + 10, none⟩ = false ∧ w.frozen? ⟨g, k * 17 + 11, none⟩ = false ∧ w.frozen? ⟨g, k * 17 + 12, none⟩ = false ∧ w.frozen? ⟨g, k * 17 + 13, none⟩ = false ∧ w.frozen? ⟨g, k * 17 + 14, none⟩ = false ∧ w.frozen? ⟨g, k * 17 + 15, none⟩ = false ∧ w.frozen? ⟨g, k * 17 + 16, none⟩ = false) := by
  have f : ∀ j, j < 17 → ∃ v, w.cell? ⟨g, k * 17 + j, none⟩ = some v := fun j hj => ⟨cur[k * 17 + j]'(by omega), (blk_cell h _).trans (Array.getElem?_eq_getElem (by omega))⟩
  obtain ⟨v0, h0⟩ := f 0 (by omega)
  obtain ⟨v1, h1⟩ := f 1 (by omega)
  obtain ⟨v2, h2⟩ := f 2 (by omega)
  obtain ⟨v3, h3⟩ := f 3 (by omega)
  obtain ⟨v4, h4⟩ := f 4 (by omega)
  obtain ⟨v5, h5⟩ := f 5 (by omega)
  obtain ⟨v6, h6⟩ := f 6 (by omega)
  obtain ⟨v7, h7⟩ := f 7 (by omega)
  obtain ⟨v8, h8⟩ := f 8 (by omega)
  obtain ⟨v9, h9⟩ := f 9 (by omega)
  obtain ⟨v10, h10⟩ := f 10 (by omega)
  obtain ⟨v11, h11⟩ := f 11 (by omega)
  obtain ⟨v12, h12⟩ := f 12 (by omega)
  obtain ⟨v13, h13⟩ := f 13 (by omega)
  obtain ⟨v14, h14⟩ := f 14 (by omega)
  obtain ⟨v15, h15⟩ := f 15 (by omega)
  obtain ⟨v16, h16⟩ := f 16 (by omega)
  exact ⟨v0, v1, v2, v3, v4, v5, v6, v7, v8, v9, v10, v11, v12, v13, v14, v15, v16, ⟨h0, h1, h2, h3, h4, h5, h6, h7, h8, h9, h10, h11, h12, h13, h14, h15, h16⟩, ⟨blk_frozen h _, blk_frozen h _, blk_frozen h _, blk_frozen h _, blk_frozen h _, blk_frozen h _, blk_frozen h _, blk_frozen h _, blk_frozen h _, blk_frozen h _, blk_frozen h _, blk_frozen h _, blk_frozen h _, blk_frozen h _, blk_frozen h _, blk_frozen h _, blk_frozen h _⟩⟩
def updV (f : Nat → Value) (k : Nat) (v : Value) (j : Nat) : Value := if j = k then v else f j
theorem add0 (g m : Nat) : (⟨g, 0, none⟩ : Addr).add m = ⟨g, m, none⟩ := by unfold Addr.add; split <;> simp_all
end Go.Proofs.YtopcpbokfngpeaaGreatDoor.H
/- A row of drawn entries: how it lies, and what stays of it. Conditions: each theorem's own. -/
set_option linter.unusedVariables false
namespace Go.Proofs.YtopcpbokfngpeaaGreatDoor.H
open Go.RowKit Go.Proofs.YtopcpbokfngpeaaGreatDoorW.PrintWords Go.Proofs.YtopcpbokfngpeaaGreatDoor.Base Go.Proofs.YtopcpbokfngpeaaGreatDoor.Pure
def flatE : List (En × Value) → List Value
 | [] => []
 | p :: t => (eCells p.1 p.2).toList ++ flatE t
theorem eCells_len (e : En) (pv : Value) : (eCells e pv).toList.length = 17 := rfl
theorem flatE_len : ∀ xs : List (En × Value), (flatE xs).length = xs.length * 17
 | [] => rfl
 | p :: t => by rw [flatE, List.length_append, eCells_len, flatE_len t, List.length_cons]; omega
theorem flatE_snoc : ∀ (xs : List (En × Value)) (p : En × Value), flatE (xs ++ [p]) = flatE xs ++ (eCells p.1 p.2).toList
 | [], p => by simp [flatE]
 | q :: t, p => by rw [List.cons_append, flatE, flatE_snoc t p, flatE, List.append_assoc]
theorem flatE_get : ∀ (xs : List (En × Value)) (k : Nat) (h : k < xs.length) (j : Nat), j < 17 → (flatE xs)[k * 17 + j]? = (eCells xs[k].1 xs[k].2)[j]?
 | [], k, h, _, _ => absurd h (by simp)
 | p :: t, 0, h, j, hj => by
  rw [flatE, List.getElem?_append_left (by rw [eCells_len]; omega), Array.getElem?_toList, Nat.zero_mul, Nat.zero_add]; rfl
 | p :: t, k + 1, h, j, hj => by
  rw [flatE, List.getElem?_append_right (by rw [eCells_len]; omega), eCells_len, show (k + 1) * 17 + j - 17 = k * 17 + j by omega, flatE_get t k (by simpa using h) j hj]; rfl
/-- A row of entries that a draw owns, above a base. -/
structure RowD (w : World) (b0 base : Nat) (v : Value) (xs : List (En × Value)) : Prop where
 own : w.ownsRow b0 49 17 v xs.length (flatE xs)
 q : ∀ p ∈ xs, QRow w base 9 1 p.2 p.1.u.path.length (strV p.1.u.path)
 sm : ∀ p ∈ xs, FitP p.1.u
theorem RowD.drewn {w0 w w1 : World} {g n b0 base : Nat} {v : Value} {xs : List (En × Value)} (h : RowD w b0 base v xs) (d : Drew w0 w w1 g n) (h0 : g < b0) (hg : g < base) : RowD w1 b0 base v xs :=
 ⟨own_drewn h.own d h0, fun p hp => q_drewn (h.q p hp) d hg, h.sm⟩
theorem RowD.below {w w1 : World} {b0 base : Nat} {v : Value} {xs : List (En × Value)} (h : RowD w b0 base v xs) (hb : Below w.heap.size w w1) : RowD w1 b0 base v xs :=
 ⟨own_below h.own hb, fun p hp => q_below (h.q p hp) hb, h.sm⟩
theorem rowD_nil (w : World) (base : Nat) : RowD (w.alloc (.cells #[] 49)) w.heap.size base (.slice (some ⟨w.heap.size, 0, none⟩) 0 0) [] :=
 ⟨⟨rfl, .inr ⟨w.heap.size, 0, #[], rfl, Nat.le_refl _, blk_new w _, Nat.le_refl _, by unfold maxLen; omega, rfl, rfl⟩⟩, fun _ h => (List.not_mem_nil h).elim, fun _ h => (List.not_mem_nil h).elim⟩
theorem q_grow {w w1 : World} {base base2 size n m : Nat} {e : TypeId} {v v2 : Value} {xs ys : List Value} (h : QRow w base 9 1 v n xs) (ho : w.ownsRow base2 e size v2 m ys) (he : e ≠ 9) (hg : w.grownBy w1 v2.ownBlock) : QRow w1 base 9 1 v n xs :=
 q_typed h fun k cur hk => hg.block k (Array.getElem?_eq_some_iff.1 hk).1 fun q => by
  obtain ⟨cur2, h2⟩ := own_typed ho k q.symm
  rw [hk] at h2
  injection h2 with q; injection q with _ q _
  exact he q.symm
theorem RowD.snoc {w w1 : World} {b0 base : Nat} {v v1 : Value} {xs : List (En × Value)} {e : En} {pv : Value} (h : RowD w b0 base v xs) (hq : QRow w base 9 1 pv e.u.path.length (strV e.u.path)) (he : FitP e.u)
  (ho : w1.ownsRow b0 49 17 v1 (xs.length + 1) (flatE xs ++ (eCells e pv).toList)) (hg : w.grownBy w1 v.ownBlock) : RowD w1 b0 base v1 (xs ++ [(e, pv)]) := by
 refine ⟨by rw [flatE_snoc, List.length_append]; exact ho, fun p hp => ?_, fun p hp => ?_⟩
 ·rcases List.mem_append.1 hp with hp | hp
  ·exact q_grow (h.q p hp) h.own (by decide) hg
  ·obtain rfl := List.mem_singleton.1 hp
   exact q_grow hq h.own (by decide) hg
 ·rcases List.mem_append.1 hp with hp | hp
  ·exact h.sm p hp
  ·obtain rfl := List.mem_singleton.1 hp
   exact he
/-- A row of entries that can be read: nothing of it lies below the base. -/
def RowG (w : World) (base : Nat) (v : Value) (es : List En) : Prop := ∃ A c, v = .slice A es.length c ∧ es.length ≤ c ∧ ∀ k (h : k < es.length), ∃ ad pv, A = some ad ∧ base ≤ ad.block ∧ QRow w base 9 1 pv (es[k]).u.path.length (strV (es[k]).u.path) ∧ ∀ j x, (eCells es[k] pv)[j]? = some x → w.cell? (ad.add (k * 17 + j)) = some x
theorem add_block (ad : Addr) (j : Nat) : (ad.add j).block = ad.block := by unfold Addr.add; split <;> rfl
theorem cell_lt {w : World} {a : Addr} {x : Value} (h : w.cell? a = some x) : a.block < w.heap.size := by
 rcases Nat.lt_or_ge a.block w.heap.size with q | q
 ·exact q
 ·unfold World.cell? at h
  rw [Array.getElem?_eq_none q] at h
  cases h
theorem RowG.drewn {w0 w w1 : World} {g n base : Nat} {v : Value} {es : List En} (h : RowG w base v es) (d : Drew w0 w w1 g n) (hg : g < base) : RowG w1 base v es := by
 obtain ⟨A, c, h1, h2, h3⟩ := h
 refine ⟨A, c, h1, h2, fun k hk => ?_⟩
 obtain ⟨ad, pv, a, b, q, r⟩ := h3 k hk
 refine ⟨ad, pv, a, b, q_drewn q d hg, fun j x hx => ?_⟩
 have hc := r j x hx
 have hlt := cell_lt hc
 rw [World.cell?_of_block (d.k.2 _ hlt (by rw [add_block]; omega) (by simp))]
 exact hc
theorem RowG.below {w w1 : World} {base : Nat} {v : Value} {es : List En} (h : RowG w base v es) (hb : Below w.heap.size w w1) : RowG w1 base v es := by
 obtain ⟨A, c, h1, h2, h3⟩ := h
 refine ⟨A, c, h1, h2, fun k hk => ?_⟩
 obtain ⟨ad, pv, a, b, q, r⟩ := h3 k hk
 exact ⟨ad, pv, a, b, q_below q hb, fun j x hx => cell_later hb (r j x hx)⟩
theorem RowG.rowE {w : World} {base : Nat} {v : Value} {es : List En} (h : RowG w base v es) : RowE w v es := by
 obtain ⟨A, c, h1, h2, h3⟩ := h
 refine ⟨A, c, h1, h2, fun k hk => ?_⟩
 obtain ⟨ad, pv, a, b, q, r⟩ := h3 k hk
 exact ⟨ad, pv, a, pathAt_q q, r⟩
/-- The block of a row that owns something. -/
theorem RowD.blk {w : World} {b0 base : Nat} {v : Value} {xs : List (En × Value)} (h : RowD w b0 base v xs) (hn : 0 < xs.length) : ∃ g cap cur, v = .slice (some ⟨g, 0, none⟩) xs.length cap ∧ b0 ≤ g ∧ w.heap[g]? = some (.cells cur 49 (0, 0)) ∧ xs.length ≤ cap ∧ cur.size = cap * 17 ∧ ∀ k (hk : k < xs.length) j, j < 17 → cur[k * 17 + j]? = (eCells xs[k].1 xs[k].2)[j]? := by
 rcases h.own.2 with ⟨_, h0⟩ | ⟨g, cap, cur, hv, hb, hh, hn2, _, hs, ht⟩
 ·omega
 ·refine ⟨g, cap, cur, hv, hb, hh, hn2, hs, fun k hk j hj => ?_⟩
  rw [← flatE_get xs k hk j hj, ← ht, List.getElem?_take, if_pos (by omega), Array.getElem?_toList]
theorem RowD.toG {w : World} {b0 base : Nat} {v : Value} {xs : List (En × Value)} (h : RowD w b0 base v xs) (hbb : base ≤ b0) : RowG w base v (xs.map Prod.fst) := by
 by_cases hn : 0 < xs.length
 ·obtain ⟨g, cap, cur, rfl, hb, hh, hc, hs, hx⟩ := h.blk hn
  refine ⟨some ⟨g, 0, none⟩, cap, by rw [List.length_map], by rw [List.length_map]; exact hc, fun k hk => ?_⟩
  have hk' : k < xs.length := by simpa using hk
  refine ⟨⟨g, 0, none⟩, xs[k].2, rfl, Nat.le_trans hbb hb, by rw [List.getElem_map]; exact h.q _ (List.getElem_mem hk'), fun j x hx2 => ?_⟩
  rw [List.getElem_map] at hx2
  have hj : j < 17 := (Array.getElem?_eq_some_iff.1 hx2).1
  rw [add0, blk_cell hh, hx k hk' j hj]; exact hx2
 ·obtain rfl : xs = [] := List.eq_nil_of_length_eq_zero (by omega)
  obtain ⟨A, c, rfl, hc⟩ := own_form h.own
  exact ⟨A, c, rfl, hc, fun k hk => absurd hk (by simp)⟩
theorem setL_at : ∀ (vs : List Value) (cur : Array Value) (o i : Nat), o + vs.length ≤ cur.size → (setL cur o vs)[i]? = if o ≤ i ∧ i < o + vs.length then vs[i - o]? else cur[i]? := fun vs cur o i h => by
 by_cases c : o ≤ i ∧ i < o + vs.length
 ·rw [if_pos c, ← setL_new vs cur o (i - o) h (by omega), show o + (i - o) = i by omega]
 ·rw [if_neg c, setL_old vs cur o i (by omega)]
/-- Some cells of one entry written. -/
theorem RowD.put {w : World} {b0 base g cap : Nat} {xs : List (En × Value)} {n : Nat} (h : RowD w b0 base (.slice (some ⟨g, 0, none⟩) n cap) xs) (hbb : base ≤ b0) (k : Nat) (hk : k < xs.length) (o : Nat) (vs : List Value) (ho : o + vs.length ≤ 17) (e : En) (pv : Value)
  (hq : QRow w base 9 1 pv e.u.path.length (strV e.u.path)) (hc : ∀ j, j < 17 → (eCells e pv)[j]? = if o ≤ j ∧ j < o + vs.length then vs[j - o]? else (eCells xs[k].1 xs[k].2)[j]?) : RowG (putL w g (k * 17 + o) vs) base (.slice (some ⟨g, 0, none⟩) n cap) ((xs.map Prod.fst).set k e) := by
 obtain ⟨g', cap', cur, hv, hb, hh, hn, hs, hx⟩ := h.blk (by omega)
 obtain ⟨rfl, rfl, rfl⟩ : g = g' ∧ n = xs.length ∧ cap = cap' := by injection hv with a b c; injection a with a; injection a with a; exact ⟨a, b, c⟩
 have hh2 := putL_heap (g := g) vs w (k * 17 + o) cur hh
 have hgr := putL_grown (g := g) vs w (k * 17 + o) (grown_b (Below.refl _ w))
 have hq2 : ∀ {pv : Value} {m : Nat} {ys : List Value}, QRow w base 9 1 pv m ys → QRow (putL w g (k * 17 + o) vs) base 9 1 pv m ys := fun hq => q_grow hq h.own (by decide) hgr
 have hsz : k * 17 + o + vs.length ≤ cur.size := by
  have : k * 17 + 17 ≤ cap * 17 := by omega
  omega
 refine ⟨some ⟨g, 0, none⟩, cap, by simp, by simpa using hn, fun i hi => ?_⟩
 have hi' : i < xs.length := by simpa using hi
 by_cases hik : k = i
 ·subst hik
  refine ⟨⟨g, 0, none⟩, pv, rfl, Nat.le_trans hbb hb, by rw [List.getElem_set_self]; exact hq2 hq, fun j x hx2 => ?_⟩
  rw [List.getElem_set_self] at hx2
  have hj : j < 17 := (Array.getElem?_eq_some_iff.1 hx2).1
  rw [add0, blk_cell hh2, setL_at _ _ _ _ hsz, ← hx2, hc j hj]
  by_cases c : o ≤ j ∧ j < o + vs.length
  ·rw [if_pos c, if_pos (by omega), show k * 17 + j - (k * 17 + o) = j - o by omega]
  ·rw [if_neg c, if_neg (by omega), hx k hk j hj]
 ·have hik' : (xs.map Prod.fst).set k e = (xs.map Prod.fst).set k e := rfl
  refine ⟨⟨g, 0, none⟩, xs[i].2, rfl, Nat.le_trans hbb hb, by rw [List.getElem_set_ne hik, List.getElem_map]; exact hq2 (h.q _ (List.getElem_mem hi')), fun j x hx2 => ?_⟩
  rw [List.getElem_set_ne hik, List.getElem_map] at hx2
  have hj : j < 17 := (Array.getElem?_eq_some_iff.1 hx2).1
  have hne : ¬ (k * 17 + o ≤ i * 17 + j ∧ i * 17 + j < k * 17 + o + vs.length) := by omega
  rw [add0, blk_cell hh2, setL_at _ _ _ _ hsz, if_neg hne, hx i hi' j hj]; exact hx2
theorem Drew.putL {w0 w w1 : World} {g n b : Nat} (h : Drew w0 w w1 g n) (o : Nat) (vs : List Value) (hg : b ≠ g) (hb : w.heap.size ≤ b) (hs : w0.heap.size ≤ w.heap.size) : Drew w0 w (putL w1 b o vs) g n :=
 h.grown (row := some b) (putL_grown (g := b) vs w1 o (grown_b (Below.refl _ w1))) (fun c hc => by obtain rfl := Option.some.inj hc; exact ⟨hb, hg⟩) hs
end Go.Proofs.YtopcpbokfngpeaaGreatDoor.H
