/- Texts of this claim, joined: SUrlR, HUrlV, UrlSp, DUrlP, DUrlC, DUrlE, DUrlG, HUrlL, HUrlX, HUrlJ. Conditions: each theorem's own. -/
import Derived.Test.YtopcpbokfngpeaaGreatDoorA13
import Derived.Test.YtopcpbokfngpeaaGreatDoorA14
import Derived.Test.YtopcpbokfngpeaaGreatDoorA15
import Derived.Test.YtopcpbokfngpeaaGreatDoorA12
import Derived.Deep.AppendLies
import Derived.Deep.RegionWith
import Derived.Deep.RegionLaw
import Derived.Deep.OwnRows
/- spec.l3Equal: two addresses held against each other. No condition. -/
set_option linter.unusedVariables false
namespace Go.Proofs.YtopcpbokfngpeaaGreatDoor.H
open Go.RowKit Go.Proofs.YtopcpbokfngpeaaGreatDoorW.PrintWords Go.Proofs.YtopcpbokfngpeaaGreatDoor.Base Go.Proofs.YtopcpbokfngpeaaGreatDoor.Pure
theorem eqU_row2 (u v : Ur) : eqU u v = ((u.sch == v.sch && (u.usr == v.usr && (u.pas == v.pas && ((u.hk == v.hk && (u.hn == v.hn && u.ha == v.ha)) && (u.port == v.port && (u.opq == v.opq && (u.hq == v.hq && (u.qry == v.qry && (u.hf == v.hf && u.frg == v.frg))))))))) && u.path == v.path) := by
 rw [eqU_row]
 cases u.path == v.path <;> simp
theorem dec1i (a b : Int) : a = b ∨ ((a == b) = false ∧ (a != b) = true) := by
 rcases dec1 a b with h | h
 ·exact .inl h
 ·exact .inr ⟨h, by simp [bne, h]⟩
attribute [local go_sem high] eqA_host
set_option maxHeartbeats 8000000 in
set_option maxRecDepth 100000 in
theorem specEqual_walk (u v : Ur) (pv qv : Value) (w : World) (hP : PathAt w pv u.path) (hQ : PathAt w qv v.path) (hm : u.path.length ≤ 1048576) :
  Calls Tryz.prog 38 #[.agg (uCells u pv), .agg (uCells v qv)] w fun e w' => e = .returned (.bool (eqU u v)) ∧ Below w.heap.size w w' := by
 obtain ⟨k2, k3, HB⟩ := two_cells w (uCells u pv) (uCells v qv) 27
 have K2 : Blk _ w.heap.size (uCells u pv) := k2
 have K3 : Blk _ (w.heap.size + 1) (uCells v qv) := k3
 clear k2 k3
 obtain ⟨A, c, rfl, hc, hk1⟩ := hP
 obtain ⟨A', c', rfl, hc', hk2⟩ := hQ
 have HP := Lib.hid hk1
 have HQ := Lib.hid hk2
 clear hk1 hk2
 rw [eqU_row2 u v]
 obtain ⟨sch, usr, pas, hk, hn, ha, port, path, opq, hq, qry, hf, frg⟩ := u
 obtain ⟨sch', usr', pas', hk', hn', ha', port', path', opq', hq', qry', hf', frg'⟩ := v
 unfold uCells at *
 dsimp only at *
 rcases dec1 (path.length : Int) (path'.length : Int) with hl | h
 ·have hl2 : path.length = path'.length := by omega
  have HL := Lib.hid hl2
  rw [← hl2] at K2 K3 HB ⊢
  clear hl hl2
  rcases dec1 sch sch' with rfl | h
  rcases dec1 usr usr' with rfl | h
  rcases dec1 pas pas' with rfl | h
  rcases dec3 hk hk' hn hn' ha ha' with ⟨rfl, rfl, rfl⟩ | h
  rcases dec1i port port' with rfl | ⟨h, h2⟩
  rcases dec1 opq opq' with rfl | h
  rcases dec1 hq hq' with rfl | h
  rcases dec1 qry qry' with rfl | h
  rcases dec1 hf hf' with rfl | h
  rcases dec1 frg frg' with rfl | h
  ·simp only [beq_self_eq_true, Bool.and_self, Bool.true_and]
   go_enter Tryz.func38, Tryz.ntmps38
   go_upto_region 1 with fail
   generalize (w.alloc _).alloc _ = w1 at K2 K3 HB ⊢
   generalize w.heap.size + 1 = g at K3 ⊢
   have kc2 := K2.cells.1
   have kc3 := K3.cells.1
   go_wp2
   clear kc2 kc3
   go_loopw [5] (fun i wr => ∃ k : Nat, k ≤ path.length ∧ i = .int .i64 k ∧ path.take k = path'.take k ∧ Blk wr w.heap.size #[.string (B sch), .string (B usr), .string (B pas), .int .i64 hk, .string (B hn), .int .i64 ha, .int .i64 port, .slice A path.length c, .string (B opq), .bool hq, .string (B qry), .bool hf, .string (B frg)] ∧ Blk wr g #[.string (B sch), .string (B usr), .string (B pas), .int .i64 hk, .string (B hn), .int .i64 ha, .int .i64 port, .slice A' path.length c', .string (B opq), .bool hq, .string (B qry), .bool hf, .string (B frg)] ∧ Below w.heap.size w wr) (fun i _ => path.length - (intOf i).toNat)
   case atStart => exact ⟨0, by omega, rfl, rfl, K2, K3, HB⟩
   case round =>
    clear K2 K3 HB
    obtain ⟨k, hk, rfl, ht, K2, K3, hb⟩ := hrel
    by_cases hlt : k < path.length
    ·have hlt2 : k < path'.length := by rw [← HL.out]; exact hlt
     obtain ⟨ad, e0, hcell⟩ := kd_at (Kd.C_below HP.out hb) k hlt
     obtain ⟨ad', e0', hcell'⟩ := kd_at (Kd.C_below HQ.out hb) k hlt2
     subst e0 e0'
     have i1 : ((k : Int) < (path.length : Int)) := by omega
     have it : ((k : Int)).toNat = k := rfl
     have HT := Lib.hid fun h => take_eq k hlt hlt2 ht h
     have HN := Lib.hid fun h => take_ne k hlt hlt2 h
     have HK2 := Lib.hid K2
     have HK3 := Lib.hid K3
     have kc2 := K2.cells.1
     have kc3 := K3.cells.1
     clear ht K2 K3
     by_cases he : path[k] = path'[k]
     ·have HE := Lib.hid (HT.out he)
      have hne : (path[k] != path'[k]) = false := by simp [he]
      have hee : (path[k] == path'[k]) = true := by simp [he]
      clear he HT HN
      generalize path[k] = x at *
      generalize path'[k] = y at *
      go_wp2_with fail
      go_quiet (fail)
      go_wp2
      go_roundw
      case rel => exact ⟨k + 1, by omega, by go_num, HE.out, HK2.out.below (below_drewN (Below.refl _ _) _), HK3.out.below (below_drewN (Below.refl _ _) _), below_drewN hb _⟩
      case measure => simp only [intOf]; omega
     ·have HE := Lib.hid (HN.out he)
      have hne : (path[k] != path'[k]) = true := by simp [he]
      have hee : (path[k] == path'[k]) = false := by simp [he]
      clear he HT HN
      generalize path[k] = x at *
      generalize path'[k] = y at *
      go_wp2_with fail
      go_quiet (fail)
      go_wp2
      go_ret
      exact ⟨by rw [HE.out]; rfl, below_drewN hb _⟩
    ·have HE : Hid (path = path') := Lib.hid (by rw [List.take_of_length_le (by omega), List.take_of_length_le (by rw [← HL.out]; omega)] at ht; exact ht)
     have hn : decide ((k : Int) < (path.length : Int)) = false := decide_eq_false (by omega)
     have kc2 := K2.cells.1
     clear ht
     go_wp2
     go_ret
     exact ⟨by rw [HE.out]; simp, hb⟩
  all_goals
   simp only [h, beq_self_eq_true, Bool.true_and, Bool.false_and, Bool.and_false]
   go_enter Tryz.func38, Tryz.ntmps38
   go_upto_region 1 with fail
   generalize (w.alloc _).alloc _ = w1 at K2 K3 HB ⊢
   generalize w.heap.size + 1 = g at K3 ⊢
   have kc2 := K2.cells.1
   have kc3 := K3.cells.1
   go_wp2
   go_ret
   exact ⟨rfl, HB⟩
 ·have hp : (path == path') = false := by
   rw [beq_eq_false_iff_ne] at h ⊢
   intro e; rw [e] at h; exact h rfl
  have h2 : ((path.length : Int) != (path'.length : Int)) = true := by simp [bne, h]
  rw [hp, Bool.and_false]
  clear hp
  generalize path.length = m at *
  generalize path'.length = n at *
  go_enter Tryz.func38, Tryz.ntmps38
  go_upto_region 1 with fail
  generalize (w.alloc _).alloc _ = w1 at K2 K3 HB ⊢
  generalize w.heap.size + 1 = g at K3 ⊢
  have kc2 := K2.cells.1
  have kc3 := K3.cells.1
  go_wp2
  go_ret
  exact ⟨rfl, HB⟩
end Go.Proofs.YtopcpbokfngpeaaGreatDoor.H
/- UrlOk, UrlPut, PortOf of both sides: what the calls come to; the package-level variables read as their tables. -/
set_option linter.unusedVariables false
namespace Go.Proofs.YtopcpbokfngpeaaGreatDoor.H
open Go.RowKit Go.Proofs.YtopcpbokfngpeaaGreatDoorW.PrintWords Go.Proofs.YtopcpbokfngpeaaGreatDoor.Base Go.Proofs.YtopcpbokfngpeaaGreatDoor.Pure
structure Tabs (w : World) : Prop where
 s : TabS w
 m : TabM w
 i : TabI w
theorem Tabs.below {w w1 : World} (h : Tabs w) (hb : Below w.heap.size w w1) : Tabs w1 := ⟨h.s.below hb, h.m.below hb, h.i.below hb⟩
structure FitP (u : Ur) : Prop where
 fit : Fit u
 pp : (pathPut u.path).length ≤ 1048576
theorem putU_len (u : Ur) (h : FitP u) : (putU u).length ≤ 20000000 := by
 have h1 := h.fit.s
 have h2 := h.fit.us
 have h3 := h.fit.ps
 have h4 := h.fit.o
 have h5 := tailB_len u h.fit
 have h6 := h.pp
 have h7 := hostPV_len u.hk u.ha u.hn h.fit.hn
 have h8 := dec_len19 u.port h.fit.port.2
 have h9 : (userB u).length ≤ 2097154 := by
  rw [userB_e]
  split
  ·simp
  ·split <;> simp <;> omega
 have h10 : (portB u.port).length ≤ 20 := by unfold portB; split <;> simp; omega
 unfold putU
 rw [List.length_append, List.length_append]
 split <;> simp <;> omega
theorem urlG_12 (l : Bs) : (urlG l).1.path.length ≤ 12 := by
 unfold urlG
 split
 ·cases schemeV (trimU l) with
  | none => exact Nat.zero_le _
  | some sr =>
   obtain ⟨s, r⟩ := sr
   show (readU s r).1.path.length ≤ 12
   unfold readU
   split
   ·exact Nat.zero_le _
   ·split
    ·rename_i h
     unfold hostedOk at h
     simp only [Bool.and_eq_true, decide_eq_true_eq] at h
     exact h.2.1
    ·exact Nat.zero_le _
 ·exact Nat.zero_le _
def urlPutV (u : Ur) : Bs := if okU u = true then putU u else []
def portU (u : Ur) : Int := if 0 ≤ u.port then u.port else ownP u.sch
def portOfV (u : Ur) : Int := if okU u = true then portU u else -1
set_option maxHeartbeats 2000000 in
set_option maxRecDepth 100000 in
theorem specUrlOk_walk (u : Ur) (pv : Value) (w : World) (hu : FitP u) (hP : PathAt w pv u.path) :
  Calls Tryz.prog 11 #[.agg (uCells u pv)] w fun e w' => e = .returned (.bool (okU u)) ∧ Below w.heap.size w w' := by
 have HPT := Lib.hid fun w1 (hb : Below w.heap.size w w1) => specPut_walk u pv w1 hu.fit hu.pp (hP.below hb)
 have HPA := Lib.hid fun w1 (hb : Below w.heap.size w w1) => hP.below hb
 have HUG := Lib.hid fun w1 => specUrlGet_walk (putU u) w1 (by have := putU_len u hu; omega)
 have K0 : Blk (w.alloc (.cells (uCells u pv) 27)) w.heap.size (uCells u pv) := blk_new w _
 have HB0 := (Below.refl w.heap.size w).alloc (Nat.le_refl _) (.cells (uCells u pv) 27)
 have HO : Hid (okU u = ((urlG (putU u)).2 && eqU (urlG (putU u)).1 u)) := Lib.hid rfl
 have h12 := urlG_12 (putU u)
 generalize okU u = b at HO ⊢
 generalize urlG (putU u) = y at HO HUG h12
 obtain ⟨x, ok⟩ := y
 dsimp only at HO HUG h12
 have HEQ := Lib.hid fun xv w1 (hX : PathAt w1 xv x.path) (hb : Below w.heap.size w w1) => specEqual_walk x u xv pv w1 hX (hP.below hb) (by omega)
 clear hP
 unfold uCells at HPT HEQ K0 HB0 ⊢
 go_enter Tryz.func11, Tryz.ntmps11
 go_upto_region 1 with fail
 generalize w.alloc _ = w1 at K0 HB0 ⊢
 have kc := K0.cells.1
 go_wp2_with fail
 refine (HPT.out _ HB0).mono ?_
 rintro e w2 ⟨rfl, hb2⟩
 have K2 := K0.below hb2
 have HB2 := below_then HB0 HB0.size hb2
 clear kc hb2 K0 HB0
 go_wp2_with fail
 refine (HUG.out _).mono ?_
 rintro e w3 ⟨qv, rfl, hq, hb3⟩
 have K3 := K2.below hb3
 have HB3 := below_then HB2 HB2.size hb3
 clear hb3 K2 HB2
 obtain ⟨A, c, rfl, hAc⟩ := q_slice hq
 have K7 : Blk (w3.alloc (.cells (uCells x (.slice A x.path.length c)) 27)) w3.heap.size (uCells x (.slice A x.path.length c)) := blk_new w3 _
 have K4 := K3.below (below_alloc (Below.refl w3.heap.size w3) (.cells (uCells x (.slice A x.path.length c)) 27))
 have HB4 := HB3.alloc HB3.size (.cells (uCells x (.slice A x.path.length c)) 27)
 have HQ4 := Lib.hid (pathAt_q (q_below hq (below_alloc (Below.refl w3.heap.size w3) (.cells (uCells x (.slice A x.path.length c)) 27))))
 clear hq K3 HB3
 unfold uCells at K7 K4 HB4 HQ4 ⊢
 go_upto_region 2 with fail
 generalize w3.alloc _ = w4 at K7 K4 HB4 HQ4 ⊢
 generalize w3.heap.size = g at K7 ⊢
 cases ok with
 | false =>
  go_wp2
  go_ret
  exact ⟨by rw [HO.out]; rfl, HB4⟩
 | true =>
  have kc := K4.cells.1
  have kc7 := K7.cells.1
  go_wp2_with fail
  refine (HEQ.out _ _ HQ4.out HB4).mono ?_
  rintro e w5 ⟨rfl, hb5⟩
  have HB5 := Lib.hid (below_then HB4 HB4.size hb5)
  clear hb5 kc kc7 K4 K7 HB4
  go_wp2
  go_ret
  exact ⟨by rw [HO.out]; rfl, HB5.out⟩
set_option maxHeartbeats 2000000 in
set_option maxRecDepth 100000 in
theorem implUrlOk_walk (u : Ur) (pv : Value) (w : World) (hu : FitP u) (hP : PathAt w pv u.path) (hT : Tabs w) :
  Calls Tryz.prog 16 #[.agg (uCells u pv)] w fun e w' => e = .returned (.bool (okU u)) ∧ Below w.heap.size w w' := by
 have HPT := Lib.hid fun w1 (hb : Below w.heap.size w w1) => text_walk u pv w1 hu.fit (hT.m.below hb) (hT.i.below hb) (hP.below hb)
 have HUG := Lib.hid fun w1 (hb : Below w.heap.size w w1) => implUrlGet_walk (putU u) w1 (by have := putU_len u hu; omega) (hT.s.below hb) (hT.m.below hb) (hT.i.below hb)
 have K0 : Blk (w.alloc (.cells (uCells u pv) 27)) w.heap.size (uCells u pv) := blk_new w _
 have HB0 := (Below.refl w.heap.size w).alloc (Nat.le_refl _) (.cells (uCells u pv) 27)
 have HO : Hid (okU u = ((urlG (putU u)).2 && eqU (urlG (putU u)).1 u)) := Lib.hid rfl
 have h12 := urlG_12 (putU u)
 generalize okU u = b at HO ⊢
 generalize urlG (putU u) = y at HO HUG h12
 obtain ⟨x, ok⟩ := y
 dsimp only at HO HUG h12
 have HEQ := Lib.hid fun xv w1 (hX : PathAt w1 xv x.path) (hb : Below w.heap.size w w1) => same_walk x u xv pv w1 hX (hP.below hb) (by omega)
 clear hP hT
 unfold uCells at HPT HEQ K0 HB0 ⊢
 go_enter Tryz.func16, Tryz.ntmps16
 go_upto_region 1 with fail
 generalize w.alloc _ = w1 at K0 HB0 ⊢
 have kc := K0.cells.1
 go_wp2_with fail
 refine (HPT.out _ HB0).mono ?_
 rintro e w2 ⟨rfl, hb2⟩
 have K2 := K0.below hb2
 have HB2 := below_then HB0 HB0.size hb2
 clear kc hb2 K0 HB0
 go_wp2_with fail
 refine (HUG.out _ HB2).mono ?_
 rintro e w3 ⟨qv, rfl, hq, hb3⟩
 have K3 := K2.below hb3
 have HB3 := below_then HB2 HB2.size hb3
 clear hb3 K2 HB2
 obtain ⟨A, c, rfl, hAc⟩ := q_slice hq
 have K7 : Blk (w3.alloc (.cells (uCells x (.slice A x.path.length c)) 27)) w3.heap.size (uCells x (.slice A x.path.length c)) := blk_new w3 _
 have K4 := K3.below (below_alloc (Below.refl w3.heap.size w3) (.cells (uCells x (.slice A x.path.length c)) 27))
 have HB4 := HB3.alloc HB3.size (.cells (uCells x (.slice A x.path.length c)) 27)
 have HQ4 := Lib.hid (pathAt_q (q_below hq (below_alloc (Below.refl w3.heap.size w3) (.cells (uCells x (.slice A x.path.length c)) 27))))
 clear hq K3 HB3
 unfold uCells at K7 K4 HB4 HQ4 ⊢
 go_upto_region 2 with fail
 generalize w3.alloc _ = w4 at K7 K4 HB4 HQ4 ⊢
 generalize w3.heap.size = g at K7 ⊢
 cases ok with
 | false =>
  go_wp2
  go_ret
  exact ⟨by rw [HO.out]; rfl, HB4⟩
 | true =>
  have kc := K4.cells.1
  have kc7 := K7.cells.1
  go_wp2_with fail
  refine (HEQ.out _ _ HQ4.out HB4).mono ?_
  rintro e w5 ⟨rfl, hb5⟩
  have HB5 := Lib.hid (below_then HB4 HB4.size hb5)
  clear hb5 kc kc7 K4 K7 HB4
  go_wp2
  go_ret
  exact ⟨by rw [HO.out]; rfl, HB5.out⟩
set_option maxHeartbeats 1000000 in
set_option maxRecDepth 100000 in
theorem implPort_walk (u : Ur) (pv : Value) (w : World) :
  Calls Tryz.prog 39 #[.agg (uCells u pv)] w fun e w' => e = .returned (.int .i64 (portU u)) ∧ Below w.heap.size w w' := by
 have HC := Lib.hid (special_walk u.sch)
 have K0 : Blk (w.alloc (.cells (uCells u pv) 27)) w.heap.size (uCells u pv) := blk_new w _
 have HB0 := (Below.refl w.heap.size w).alloc (Nat.le_refl _) (.cells (uCells u pv) 27)
 have HO : Hid (portU u = if 0 ≤ u.port then u.port else ownP u.sch) := Lib.hid rfl
 generalize portU u = z at HO ⊢
 unfold uCells at *
 go_enter Tryz.func39, Tryz.ntmps39
 go_upto_region 1 with fail
 generalize w.alloc _ = w1 at K0 HB0 ⊢
 have kc := K0.cells.1
 by_cases hp : 0 ≤ u.port
 ·have HX : Hid (z = u.port) := Lib.hid (by rw [HO.out, if_pos hp])
  have hd : decide (0 ≤ u.port) = true := decide_eq_true hp
  go_wp2
  go_ret
  exact ⟨by rw [HX.out]; rfl, HB0⟩
 ·have HX : Hid (z = ownP u.sch) := Lib.hid (by rw [HO.out, if_neg hp])
  have hd : decide (0 ≤ u.port) = false := decide_eq_false hp
  go_wp2_with fail
  refine (HC.out _).mono ?_
  rintro e w3 ⟨rfl, hw3⟩
  subst w3
  go_wp2
  go_ret
  exact ⟨by rw [HX.out]; rfl, HB0⟩
set_option maxHeartbeats 1000000 in
set_option maxRecDepth 100000 in
theorem implPortOf_walk (u : Ur) (pv : Value) (w : World) (hu : FitP u) (hP : PathAt w pv u.path) (hT : Tabs w) :
  Calls Tryz.prog 12 #[.agg (uCells u pv)] w fun e w' => e = .returned (.int .i64 (portOfV u)) ∧ Below w.heap.size w w' := by
 have HOK := Lib.hid fun w1 (hb : Below w.heap.size w w1) => implUrlOk_walk u pv w1 hu (hP.below hb) (hT.below hb)
 have HPO := Lib.hid (implPort_walk u pv)
 have K0 : Blk (w.alloc (.cells (uCells u pv) 27)) w.heap.size (uCells u pv) := blk_new w _
 have HB0 := (Below.refl w.heap.size w).alloc (Nat.le_refl _) (.cells (uCells u pv) 27)
 have HO : Hid (portOfV u = if okU u = true then portU u else -1) := Lib.hid rfl
 generalize portOfV u = z at HO ⊢
 unfold uCells at *
 go_enter Tryz.func12, Tryz.ntmps12
 go_upto_region 1 with fail
 generalize w.alloc _ = w1 at K0 HB0 ⊢
 have kc := K0.cells.1
 go_wp2_with fail
 refine (HOK.out _ HB0).mono ?_
 rintro e w2 ⟨rfl, hb2⟩
 have K2 := K0.below hb2
 have HB2 := below_then HB0 HB0.size hb2
 clear kc hb2 K0 HB0
 have kc := K2.cells.1
 cases ho : okU u with
 | false =>
  have HX : Hid (z = -1) := Lib.hid (by rw [HO.out, ho]; rfl)
  go_wp2
  go_ret
  exact ⟨by rw [HX.out]; rfl, HB2⟩
 | true =>
  have HX : Hid (z = portU u) := Lib.hid (by rw [HO.out, ho]; rfl)
  go_wp2_with fail
  refine (HPO.out _).mono ?_
  rintro e w3 ⟨rfl, hb3⟩
  have HB3 := Lib.hid (below_then HB2 HB2.size hb3)
  clear hb3 kc K2 HB2
  go_wp2
  go_ret
  exact ⟨by rw [HX.out]; rfl, HB3.out⟩
end Go.Proofs.YtopcpbokfngpeaaGreatDoor.H
/- Of no program: what the laws on drawn addresses say. Conditions: each theorem's own. -/
set_option linter.unusedVariables false
namespace Go.Proofs.YtopcpbokfngpeaaGreatDoor.H
open Go.RowKit Go.Proofs.YtopcpbokfngpeaaGreatDoorW.PrintWords Go.Proofs.YtopcpbokfngpeaaGreatDoor.Base Go.Proofs.YtopcpbokfngpeaaGreatDoor.Pure
structure Sm (u : Ur) : Prop where
 s : u.sch.length ≤ 700
 us : u.usr.length ≤ 700
 ps : u.pas.length ≤ 700
 hn : u.hn.length ≤ 700
 o : u.opq.length ≤ 700
 q : u.qry.length ≤ 700
 f : u.frg.length ≤ 700
 pp : (pathPut u.path).length ≤ 700
 pl : u.path.length ≤ 12
 port : -1 ≤ u.port ∧ u.port ≤ 65535
theorem Sm.fit {u : Ur} (h : Sm u) : FitP u := by
 obtain ⟨h1, h2, h3, h4, h5, h6, h7, h8, h9, h10⟩ := h
 exact ⟨⟨by omega, by omega, by omega, by omega, by omega, by omega, by omega, by omega, by omega, by omega⟩, by omega⟩
theorem sm_zero : Sm Ur.zero := ⟨by decide, by decide, by decide, by decide, by decide, by decide, by decide, by decide, by decide, by decide⟩
theorem tail_sm (u : Ur) (h : TailOk u) : u.qry.length ≤ (tailB u).length ∧ u.frg.length ≤ (tailB u).length := by
 have h1 := h.q0
 have h2 := h.f0
 unfold tailB
 rw [List.length_append]
 constructor
 ·cases hq : u.hq with
  | false => rw [h1 hq]; simp
  | true => simp; omega
 ·cases hf : u.hf with
  | false => rw [h2 hf]; simp
  | true => simp; omega
theorem sm_goodO (u : Ur) (h : GoodO u) (hl : (putU u).length ≤ 700) : Sm u := by
 have e := h.rest
 have e1 : u.usr = [] := congrArg Ur.usr e
 have e2 : u.pas = [] := congrArg Ur.pas e
 have e3 : u.hn = [] := congrArg Ur.hn e
 have e4 : u.path = [] := congrArg Ur.path e
 have e5 : u.port = -1 := congrArg Ur.port e
 obtain ⟨t1, t2⟩ := tail_sm u h.t
 rw [putU_O u h.own] at hl
 simp only [List.length_append, List.length_cons] at hl
 exact ⟨by omega, by rw [e1]; simp, by rw [e2]; simp, by rw [e3]; simp, by omega, by omega, by omega, by rw [e4]; simp [pathPut], by rw [e4]; simp, by omega⟩
theorem sm_goodH (u : Ur) (h : GoodH u) (hl : (putU u).length ≤ 700) : Sm u := by
 obtain ⟨s1, s2, s3⟩ := http_sch _ h.s
 obtain ⟨t1, t2⟩ := tail_sm u h.t
 have hp := h.a.port
 have hn := h.a.host.size
 have hpl := h.pl
 rw [putU_H u s3] at hl
 unfold authB at hl
 simp only [List.length_append, List.length_cons] at hl
 have hu : u.usr.length ≤ (userB u).length ∧ u.pas.length ≤ (userB u).length := by
  unfold userB
  by_cases hz : u.usr ≠ [] ∨ u.pas ≠ []
  ·rw [if_pos hz]
   by_cases hp0 : u.pas ≠ []
   ·rw [if_pos hp0]; simp only [List.length_append, List.length_cons]; omega
   ·have : u.pas = [] := Decidable.byContradiction hp0
    rw [this]; simp
  ·have h1 : u.usr = [] := Decidable.byContradiction fun q => hz (.inl q)
   have h2 : u.pas = [] := Decidable.byContradiction fun q => hz (.inr q)
   rw [h1, h2]; simp
 exact ⟨by omega, by omega, by omega, by omega, by rw [h.o]; simp, by omega, by omega, by omega, hpl, by omega⟩
theorem urlG_no (l : Bs) (h : (urlG l).2 = false) : (urlG l).1 = Ur.zero := by
 unfold urlG at h ⊢
 by_cases hl : l.length ≤ 200
 ·rw [if_pos hl] at h ⊢
  cases hs : schemeV (trimU l) with
  | none => rfl
  | some sr =>
   obtain ⟨s, r⟩ := sr
   rw [hs] at h
   have h' : (readU s r).2 = false := h
   show (readU s r).1 = Ur.zero
   by_cases h1 : ownP s < 0
   ·unfold readU at h'; rw [if_pos h1] at h'; cases h'
   ·by_cases h2 : hostedOk s r = true
    ·unfold readU at h'; rw [if_neg h1, if_pos h2] at h'; cases h'
    ·unfold readU; rw [if_neg h1, if_neg h2]
 ·rw [if_neg hl]
theorem sm_url (l : Bs) : Sm (urlG l).1 := by
 cases h : (urlG l).2 with
 | false => rw [urlG_no l h]; exact sm_zero
 | true =>
  have hl := urlG_len l h
  obtain ⟨g, hp⟩ := good_of l h
  rcases g with g | g
  ·exact sm_goodO _ g (by omega)
  ·exact sm_goodH _ g (by omega)
/-! FnUrlText. -/
/-! FnPortOf. -/
theorem ok_hosted (u : Ur) (h : okU u = true) (hn : 0 ≤ portU u) : GoodH u ∧ (putU u).length ≤ 200 := by
 obtain ⟨g, hl⟩ := okU_good u h
 refine ⟨?_, hl⟩
 rcases g with g | g
 ·have e5 : u.port = -1 := congrArg Ur.port g.rest
  have := g.own
  unfold portU at hn
  rw [if_neg (by omega)] at hn; omega
 ·exact g
def ownB (u : Ur) : Bool := (decide (portU u = 80) && u.sch == [104, 116, 116, 112]) || (decide (portU u = 443) && u.sch == [104, 116, 116, 112, 115])
theorem port_law (u : Ur) (h : okU u = true) (hn : 0 ≤ portU u) : portU u ≤ 65535 ∧ ownB u = decide (u.port = -1) ∧ okU { u with port := portU u } = !ownB u := by
 obtain ⟨g, hl⟩ := ok_hosted u h hn
 obtain ⟨s1, s2, s3⟩ := http_sch _ g.s
 rcases g.a.port with e | ⟨p0, p1, p2⟩
 ·have ep : portU u = ownP u.sch := by unfold portU; rw [if_neg (by omega)]
  have eo : ownB u = true := by
   unfold ownB
   rcases g.s with q | q <;> (rw [ep, q]; decide)
  have hle : ownP u.sch ≤ 65535 := by rcases g.s with q | q <;> (rw [q]; decide)
  refine ⟨by omega, by rw [eo, e]; rfl, ?_⟩
  rw [eo]
  cases ho : okU { u with port := portU u } with
  | false => rfl
  | true =>
   exfalso
   obtain ⟨g', _⟩ := okU_good _ ho
   rcases g' with g' | g'
   ·have := g'.own
    have q : ownP u.sch < 0 := this
    omega
   ·rcases g'.a.port with q | ⟨_, _, q⟩
    ·have q : portU u = -1 := q
     omega
    ·exact q ep
 ·have ep : portU u = u.port := by unfold portU; rw [if_pos p0]
  have eo : ownB u = false := by
   unfold ownB
   rcases g.s with q | q
   ·have h80 : u.port ≠ 80 := by rw [q] at p2; exact p2
    rw [ep, q, decide_eq_false h80]; simp
   ·have h443 : u.port ≠ 443 := by rw [q] at p2; exact p2
    rw [ep, q, decide_eq_false h443]; simp
  have ex : ({ u with port := portU u } : Ur) = u := by rw [ep]
  rw [eo, ex, h]
  exact ⟨by omega, (decide_eq_false (by omega)).symm, rfl⟩
/-! FnUrlParts. -/
def partsU (u : Ur) : Ur := { u with hq := true, qry := [111, 116, 104, 101, 114], hf := true, frg := [101, 110, 100] }
/-! FnUrlCase, FnUrlSlash. -/
theorem goodH_any (u : Ur) (h : GoodH u) (hl : (putU u).length ≤ 600) (S : Bs) (s1 : schOk S = true) (s2 : lower S = u.sch) (x : UInt8) (hx : x = 47 ∨ x = 92) (p : Bs)
  (hp1 : p = [] ∨ ∃ c t, p = c :: t ∧ isSl c = true) (hp2 : ∀ c ∈ p, ([63, 35] : Bs).contains c = false) (hp3 : Seen p) (hp4 : pathB (setB 1) p = u.path) (hlen : (S ++ 58 :: (x :: x :: (authB u ++ (p ++ tailB u)))).length ≤ 200) :
  urlG (S ++ 58 :: (x :: x :: (authB u ++ (p ++ tailB u)))) = (u, true) := by
 obtain ⟨_, _, s3⟩ := http_sch _ h.s
 obtain ⟨c1, c2, c3⟩ := auth_chars u h.a
 obtain ⟨a1, a2⟩ := auth_back u h.a (baseU u.sch) rfl rfl rfl
 have f2 : formU u.sch (authB u) p (tailB u) = u := by
  unfold formU
  rw [a2, hp4, tail_back u _ h.t]
  unfold baseU Ur.zero
  have ho := h.o
  cases u; simp at ho ⊢; exact ho
 have hxs : isSl x = true := by rcases hx with rfl | rfl <;> rfl
 have hx32 : 32 < x.toNat := by rcases hx with rfl | rfl <;> decide
 have hseen : Seen (S ++ 58 :: (x :: x :: (authB u ++ (p ++ tailB u)))) :=
  Seen.app (sch_seen _ s1) (Seen.cons (by decide) (Seen.cons hx32 (Seen.cons hx32 (Seen.app c2 (Seen.app hp3 (tailB_seen u h.t))))))
 obtain ⟨g0, g1, g2⟩ := hosted_form u.sch (authB u) p (tailB u) x x hxs hxs c3 c1 hp1 hp2 (tailB_head u)
 unfold urlG
 rw [if_pos hlen, trimU_seen _ hseen]
 rw [scheme_form _ _ s1, s2]
 exact readU_hosted _ _ u s3 (by rw [g0, g1]; exact a1) (by rw [g2, f2]) h.pl hl
theorem pathB_self (u : Ur) (h : GoodH u) (hl : (putU u).length ≤ 200) : pathB (setB 1) (pathPut u.path) = u.path := by
 obtain ⟨_, _, s3⟩ := http_sch _ h.s
 refine path_put u.path h.pn h.po ?_
 rw [putU_H u s3] at hl
 simp only [List.length_append, List.length_cons] at hl
 omega
def upK (n : Nat) (l : Bs) : Bs := (l.take n).map (fun c => c - 32) ++ l.drop n
def turnS (l : Bs) : Bs := swapC 47 92 (upA [63, 35] l) ++ upR [63, 35] l
end Go.Proofs.YtopcpbokfngpeaaGreatDoor.H
/- spec.l3Copy, l11Near, l11Url, l11AnyUrl: what is drawn is an address whose texts are not too long. Conditions: each theorem's own. -/
set_option linter.unusedVariables false
namespace Go.Proofs.YtopcpbokfngpeaaGreatDoor.H
open Go.RowKit Go.Proofs.YtopcpbokfngpeaaGreatDoorW.PrintWords Go.Proofs.YtopcpbokfngpeaaGreatDoor.Base Go.Proofs.YtopcpbokfngpeaaGreatDoor.Pure
theorem strV_cells {w : World} {A : Option Addr} {ps : List Bs} (h : Kd.C Kd.string w A (ps.map B).length (ps.map B)) (hn : 0 < ps.length) : ∃ ad, A = some ad ∧ ∀ j v, (strV ps)[j]? = some v → w.cell? (ad.add j) = some v := by
 obtain ⟨ad, e, _⟩ := kd_at h 0 hn
 refine ⟨ad, e, fun j v hj => ?_⟩
 have hl : j < ps.length := by
  rcases Nat.lt_or_ge j ps.length with q | q
  ·exact q
  ·rw [List.getElem?_eq_none (by simpa [strV] using q)] at hj; cases hj
 obtain ⟨ad', e', hc⟩ := kd_at h j hl
 obtain rfl : ad' = ad := Option.some.inj (e'.symm.trans e)
 rw [hc]
 simpa [strV, hl] using hj
theorem Drew.put13 {w0 w w1 : World} {g n b : Nat} {v0 v1 v2 v3 v4 v5 v6 v7 v8 v9 v10 v11 v12 : Value} (h : Drew w0 w w1 g n) (hg : b ≠ g) (hb : w.heap.size ≤ b) (hs : w0.heap.size ≤ w.heap.size) : Drew w0 w (((((((((((((w1.setCell ⟨b, 0, none⟩ v0).setCell ⟨b, 1, none⟩ v1).setCell ⟨b, 2, none⟩ v2).setCell ⟨b, 3, none⟩ v3).setCell ⟨b, 4, none⟩ v4).setCell ⟨b, 5, none⟩ v5).setCell ⟨b, 6, none⟩ v6).setCell ⟨b, 7, none⟩ v7).setCell ⟨b, 8, none⟩ v8).setCell ⟨b, 9, none⟩ v9).setCell ⟨b, 10, none⟩ v10).setCell ⟨b, 11, none⟩ v11).setCell ⟨b, 12, none⟩ v12) g n :=
 h.grown (row := some b) (grown13 (grown_b (Below.refl _ w1))) (fun c hc => by obtain rfl := Option.some.inj hc; exact ⟨hb, hg⟩) hs
def UrlDrew (F : Ur → Prop) (w0 w : World) (g n : Nat) (e : Ending) (w' : World) : Prop := ∃ u pv, e = .returned (.agg (uCells u pv)) ∧ F u ∧ QRow w' (g + 1) 9 1 pv u.path.length (strV u.path) ∧ Drew w0 w w' g n
theorem own_lower {w : World} {base base' : Nat} {e : TypeId} {size n : Nat} {v : Value} {xs : List Value} (h : w.ownsRow base e size v n xs) (hb : base' ≤ base) : w.ownsRow base' e size v n xs := by
 obtain ⟨h1, h2⟩ := h
 refine ⟨h1, ?_⟩
 rcases h2 with h2 | ⟨g, cap, cur, hv, hg, r⟩
 ·exact .inl h2
 ·exact .inr ⟨g, cap, cur, hv, Nat.le_trans hb hg, r⟩
theorem zz_new (w : World) : Blk (w.alloc (.cells zz 27)) w.heap.size zz := blk_new w _
set_option maxHeartbeats 2000000 in
set_option maxRecDepth 100000 in
theorem l3Copy_walk (u : Ur) (pv : Value) (w : World) (hP : PathAt w pv u.path) (hn : u.path.length ≤ 1048576) :
  Calls Tryz.prog 68 #[.agg (uCells u pv)] w fun e w' => ∃ v, e = .returned (.agg (uCells u v)) ∧ w'.ownsRow w.heap.size 9 1 v u.path.length (strV u.path) ∧ Below w.heap.size w w' := by
 obtain ⟨i0, hi, hz0, hz1, hz2⟩ := info_parts infoStr
 obtain ⟨K1, K2, HB⟩ := two_new w (uCells u pv)
 have hn1 : w.heap.size + 1 ≠ w.heap.size := by omega
 have hge : w.heap.size ≤ w.heap.size + 1 := by omega
 obtain ⟨A, c, rfl, hAc, hC⟩ := hP
 have hC1 := Kd.C_below hC HB
 clear hC
 unfold uCells zz at *
 go_enter Tryz.func68, Tryz.ntmps68
 go_upto_region 1 with fail
 generalize (w.alloc (.cells #[.string (B u.sch), .string (B u.usr), .string (B u.pas), .int .i64 u.hk, .string (B u.hn), .int .i64 u.ha, .int .i64 u.port, (.slice A u.path.length c), .string (B u.opq), .bool u.hq, .string (B u.qry), .bool u.hf, .string (B u.frg)] 27)).alloc _ = w1 at K1 K2 HB hC1 ⊢
 have hg2 : w.heap.size + 1 < w1.heap.size := K2.lt
 generalize w.heap.size + 1 = g2 at K2 hn1 hge hg2 ⊢
 have kc1 := Blk.cells K1
 by_cases hz : 0 < u.path.length
 ·have hd : decide (0 < (u.path.length : Int)) = true := decide_eq_true (by omega)
  obtain ⟨ad, rfl, hcell⟩ := strV_cells hC1 hz
  go_upto_region 2 with fail
  obtain ⟨qv, hqv⟩ : ∃ q, q = Value.slice (some ad) u.path.length c := ⟨_, rfl⟩
  rw [← hqv] at K1 kc1 ⊢
  have HQV := Lib.hid hqv
  clear hqv
  have kz := (Blk.cells (Blk.below K1 (below_alloc (Below.refl _ w1) (.cells #[] 9)))).1
  go_wp2_with (at_builtin; refine wpList_append_own _ rfl _ _ 25 rfl w1.heap.size 9 i0 (.string ⟨#[]⟩) 1 16 Tryz.underlying25 hi hz0 hz1 hz2 rfl (by decide) _ _ _ rfl (own_empty w1 9) ad u.path.length c (strV u.path) HQV.out ?c1 ?c2 ?c3 ?c4 ?c5 ?c6 ?_)
  case c1 => simp [strV]
  case c2 => intro j v hj; exact pw_cell_below (below_alloc (Below.refl _ w1) _) (hcell j v hj)
  case c3 => intro v hv; obtain ⟨s, _, rfl⟩ := List.mem_map.1 hv; rfl
  case c4 => unfold maxLen; omega
  case c5 => omega
  case c6 => simp
  intro v' w2 hown hgrow _
  obtain ⟨A2, c2, rfl, _⟩ := own_form hown
  have hgrow' : (w1.alloc (.cells #[] 9)).grownBy w2 (some w1.heap.size) := hgrow
  have l1 : w.heap.size < w1.heap.size := K1.lt
  have K12 := Blk.grown (Blk.below K1 (below_alloc (Below.refl _ w1) (.cells #[] 9))) hgrow' (by omega)
  have K22 := Blk.grown (Blk.below K2 (below_alloc (Below.refl _ w1) (.cells #[] 9))) hgrow' (by omega)
  have HB2 := (HB.alloc HB.size (.cells #[] 9)).grown hgrow' (by simp; omega) (fun j hj => by obtain rfl := Option.some.inj hj; omega)
  clear kz kc1 K1 K2 HB hgrow hgrow' hcell
  have kc1 := K12.cells
  go_upto_region 4 with fail
  have K13 := K12.put 7 (.slice A2 u.path.length c2)
  have K23 := Blk.far (p := ⟨w.heap.size, 7, none⟩) K22 hn1 (.slice A2 u.path.length c2)
  have HB3 := HB2.setCell (p := ⟨w.heap.size, 7, none⟩) (Nat.le_refl _) (.slice A2 u.path.length c2)
  have HO3 := own_move (w1 := w2.setCell ⟨w.heap.size, 7, none⟩ (.slice A2 u.path.length c2)) hown fun k hk => Below.heap_setCell _ _ _ k (by have := (own_lt hown k hk).1; show k ≠ w.heap.size; omega)
  generalize w2.setCell _ _ = w3 at K13 K23 HB3 HO3 ⊢
  clear kc1 K12 K22 HB2 hown
  have K13 : Blk w3 w.heap.size #[.string (B u.sch), .string (B u.usr), .string (B u.pas), .int .i64 u.hk, .string (B u.hn), .int .i64 u.ha, .int .i64 u.port, (.slice A2 u.path.length c2), .string (B u.opq), .bool u.hq, .string (B u.qry), .bool u.hf, .string (B u.frg)] := K13
  have kc1 := K13.cells
  have kc2 := K23.cells
  have HB4 := Lib.hid HB3
  have HO4 := Lib.hid HO3
  clear HB3 HO3
  go_wp2
  exact bodyPost_ret (results_cell_row rfl _ _ g2 27 _ (0, 0) _ rfl (Blk.put13 K23) Tryz.underlying27 rfl (by kernel_rfl)) rfl ⟨.slice A2 u.path.length c2, rfl, own_lower (own_move HO4.out fun k hk => (grown13 (g := g2) (grown_b (Below.refl _ w3))).block k (own_lt HO4.out k hk).2 (fun q => by have := (own_lt HO4.out k hk).1; have := Option.some.inj q; omega)) (Nat.le_of_lt l1), below13 HB4.out hge⟩
 ·have hd : decide (0 < (u.path.length : Int)) = false := decide_eq_false (by omega)
  go_upto_region 4 with fail
  have hz0' : u.path = [] := List.eq_nil_of_length_eq_zero (by omega)
  have K12 := K1.put 7 (.slice none 0 0)
  have K22 := Blk.far (p := ⟨w.heap.size, 7, none⟩) K2 hn1 (.slice none 0 0)
  have HB2 := HB.setCell (p := ⟨w.heap.size, 7, none⟩) (Nat.le_refl _) (.slice none 0 0)
  generalize w1.setCell _ _ = w2 at K12 K22 HB2 ⊢
  clear kc1 K1 K2 HB
  have K12 : Blk w2 w.heap.size #[.string (B u.sch), .string (B u.usr), .string (B u.pas), .int .i64 u.hk, .string (B u.hn), .int .i64 u.ha, .int .i64 u.port, .slice none 0 0, .string (B u.opq), .bool u.hq, .string (B u.qry), .bool u.hf, .string (B u.frg)] := K12
  have kc1 := K12.cells
  have kc2 := K22.cells
  have HB3 := Lib.hid HB2
  clear HB2
  go_wp2
  exact bodyPost_ret (results_cell_row rfl _ _ g2 27 _ (0, 0) _ rfl (Blk.put13 K22) Tryz.underlying27 rfl (by kernel_rfl)) rfl ⟨.slice none 0 0, rfl, by rw [hz0']; exact World.ownsRow_nil _ _ _ _, below13 HB3.out hge⟩
theorem near_fold (w : World) (cs : Array Value) : Blk (w.alloc (.cells cs 27)) w.heap.size cs ∧ Below w.heap.size w (w.alloc (.cells cs 27)) := ⟨blk_new w _, below_alloc (Below.refl _ _) _⟩
set_option maxHeartbeats 2000000 in
set_option maxRecDepth 100000 in
theorem near_draw (g n : Nat) (w0 w : World) (h : Drew w0 w w g (n + 1)) :
  Calls Tryz.prog 67 #[.pointer (some ⟨g, 0, none⟩)] w (UrlDrew Sm w0 w g n) := by
 have hlt := h.rd.lt
 have hs0 := h.b.size
 have K2 : Blk (w.alloc (.cells zz 27)) w.heap.size zz := zz_new w
 have D1 := h.alloc (.cells zz 27)
 unfold zz at K2 D1
 go_enter Tryz.func67, Tryz.ntmps67
 go_upto_region 1 with fail
 generalize w.alloc _ = w1 at K2 D1 ⊢
 have hg2 : w.heap.size < w1.heap.size := K2.lt
 go_wp2_with fail
 refine (of_lit g n 20 9 w0 w1 w1 _ _ D1.at (by rfl) (by rfl) (by omega) (by omega)).mono ?_
 rintro e w2 ⟨x, rfl, hx, D12⟩
 have K22 := K2.drewn D12 (by omega)
 have D2 := D1.trans D12
 clear D12 K2 D1
 go_wp2_with fail
 refine (specUrlGet_walk x w2 (by omega)).mono ?_
 rintro e w3 ⟨pv, rfl, hq, hb3⟩
 have sm := sm_url x
 generalize (urlG x).2 = ok at *
 generalize (urlG x).1 = u at hq sm ⊢
 obtain ⟨A, c, rfl, _⟩ := q_slice hq
 obtain ⟨K4, hba⟩ := near_fold w3 (uCells u (.slice A u.path.length c))
 have hge : w.heap.size < w2.heap.size := K22.lt
 have hgr : g + 1 ≤ w2.heap.size := D2.rd.lt
 have K23 := (K22.below hb3).below hba
 have HQ := Lib.hid (q_below hq hba)
 have D3 := Lib.hid ((D2.below hb3).below hba)
 clear hq hb3 hba K22 D2
 unfold uCells at K4 K23 HQ D3 ⊢
 go_upto_region 2 with fail
 generalize w3.alloc _ = w4 at K4 K23 HQ D3 ⊢
 generalize w3.heap.size = g4 at K4 ⊢
 have kc4 := K4.cells
 have kc2 := K23.cells
 go_wp2
 refine bodyPost_ret (results_cell_row rfl _ _ w.heap.size 27 _ (0, 0) _ rfl (Blk.put13 K23) Tryz.underlying27 rfl (by kernel_rfl)) rfl ⟨u, _, rfl, sm, q_mono (q_grown HQ.out (grown13 (g := w.heap.size) (grown_b (Below.refl _ _))) hge) hgr, Drew.put13 D3.out (by omega) (Nat.le_refl _) hs0⟩
set_option maxHeartbeats 4000000 in
set_option maxRecDepth 100000 in
theorem url_draw (g n : Nat) (w0 w : World) (h : Drew w0 w w g (n + 121)) :
  Calls Tryz.prog 45 #[.pointer (some ⟨g, 0, none⟩)] w (UrlDrew Sm w0 w g n) := by
 have hlt := h.rd.lt
 have hs0 := h.b.size
 have K2 : Blk (w.alloc (.cells zz 27)) w.heap.size zz := zz_new w
 have D1 := h.alloc (.cells zz 27)
 unfold zz at K2 D1
 go_enter Tryz.func45, Tryz.ntmps45
 go_upto_region 1 with fail
 generalize w.alloc _ = w1 at K2 D1 ⊢
 go_wp2_with fail
 go_loopw [3] (fun i wr => ∃ k : Nat, k ≤ 4 ∧ i = .int .i64 (k : Int) ∧ Drew w0 w wr g (n + (30 * (4 - k) + 1)) ∧ Blk wr w.heap.size #[.string ⟨#[]⟩, .string ⟨#[]⟩, .string ⟨#[]⟩, .int .i64 0, .string ⟨#[]⟩, .int .i64 0, .int .i64 0, .slice none 0 0, .string ⟨#[]⟩, .bool false, .string ⟨#[]⟩, .bool false, .string ⟨#[]⟩]) (fun i _ => 4 - (intOf i).toNat)
 case atStart => exact ⟨0, by omega, rfl, D1, K2⟩
 case round =>
  clear D1 K2
  obtain ⟨k, hk, rfl, D1, K2⟩ := hrel
  by_cases hk4 : k < 4
  ·have hd : decide ((k : Int) < 4) = true := decide_eq_true (by omega)
   obtain ⟨m, hm⟩ : ∃ m, m = 4 - (k + 1) := ⟨_, rfl⟩
   have D1' : Drew w0 w wr g (n + (30 * m + 1) + 30) := D1.less (by omega)
   have hwr : w.heap.size < wr.heap.size := K2.lt
   go_wp2_with fail
   refine (text_draw g _ w0 wr D1'.at).mono ?_
   rintro e w2 ⟨x, rfl, hx, D12⟩
   have K22 := K2.drewn D12 (by omega)
   have D2 := D1'.trans D12
   clear D12 K2 D1 D1'
   go_wp2_with fail
   refine (specUrlGet_walk x w2 (by omega)).mono ?_
   rintro e w3 ⟨pv, rfl, hq, hb3⟩
   have sm := sm_url x
   generalize (urlG x).2 = ok at *
   generalize (urlG x).1 = u at hq sm ⊢
   obtain ⟨A, c, rfl, _⟩ := q_slice hq
   obtain ⟨K4, hba⟩ := near_fold w3 (uCells u (.slice A u.path.length c))
   have hge : w.heap.size < w2.heap.size := K22.lt
   have hgr : g + 1 ≤ w2.heap.size := D2.rd.lt
   have K23 := (K22.below hb3).below hba
   have HQ := Lib.hid (q_below hq hba)
   have D3 := Lib.hid ((D2.below hb3).below hba)
   clear hq hb3 hba K22 D2
   unfold uCells at K4 K23 HQ D3 ⊢
   go_upto_region 5 with fail
   generalize w3.alloc _ = w4 at K4 K23 HQ D3 ⊢
   generalize w3.heap.size = g4 at K4 ⊢
   cases ok with
   | false =>
    go_wp2
    go_roundw
    case rel => exact ⟨k + 1, by omega, by go_num, by rw [← hm]; exact D3.out, K23⟩
    case measure => simp only [intOf]; omega
   | true =>
    have HOK := Lib.hid (specUrlOk_walk u (.slice A u.path.length c) w4 sm.fit (pathAt_q HQ.out))
    have kc4 := K4.cells.1
    unfold uCells at HOK
    go_wp2_with fail
    refine HOK.out.mono ?_
    rintro e w5 ⟨rfl, hb5⟩
    have K25 := K23.below hb5
    have K45 := K4.below hb5
    have HQ5 := Lib.hid (q_below HQ.out hb5)
    have D5 := Lib.hid (D3.out.below hb5)
    clear kc4 K23 K4 HQ D3 hb5 HOK
    cases ho : okU u with
    | false =>
     go_wp2
     go_roundw
     case rel => exact ⟨k + 1, by omega, by go_num, by rw [← hm]; exact D5.out, K25⟩
     case measure => simp only [intOf]; omega
    | true =>
     have kc4 := K45.cells
     have kc2 := K25.cells
     go_wp2
     refine bodyPost_ret (results_cell_row rfl _ _ w.heap.size 27 _ (0, 0) _ rfl (Blk.put13 K25) Tryz.underlying27 rfl (by kernel_rfl)) rfl ⟨u, _, rfl, sm, q_mono (q_grown HQ5.out (grown13 (g := w.heap.size) (grown_b (Below.refl _ _))) hge) hgr, (Drew.put13 D5.out (by omega) (Nat.le_refl _) hs0).less (by omega)⟩
  ·have hd : decide ((k : Int) < 4) = false := decide_eq_false (by omega)
   have D1' : Drew w0 w wr g (n + 1) := D1.less (by omega)
   have hwr : w.heap.size < wr.heap.size := K2.lt
   go_wp2_with fail
   refine (of_lit g n 20 4 w0 wr wr _ _ D1'.at (by rfl) (by rfl) (by omega) (by omega)).mono ?_
   rintro e w2 ⟨x, rfl, hx, D12⟩
   have K22 := K2.drewn D12 (by omega)
   have D2 := D1'.trans D12
   clear D12 K2 D1 D1'
   go_wp2_with fail
   refine (specUrlGet_walk x w2 (by omega)).mono ?_
   rintro e w3 ⟨pv, rfl, hq, hb3⟩
   have sm := sm_url x
   generalize (urlG x).2 = ok at *
   generalize (urlG x).1 = u at hq sm ⊢
   obtain ⟨A, c, rfl, _⟩ := q_slice hq
   obtain ⟨K4, hba⟩ := near_fold w3 (uCells u (.slice A u.path.length c))
   have hge : w.heap.size < w2.heap.size := K22.lt
   have hgr : g + 1 ≤ w2.heap.size := D2.rd.lt
   have K23 := (K22.below hb3).below hba
   have HQ := Lib.hid (q_below hq hba)
   have D3 := Lib.hid ((D2.below hb3).below hba)
   clear hq hb3 hba K22 D2
   unfold uCells at K4 K23 HQ D3 ⊢
   go_upto_region 8 with fail
   generalize w3.alloc _ = w4 at K4 K23 HQ D3 ⊢
   generalize w3.heap.size = g4 at K4 ⊢
   have kc4 := K4.cells
   have kc2 := K23.cells
   go_wp2
   refine bodyPost_ret (results_cell_row rfl _ _ w.heap.size 27 _ (0, 0) _ rfl (Blk.put13 K23) Tryz.underlying27 rfl (by kernel_rfl)) rfl ⟨u, _, rfl, sm, q_mono (q_grown HQ.out (grown13 (g := w.heap.size) (grown_b (Below.refl _ _))) hge) hgr, Drew.put13 D3.out (by omega) (Nat.le_refl _) hs0⟩
end Go.Proofs.YtopcpbokfngpeaaGreatDoor.H
/- spec.l11AnyUrl, spec.DrawUrlPut and its like: what is drawn is an address whose texts are not too long. Conditions: each theorem's own. -/
set_option linter.unusedVariables false
namespace Go.Proofs.YtopcpbokfngpeaaGreatDoor.H
open Go.RowKit Go.Proofs.YtopcpbokfngpeaaGreatDoorW.PrintWords Go.Proofs.YtopcpbokfngpeaaGreatDoor.Base Go.Proofs.YtopcpbokfngpeaaGreatDoor.Pure
theorem own_q {w : World} {base n : Nat} {v : Value} {ps : List Bs} (h : w.ownsRow base 9 1 v n (strV ps)) : QRow w base 9 1 v n (strV ps) := q_of_own h
theorem own_set {w : World} {base : Nat} {e : TypeId} {size n : Nat} {v : Value} {xs : List Value} {g3 : Nat} (h : w.ownsRow base e size v n xs) (hno : ∀ k, v.ownBlock = some k → k ≠ g3) (i : Nat) (u : Value) : (w.setCell ⟨g3, i, none⟩ u).ownsRow base e size v n xs := own_move h fun k hk => Below.heap_setCell w ⟨g3, i, none⟩ u k (hno k hk)
theorem fit_sch {u : Ur} (h : Sm u) {x : Bs} (hx : x.length ≤ 1000) : FitP { u with sch := x } := by
 have f := h.fit
 exact ⟨⟨by show x.length ≤ _; omega, f.fit.us, f.fit.ps, f.fit.hn, f.fit.o, f.fit.q, f.fit.f, f.fit.p, f.fit.pl, f.fit.port⟩, f.pp⟩
theorem fit_usr {u : Ur} (h : Sm u) {x : Bs} (hx : x.length ≤ 1000) : FitP { u with usr := x } := by
 have f := h.fit
 exact ⟨⟨f.fit.s, by show x.length ≤ _; omega, f.fit.ps, f.fit.hn, f.fit.o, f.fit.q, f.fit.f, f.fit.p, f.fit.pl, f.fit.port⟩, f.pp⟩
theorem fit_opq {u : Ur} (h : Sm u) {x : Bs} (hx : x.length ≤ 1000) : FitP { u with opq := x } := by
 have f := h.fit
 exact ⟨⟨f.fit.s, f.fit.us, f.fit.ps, f.fit.hn, by show x.length ≤ _; omega, f.fit.q, f.fit.f, f.fit.p, f.fit.pl, f.fit.port⟩, f.pp⟩
theorem fit_qry {u : Ur} (h : Sm u) {x : Bs} (hx : x.length ≤ 1000) : FitP { u with qry := x } := by
 have f := h.fit
 exact ⟨⟨f.fit.s, f.fit.us, f.fit.ps, f.fit.hn, f.fit.o, by show x.length ≤ _; omega, f.fit.f, f.fit.p, f.fit.pl, f.fit.port⟩, f.pp⟩
theorem fit_port {u : Ur} (h : Sm u) {x : Int} (hx : -1000000 ≤ x ∧ x ≤ 1000000) : FitP { u with port := x } := by
 have f := h.fit
 exact ⟨⟨f.fit.s, f.fit.us, f.fit.ps, f.fit.hn, f.fit.o, f.fit.q, f.fit.f, f.fit.p, f.fit.pl, by show _ ≤ x ∧ x ≤ _; omega⟩, f.pp⟩
theorem fit_host {u : Ur} (h : Sm u) {k a : Int} {x : Bs} (hx : x.length ≤ 1000) : FitP { u with hk := k, hn := x, ha := a } := by
 have f := h.fit
 exact ⟨⟨f.fit.s, f.fit.us, f.fit.ps, by show x.length ≤ _; omega, f.fit.o, f.fit.q, f.fit.f, f.fit.p, f.fit.pl, f.fit.port⟩, f.pp⟩
theorem fit_hf {u : Ur} (h : Sm u) (b : Bool) : FitP { u with hf := b } := by
 have f := h.fit
 exact ⟨⟨f.fit.s, f.fit.us, f.fit.ps, f.fit.hn, f.fit.o, f.fit.q, f.fit.f, f.fit.p, f.fit.pl, f.fit.port⟩, f.pp⟩
theorem path_snoc_len (ps : List Bs) (x : Bs) : (pathPut (ps ++ [x])).length = (pathPut ps).length + x.length + 1 := by
 unfold pathPut
 simp; omega
theorem fit_path {u : Ur} (h : Sm u) {x : Bs} (hx : x.length ≤ 1000) : FitP { u with path := u.path ++ [x] } := by
 have f := h.fit
 have h1 := h.pp
 have h2 := h.pl
 have h3 := path_snoc_len u.path x
 exact ⟨⟨f.fit.s, f.fit.us, f.fit.ps, f.fit.hn, f.fit.o, f.fit.q, f.fit.f, by show (pathPut (u.path ++ [x])).length ≤ _; omega, by show (u.path ++ [x]).length ≤ _; simp; omega, f.fit.port⟩, by show (pathPut (u.path ++ [x])).length ≤ _; omega⟩
set_option maxHeartbeats 8000000 in
set_option maxRecDepth 100000 in
theorem anyUrl_draw (g n : Nat) (w0 w : World) (h : Drew w0 w w g (n + 130)) :
  Calls Tryz.prog 59 #[.pointer (some ⟨g, 0, none⟩)] w (UrlDrew FitP w0 w g n) := by
 obtain ⟨i0, hi, hz0, hz1, hz2⟩ := info_parts infoStr
 have hlt := h.rd.lt
 have hs0 := h.b.size
 have K2 : Blk (w.alloc (.cells zz 27)) w.heap.size zz := zz_new w
 have D1 := h.alloc (.cells zz 27)
 unfold zz at K2 D1
 go_enter Tryz.func59, Tryz.ntmps59
 go_upto_region 1 with fail
 generalize w.alloc _ = w1 at K2 D1 ⊢
 have hg2 : w.heap.size < w1.heap.size := K2.lt
 go_wp2_with fail
 refine (url_draw g (n + 9) w0 w1 (D1.at.less (by omega))).mono ?_
 rintro e w2 ⟨u, pv, rfl, sm, hq, D12⟩
 have K22 := K2.drewn D12 (by omega)
 have D2 := D1.trans D12
 have hsz2 := D12.k.1
 clear D12 K2 D1
 go_wp2_with fail
 refine (l3Copy_walk u pv w2 (pathAt_q hq) (by have := sm.pl; omega)).mono ?_
 rintro e w3 ⟨v, rfl, hown, hb3⟩
 obtain ⟨A, c, rfl, hAc⟩ := own_form hown
 obtain ⟨K3, hba⟩ := near_fold w3 (uCells u (.slice A u.path.length c))
 have K23 := (K22.below hb3).below hba
 have D3 := (D2.below hb3).below hba
 have HOW := own_below hown hba
 have hsz3 := hb3.size
 clear hq hb3 K22 D2 hown
 unfold uCells at K3 K23 D3 HOW ⊢
 go_upto_region 2 with fail
 have hsz4 := hba.size
 clear hba
 generalize w3.alloc _ = w4 at K3 K23 D3 HOW hsz4 ⊢
 have hg34 : w3.heap.size < w4.heap.size := K3.lt
 have hno : ∀ k, (Value.slice A u.path.length c).ownBlock = some k → k ≠ w3.heap.size := fun k hk => by
  obtain ⟨cur, hcur⟩ := own_typed HOW k hk
  rintro rfl
  have := K3
  unfold Blk at this
  rw [hcur] at this
  injection this with q; injection q with _ q _
  exact absurd q (by decide)
 generalize hg3 : w3.heap.size = g3 at K3 hg34 hno ⊢
 have hne2 : w.heap.size ≠ g3 := by omega
 have hneg : g3 ≠ g := by omega
 have hw3 : w.heap.size ≤ g3 := by omega
 have hw2 : w.heap.size < w2.heap.size := by omega
 have hg1 : g + 1 ≤ w2.heap.size := by omega
 go_wp2_with fail
 refine (pick_draw g (n + 8) 20 w0 w4 w4 (D3.at.less (by omega)) (by omega) (by omega)).mono ?_
 rintro e w5 ⟨r, rfl, hr, D45⟩
 have K35 := K3.drewn D45 hneg
 have K25 := K23.drewn D45 (by omega)
 have HO5 := own_drewn HOW D45 (by omega)
 have D5 := D3.trans D45
 have hsz5 := D45.k.1
 clear D45 D3 K3 K23 HOW
 by_cases c0 : r = 0
 ·have d0 : ((r : Int) == 0) = true := by rw [beq_iff_eq]; omega
  go_wp2_with fail
  refine (of_lit g (n + 7) 5 5 w0 w5 w5 _ _ D5.at (by rfl) (by rfl) (by omega) (by omega)).mono ?_
  rintro e w6 ⟨x, rfl, hx, D56⟩
  have K36 := K35.drewn D56 hneg
  have K26 := K25.drewn D56 (by omega)
  have HO6 := own_drewn HO5 D56 (by omega)
  have D6 := D5.trans D56
  clear D5 D56 K35 K25 HO5
  have kc3 := K36.cells
  go_upto_region 19 with fail
  have K37 := (Blk.put K36 0 (.string (B x)))
  have K27 := (Blk.far (p := ⟨g3, 0, none⟩) K26 hne2 (.string (B x)))
  have HO7 := (own_set HO6 hno 0 (.string (B x)))
  have D7 := (Drew.put D6 (b := g3) 0 (.string (B x)) hneg hw3 hs0)
  generalize (w6.setCell ⟨g3, 0, none⟩ (.string (B x))) = w7 at K37 K27 HO7 D7 ⊢
  clear kc3 K36 K26 HO6 D6
  have K37 : Blk _ g3 #[.string (B x), .string (B u.usr), .string (B u.pas), .int .i64 u.hk, .string (B u.hn), .int .i64 u.ha, .int .i64 u.port, (.slice A u.path.length c), .string (B u.opq), .bool u.hq, .string (B u.qry), .bool u.hf, .string (B u.frg)] := K37
  have kc3 := K37.cells
  have kc2 := K27.cells
  have HD := Lib.hid D7
  have HO := Lib.hid HO7
  clear D7 HO7
  go_wp2
  exact bodyPost_ret (results_cell_row rfl _ _ w.heap.size 27 _ (0, 0) _ rfl (Blk.put13 K27) Tryz.underlying27 rfl (by kernel_rfl)) rfl ⟨{ u with sch := x }, _, rfl, fit_sch sm (x := x) (by omega), q_mono (q_grown (own_q HO.out) (grown13 (g := w.heap.size) (grown_b (Below.refl _ _))) hw2) hg1, (Drew.put13 HD.out (by omega) (Nat.le_refl _) hs0).less (by omega)⟩
 have d0 : ((r : Int) == 0) = false := by rw [beq_eq_false_iff_ne]; omega
 by_cases c1 : r = 1
 ·have d1 : ((r : Int) == 1) = true := by rw [beq_iff_eq]; omega
  go_wp2_with fail
  refine (one_lit g (n + 7) 7 (-2) 65536 w0 w5 w5 _ _ D5.at (by rfl) (by rfl) (by omega) (by omega)).mono ?_
  rintro e w6 ⟨x, rfl, hx, D56⟩
  have K36 := K35.drewn D56 hneg
  have K26 := K25.drewn D56 (by omega)
  have HO6 := own_drewn HO5 D56 (by omega)
  have D6 := D5.trans D56
  clear D5 D56 K35 K25 HO5
  have kc3 := K36.cells
  go_upto_region 19 with fail
  have K37 := (Blk.put K36 6 (.int .i64 x))
  have K27 := (Blk.far (p := ⟨g3, 6, none⟩) K26 hne2 (.int .i64 x))
  have HO7 := (own_set HO6 hno 6 (.int .i64 x))
  have D7 := (Drew.put D6 (b := g3) 6 (.int .i64 x) hneg hw3 hs0)
  generalize (w6.setCell ⟨g3, 6, none⟩ (.int .i64 x)) = w7 at K37 K27 HO7 D7 ⊢
  clear kc3 K36 K26 HO6 D6
  have K37 : Blk _ g3 #[.string (B u.sch), .string (B u.usr), .string (B u.pas), .int .i64 u.hk, .string (B u.hn), .int .i64 u.ha, .int .i64 x, (.slice A u.path.length c), .string (B u.opq), .bool u.hq, .string (B u.qry), .bool u.hf, .string (B u.frg)] := K37
  have kc3 := K37.cells
  have kc2 := K27.cells
  have HD := Lib.hid D7
  have HO := Lib.hid HO7
  clear D7 HO7
  go_wp2
  exact bodyPost_ret (results_cell_row rfl _ _ w.heap.size 27 _ (0, 0) _ rfl (Blk.put13 K27) Tryz.underlying27 rfl (by kernel_rfl)) rfl ⟨{ u with port := x }, _, rfl, fit_port sm (x := x) (by omega), q_mono (q_grown (own_q HO.out) (grown13 (g := w.heap.size) (grown_b (Below.refl _ _))) hw2) hg1, (Drew.put13 HD.out (by omega) (Nat.le_refl _) hs0).less (by omega)⟩
 have d1 : ((r : Int) == 1) = false := by rw [beq_eq_false_iff_ne]; omega
 by_cases c2 : r = 2
 ·have d2 : ((r : Int) == 2) = true := by rw [beq_iff_eq]; omega
  have hpl := sm.pl
  go_upto_region 8 with fail
  have KA : Blk w5.drew g3 _ := K35.below (below_drew (Below.refl _ _))
  have KB := KA.below (below_alloc (Below.refl _ w5.drew) (.cells #[.string ⟨#[]⟩, .string ⟨#[46, 46]⟩, .string ⟨#[97]⟩, .string ⟨#[97, 47, 98]⟩, .string ⟨#[97, 32, 98]⟩, .string ⟨#[63]⟩] 9))
  have DA : Drew w1 w1 w1 g 0 ∨ True := .inr trivial
  have D5d : Drew w0 w w5.drew g (n + 8) := D5.below (below_drew (Below.refl _ _))
  have K2d : Blk w5.drew w.heap.size _ := K25.below (below_drew (Below.refl _ _))
  have HOd := own_below HO5 (below_drew (Below.refl _ _))
  clear DA
  have ka := KA.cells.1
  have kb := KB.cells.1
  have kb2 := (Blk.cells (Blk.below (Blk.below K35 (below_alloc (Below.refl _ w5) (.cells #[.string ⟨#[]⟩, .string ⟨#[46, 46]⟩, .string ⟨#[97]⟩, .string ⟨#[97, 47, 98]⟩, .string ⟨#[97, 32, 98]⟩, .string ⟨#[63]⟩] 9))) (below_drew (Below.refl _ _)))).1
  have hnews : ∀ (W : World) (x : Bs) (j : Nat) (u : Value), ([.string (B x)] : List Value)[j]? = some u → (W.alloc (.cells #[.string (B x)] 9)).cell? ((⟨W.heap.size, 0, none⟩ : Addr).add j) = some u := fun W x => cell_one_new W _ _
  have hone : ∀ (x : Bs), ∀ u ∈ ([.string (B x)] : List Value), u.oneCell' = true := fun x u hu => by simp at hu; subst hu; rfl
  have hml : u.path.length + 1 ≤ maxLen := by unfold maxLen; omega
  go_region_law (first | ((go_simp; go_wp2_with (go_at_call 49; refine (of_lit g (n + 7) 3 6 w0 w5.drew w5.drew _ _ ?sa ?sb ?sc ?sd ?se).mono ?_; (case sa => exact D5d.at); (case sb => rfl); (case sc => rfl); (case sd => omega); (case se => omega); rintro e w6 ⟨x, rfl, hx, D56⟩; have K36 := KA.drewn D56 hneg; have K26 := K2d.drewn D56 (by omega); have HO6 := own_drewn HOd D56 (by omega); have D6 := D5d.trans D56; have hs6 : w5.heap.size ≤ w6.heap.size := D56.k.1; have kc := K36.cells.1; have ke := (K36.below (below_alloc (Below.refl _ w6) (.cells #[.string (B x)] 9))).cells.1); fail_if_success (case' h_1 => skip))) | ((refine step_append_lies _ (by rfl) _ _ _ (by rfl) w2.heap.size 9 i0 (.string ⟨#[]⟩) 1 16 Tryz.underlying25 hi hz0 hz1 hz2 (by rfl) (by decide) _ _ _ (by rfl) (HO6.alloc _) ⟨w6.heap.size, 0, none⟩ 1 1 [.string (B x)] (by rfl) (by rfl) (hnews w6 x) (hone x) (by omega) hml (by omega) (by simp; omega) _ rfl ?_; intro g7 cap7 w7 hown7 hgrow7 hat7 hlt7; have K37 : Blk w7 g3 _ := blk_grown (K36.below (below_alloc (Below.refl _ w6) (.cells #[.string (B x)] 9))) hgrow7 (fun q => (hno _ q.symm) rfl); have kh := K37.cells)))
  all_goals
   have K27 : Blk w7 w.heap.size _ := blk_grown (K26.below (below_alloc (Below.refl _ w6) (.cells #[.string (B x)] 9))) hgrow7 (fun q => by have := (own_lt HO6 _ q.symm).1; omega)
   have hno7 : ∀ k, (Value.slice (some ⟨g7, 0, none⟩) (u.path.length + 1) cap7).ownBlock = some k → k ≠ g3 := fun k hk => by
    obtain rfl : g7 = k := Option.some.inj hk
    rcases hat7 with q | q
    ·exact hno _ q
    ·have q2 : g7 = w6.heap.size + 1 := by rw [q]; simp
     omega
   have hown8 : w7.ownsRow w2.heap.size 9 1 (.slice (some ⟨g7, 0, none⟩) (u.path.length + 1) cap7) (u.path ++ [x]).length (strV (u.path ++ [x])) := by rw [show (u.path ++ [x]).length = u.path.length + 1 by simp, strV_snoc]; exact hown7
   have D7 := (D6.alloc (.cells #[.string (B x)] 9)).grown hgrow7 (fun b hb => by have := (own_lt HO6 b hb).1; exact ⟨by omega, by omega⟩) hs0
   go_upto_region 19 with fail
   have K38 := Blk.put K37 7 (.slice (some ⟨g7, 0, none⟩) (u.path.length + 1) cap7)
   have K28 := Blk.far (p := ⟨g3, 7, none⟩) K27 hne2 (.slice (some ⟨g7, 0, none⟩) (u.path.length + 1) cap7)
   have HO8 := own_set hown8 hno7 7 (.slice (some ⟨g7, 0, none⟩) (u.path.length + 1) cap7)
   have D8 := Drew.put D7 (b := g3) 7 (.slice (some ⟨g7, 0, none⟩) (u.path.length + 1) cap7) hneg hw3 hs0
   generalize w7.setCell _ _ = w8 at K38 K28 HO8 D8 ⊢
   have K38 : Blk _ g3 #[.string (B u.sch), .string (B u.usr), .string (B u.pas), .int .i64 u.hk, .string (B u.hn), .int .i64 u.ha, .int .i64 u.port, (.slice (some ⟨g7, 0, none⟩) (u.path.length + 1) cap7), .string (B u.opq), .bool u.hq, .string (B u.qry), .bool u.hf, .string (B u.frg)] := K38
   have K28 : Blk _ w.heap.size #[.string ⟨#[]⟩, .string ⟨#[]⟩, .string ⟨#[]⟩, .int .i64 0, .string ⟨#[]⟩, .int .i64 0, .int .i64 0, .slice none 0 0, .string ⟨#[]⟩, .bool false, .string ⟨#[]⟩, .bool false, .string ⟨#[]⟩] := K28
   clear ka kb kb2 kc ke kh K37 K27 K36 K26 KA KB HOd HO6 K2d hown8 hown7 hgrow7 hat7 D7 D6 D5d D56 hnews hone
   have kc3 := K38.cells
   have kc2 := K28.cells
   have HD := Lib.hid D8
   have HO := Lib.hid HO8
   clear D8 HO8
   go_wp2
   exact bodyPost_ret (results_cell_row rfl _ _ w.heap.size 27 _ (0, 0) _ rfl (Blk.put13 K28) Tryz.underlying27 rfl (by kernel_rfl)) rfl ⟨{ u with path := u.path ++ [x] }, _, rfl, fit_path sm (x := x) (by omega), q_mono (q_grown (own_q HO.out) (grown13 (g := w.heap.size) (grown_b (Below.refl _ _))) hw2) hg1, (Drew.put13 HD.out (by omega) (Nat.le_refl _) hs0).less (by omega)⟩
 have d2 : ((r : Int) == 2) = false := by rw [beq_eq_false_iff_ne]; omega
 by_cases c3 : r = 3
 ·have d3 : ((r : Int) == 3) = true := by rw [beq_iff_eq]; omega
  go_wp2_with fail
  refine (of_lit g (n + 7) 3 4 w0 w5 w5 _ _ D5.at (by rfl) (by rfl) (by omega) (by omega)).mono ?_
  rintro e w6 ⟨x, rfl, hx, D56⟩
  have K36 := K35.drewn D56 hneg
  have K26 := K25.drewn D56 (by omega)
  have HO6 := own_drewn HO5 D56 (by omega)
  have D6 := D5.trans D56
  clear D5 D56 K35 K25 HO5
  have kc3 := K36.cells
  go_upto_region 19 with fail
  have K37 := (Blk.put K36 10 (.string (B x)))
  have K27 := (Blk.far (p := ⟨g3, 10, none⟩) K26 hne2 (.string (B x)))
  have HO7 := (own_set HO6 hno 10 (.string (B x)))
  have D7 := (Drew.put D6 (b := g3) 10 (.string (B x)) hneg hw3 hs0)
  generalize (w6.setCell ⟨g3, 10, none⟩ (.string (B x))) = w7 at K37 K27 HO7 D7 ⊢
  clear kc3 K36 K26 HO6 D6
  have K37 : Blk _ g3 #[.string (B u.sch), .string (B u.usr), .string (B u.pas), .int .i64 u.hk, .string (B u.hn), .int .i64 u.ha, .int .i64 u.port, (.slice A u.path.length c), .string (B u.opq), .bool u.hq, .string (B x), .bool u.hf, .string (B u.frg)] := K37
  have kc3 := K37.cells
  have kc2 := K27.cells
  have HD := Lib.hid D7
  have HO := Lib.hid HO7
  clear D7 HO7
  go_wp2
  exact bodyPost_ret (results_cell_row rfl _ _ w.heap.size 27 _ (0, 0) _ rfl (Blk.put13 K27) Tryz.underlying27 rfl (by kernel_rfl)) rfl ⟨{ u with qry := x }, _, rfl, fit_qry sm (x := x) (by omega), q_mono (q_grown (own_q HO.out) (grown13 (g := w.heap.size) (grown_b (Below.refl _ _))) hw2) hg1, (Drew.put13 HD.out (by omega) (Nat.le_refl _) hs0).less (by omega)⟩
 have d3 : ((r : Int) == 3) = false := by rw [beq_eq_false_iff_ne]; omega
 by_cases c4 : r = 4
 ·have d4 : ((r : Int) == 4) = true := by rw [beq_iff_eq]; omega
  go_wp2_with fail
  refine (host_draw g (n + 5) w0 w5 (D5.at.less (by omega))).mono ?_
  rintro e w6 ⟨hk, hn, ha, rfl, hx, D56⟩
  have K36 := K35.drewn D56 hneg
  have K26 := K25.drewn D56 (by omega)
  have HO6 := own_drewn HO5 D56 (by omega)
  have D6 := D5.trans D56
  clear D5 D56 K35 K25 HO5
  have kc3 := K36.cells
  go_upto_region 19 with fail
  have K37 := (Blk.put (Blk.put (Blk.put K36 3 (.int .i64 hk)) 4 (.string (B hn))) 5 (.int .i64 ha))
  have K27 := (Blk.far (p := ⟨g3, 5, none⟩) (Blk.far (p := ⟨g3, 4, none⟩) (Blk.far (p := ⟨g3, 3, none⟩) K26 hne2 (.int .i64 hk)) hne2 (.string (B hn))) hne2 (.int .i64 ha))
  have HO7 := (own_set (own_set (own_set HO6 hno 3 (.int .i64 hk)) hno 4 (.string (B hn))) hno 5 (.int .i64 ha))
  have D7 := (Drew.put (Drew.put (Drew.put D6 (b := g3) 3 (.int .i64 hk) hneg hw3 hs0) (b := g3) 4 (.string (B hn)) hneg hw3 hs0) (b := g3) 5 (.int .i64 ha) hneg hw3 hs0)
  generalize (((w6.setCell ⟨g3, 3, none⟩ (.int .i64 hk)).setCell ⟨g3, 4, none⟩ (.string (B hn))).setCell ⟨g3, 5, none⟩ (.int .i64 ha)) = w7 at K37 K27 HO7 D7 ⊢
  clear kc3 K36 K26 HO6 D6
  have K37 : Blk _ g3 #[.string (B u.sch), .string (B u.usr), .string (B u.pas), .int .i64 hk, .string (B hn), .int .i64 ha, .int .i64 u.port, (.slice A u.path.length c), .string (B u.opq), .bool u.hq, .string (B u.qry), .bool u.hf, .string (B u.frg)] := K37
  have kc3 := K37.cells
  have kc2 := K27.cells
  have HD := Lib.hid D7
  have HO := Lib.hid HO7
  clear D7 HO7
  go_wp2
  exact bodyPost_ret (results_cell_row rfl _ _ w.heap.size 27 _ (0, 0) _ rfl (Blk.put13 K27) Tryz.underlying27 rfl (by kernel_rfl)) rfl ⟨{ u with hk := hk, hn := hn, ha := ha }, _, rfl, fit_host sm hx, q_mono (q_grown (own_q HO.out) (grown13 (g := w.heap.size) (grown_b (Below.refl _ _))) hw2) hg1, (Drew.put13 HD.out (by omega) (Nat.le_refl _) hs0).less (by omega)⟩
 have d4 : ((r : Int) == 4) = false := by rw [beq_eq_false_iff_ne]; omega
 by_cases c5 : r = 5
 ·have d5 : ((r : Int) == 5) = true := by rw [beq_iff_eq]; omega
  obtain ⟨w6, hw6⟩ : ∃ w6, w6 = w5 := ⟨_, rfl⟩
  subst hw6
  have K36 := K35; have K26 := K25; have HO6 := HO5; have D6 := D5
  clear D5 K35 K25 HO5
  have kc3 := K36.cells
  go_upto_region 19 with fail
  have K37 := (Blk.put K36 11 (.bool !u.hf))
  have K27 := (Blk.far (p := ⟨g3, 11, none⟩) K26 hne2 (.bool !u.hf))
  have HO7 := (own_set HO6 hno 11 (.bool !u.hf))
  have D7 := (Drew.put D6 (b := g3) 11 (.bool !u.hf) hneg hw3 hs0)
  generalize (w6.setCell ⟨g3, 11, none⟩ (.bool !u.hf)) = w7 at K37 K27 HO7 D7 ⊢
  clear kc3 K36 K26 HO6 D6
  have K37 : Blk _ g3 #[.string (B u.sch), .string (B u.usr), .string (B u.pas), .int .i64 u.hk, .string (B u.hn), .int .i64 u.ha, .int .i64 u.port, (.slice A u.path.length c), .string (B u.opq), .bool u.hq, .string (B u.qry), .bool !u.hf, .string (B u.frg)] := K37
  have kc3 := K37.cells
  have kc2 := K27.cells
  have HD := Lib.hid D7
  have HO := Lib.hid HO7
  clear D7 HO7
  go_wp2
  exact bodyPost_ret (results_cell_row rfl _ _ w.heap.size 27 _ (0, 0) _ rfl (Blk.put13 K27) Tryz.underlying27 rfl (by kernel_rfl)) rfl ⟨{ u with hf := !u.hf }, _, rfl, fit_hf sm _, q_mono (q_grown (own_q HO.out) (grown13 (g := w.heap.size) (grown_b (Below.refl _ _))) hw2) hg1, (Drew.put13 HD.out (by omega) (Nat.le_refl _) hs0).less (by omega)⟩
 have d5 : ((r : Int) == 5) = false := by rw [beq_eq_false_iff_ne]; omega
 by_cases c6 : r = 6
 ·have d6 : ((r : Int) == 6) = true := by rw [beq_iff_eq]; omega
  go_wp2_with fail
  refine (of_lit g (n + 7) 3 4 w0 w5 w5 _ _ D5.at (by rfl) (by rfl) (by omega) (by omega)).mono ?_
  rintro e w6 ⟨x, rfl, hx, D56⟩
  have K36 := K35.drewn D56 hneg
  have K26 := K25.drewn D56 (by omega)
  have HO6 := own_drewn HO5 D56 (by omega)
  have D6 := D5.trans D56
  clear D5 D56 K35 K25 HO5
  have kc3 := K36.cells
  go_upto_region 19 with fail
  have K37 := (Blk.put K36 1 (.string (B x)))
  have K27 := (Blk.far (p := ⟨g3, 1, none⟩) K26 hne2 (.string (B x)))
  have HO7 := (own_set HO6 hno 1 (.string (B x)))
  have D7 := (Drew.put D6 (b := g3) 1 (.string (B x)) hneg hw3 hs0)
  generalize (w6.setCell ⟨g3, 1, none⟩ (.string (B x))) = w7 at K37 K27 HO7 D7 ⊢
  clear kc3 K36 K26 HO6 D6
  have K37 : Blk _ g3 #[.string (B u.sch), .string (B x), .string (B u.pas), .int .i64 u.hk, .string (B u.hn), .int .i64 u.ha, .int .i64 u.port, (.slice A u.path.length c), .string (B u.opq), .bool u.hq, .string (B u.qry), .bool u.hf, .string (B u.frg)] := K37
  have kc3 := K37.cells
  have kc2 := K27.cells
  have HD := Lib.hid D7
  have HO := Lib.hid HO7
  clear D7 HO7
  go_wp2
  exact bodyPost_ret (results_cell_row rfl _ _ w.heap.size 27 _ (0, 0) _ rfl (Blk.put13 K27) Tryz.underlying27 rfl (by kernel_rfl)) rfl ⟨{ u with usr := x }, _, rfl, fit_usr sm (x := x) (by omega), q_mono (q_grown (own_q HO.out) (grown13 (g := w.heap.size) (grown_b (Below.refl _ _))) hw2) hg1, (Drew.put13 HD.out (by omega) (Nat.le_refl _) hs0).less (by omega)⟩
 have d6 : ((r : Int) == 6) = false := by rw [beq_eq_false_iff_ne]; omega
 by_cases c7 : r = 7
 ·have d7 : ((r : Int) == 7) = true := by rw [beq_iff_eq]; omega
  go_wp2_with fail
  refine (of_lit g (n + 7) 3 4 w0 w5 w5 _ _ D5.at (by rfl) (by rfl) (by omega) (by omega)).mono ?_
  rintro e w6 ⟨x, rfl, hx, D56⟩
  have K36 := K35.drewn D56 hneg
  have K26 := K25.drewn D56 (by omega)
  have HO6 := own_drewn HO5 D56 (by omega)
  have D6 := D5.trans D56
  clear D5 D56 K35 K25 HO5
  have kc3 := K36.cells
  go_upto_region 19 with fail
  have K37 := (Blk.put K36 8 (.string (B x)))
  have K27 := (Blk.far (p := ⟨g3, 8, none⟩) K26 hne2 (.string (B x)))
  have HO7 := (own_set HO6 hno 8 (.string (B x)))
  have D7 := (Drew.put D6 (b := g3) 8 (.string (B x)) hneg hw3 hs0)
  generalize (w6.setCell ⟨g3, 8, none⟩ (.string (B x))) = w7 at K37 K27 HO7 D7 ⊢
  clear kc3 K36 K26 HO6 D6
  have K37 : Blk _ g3 #[.string (B u.sch), .string (B u.usr), .string (B u.pas), .int .i64 u.hk, .string (B u.hn), .int .i64 u.ha, .int .i64 u.port, (.slice A u.path.length c), .string (B x), .bool u.hq, .string (B u.qry), .bool u.hf, .string (B u.frg)] := K37
  have kc3 := K37.cells
  have kc2 := K27.cells
  have HD := Lib.hid D7
  have HO := Lib.hid HO7
  clear D7 HO7
  go_wp2
  exact bodyPost_ret (results_cell_row rfl _ _ w.heap.size 27 _ (0, 0) _ rfl (Blk.put13 K27) Tryz.underlying27 rfl (by kernel_rfl)) rfl ⟨{ u with opq := x }, _, rfl, fit_opq sm (x := x) (by omega), q_mono (q_grown (own_q HO.out) (grown13 (g := w.heap.size) (grown_b (Below.refl _ _))) hw2) hg1, (Drew.put13 HD.out (by omega) (Nat.le_refl _) hs0).less (by omega)⟩
 have d7 : ((r : Int) == 7) = false := by rw [beq_eq_false_iff_ne]; omega
 obtain ⟨w6, hw6⟩ : ∃ w6, w6 = w5 := ⟨_, rfl⟩
 subst hw6
 have K36 := K35; have K26 := K25; have HO6 := HO5; have D6 := D5
 clear D5 K35 K25 HO5
 go_upto_region 19 with fail
 have K37 := K36; have K27 := K26; have HO7 := HO6; have D7 := D6
 clear K36 K26 HO6 D6
 have K37 : Blk _ g3 #[.string (B u.sch), .string (B u.usr), .string (B u.pas), .int .i64 u.hk, .string (B u.hn), .int .i64 u.ha, .int .i64 u.port, (.slice A u.path.length c), .string (B u.opq), .bool u.hq, .string (B u.qry), .bool u.hf, .string (B u.frg)] := K37
 have kc3 := K37.cells
 have kc2 := K27.cells
 have HD := Lib.hid D7
 have HO := Lib.hid HO7
 clear D7 HO7
 go_wp2
 exact bodyPost_ret (results_cell_row rfl _ _ w.heap.size 27 _ (0, 0) _ rfl (Blk.put13 K27) Tryz.underlying27 rfl (by kernel_rfl)) rfl ⟨u, _, rfl, sm.fit, q_mono (q_grown (own_q HO.out) (grown13 (g := w.heap.size) (grown_b (Below.refl _ _))) hw2) hg1, (Drew.put13 HD.out (by omega) (Nat.le_refl _) hs0).less (by omega)⟩
end Go.Proofs.YtopcpbokfngpeaaGreatDoor.H
/- The draws as the laws call them: a code that reads as bytes gives a text, or an address whose texts are not too long. Conditions: each theorem's own. -/
set_option linter.unusedVariables false
namespace Go.Proofs.YtopcpbokfngpeaaGreatDoor.H
open Go.RowKit Go.Proofs.YtopcpbokfngpeaaGreatDoorW.PrintWords Go.Proofs.YtopcpbokfngpeaaGreatDoor.Base Go.Proofs.YtopcpbokfngpeaaGreatDoor.Pure Go.Proofs.YtopcpbokfngpeaaGreatDoor.Lh Go.Proofs.YtopcpbokfngpeaaGreatDoor.Lp
def CodeRow (w : World) (a : Option Addr) (len cap : Nat) (zs : List Int) : Prop :=
 (a = none ∧ len = 0 ∧ cap = 0 ∧ zs = []) ∨ ∃ x, a = some x ∧ len ≤ cap ∧ cap ≤ maxLen ∧ zs.length = cap ∧ (∀ i, i < zs.length → w.cell? (x.add i) = some (.int .u8 (zs.getD i 0))) ∧ ∀ n ∈ zs, (Lit.int .u8 n).wf = true
theorem u_new (w : World) (cs : Array Value) : Blk (w.alloc (.cells cs 27)) w.heap.size cs ∧ Below w.heap.size w (w.alloc (.cells cs 27)) := ⟨blk_new w _, below_alloc (Below.refl _ _) _⟩
theorem CodeRow.below {w w1 : World} {a : Option Addr} {len cap : Nat} {zs : List Int} (h : CodeRow w a len cap zs) (hb : Below w.heap.size w w1) : CodeRow w1 a len cap zs := by
 rcases h with h | ⟨x, h1, h2, h3, h4, h5, h6⟩
 ·exact .inl h
 ·exact .inr ⟨x, h1, h2, h3, h4, fun i hi => pw_cell_below hb (h5 i hi), h6⟩
theorem open_draw (a0 : Option Addr) (len0 cap0 : Nat) (z0 : List Int) (w : World) (w0 : CodeRow w a0 len0 cap0 z0) :
  Calls Tryz.prog 33 #[.slice a0 len0 cap0] w fun e w' => ∃ g, e = .returned (.pointer (some ⟨g, 0, none⟩)) ∧ w.heap.size ≤ g ∧ Drew w w' w' g 1000000 ∧ Below w.heap.size w w' := by
 obtain ⟨l0, rfl, hr0, hm0, hw0, hc0⟩ := ReadsInt.ofRowC w0
 obtain ⟨s, e, hok⟩ := l1Open_ok l0 hw0 1000000 (by omega)
 refine (spec_l1Open.calls a0 cap0 l0 s 0 w w (Below.refl _ _) (Kd.C_of_reads (d := (0 : Int)) (h1 := fun _ => rfl) hr0) hc0 e).mono ?_
 rintro e w' ⟨g, rfl, hI, hB, hB2⟩
 have hr : Rd w w' g 1000000 := ⟨s, 0, hI, hok⟩
 exact ⟨g, rfl, hr.ge, Drew.refl hr hB, hB⟩
set_option maxHeartbeats 2000000 in
set_option maxRecDepth 100000 in
theorem code_DrawOriginOf (a0 : Option Addr) (len0 cap0 : Nat) (z0 : List Int) (w : World) (w0 : CodeRow w a0 len0 cap0 z0) :
  Calls Tryz.prog 20 #[.slice a0 len0 cap0] w fun e w' => ∃ u pv, e = .returned (.agg (uCells u pv)) ∧ FitP u ∧ PathAt w' pv u.path ∧ Below w.heap.size w w' := by
 have K2 : Blk (w.alloc (.cells zz 27)) w.heap.size zz := zz_new w
 have hb1 : Below w.heap.size w (w.alloc (.cells zz 27)) := below_alloc (Below.refl _ _) _
 have w1 := w0.below hb1
 unfold zz at K2 hb1 w1
 clear w0
 go_enter Tryz.func20, Tryz.ntmps20
 go_upto_region 1 with fail
 generalize w.alloc _ = w1' at K2 hb1 w1 ⊢
 have hlt := K2.lt
 go_wp2_with fail
 refine (open_draw a0 len0 cap0 z0 w1' w1).mono ?_
 rintro e w2 ⟨g, rfl, hg, D2, hb2⟩
 have K22 := K2.below hb2
 clear K2 w1
 go_wp2_with fail
 refine (anyUrl_draw g 1000 w1' w2 (D2.less (by omega))).mono ?_
 rintro e w3 ⟨u, pv, rfl, fit, hq, D3⟩
 obtain ⟨A, c, rfl, _⟩ := q_slice hq
 have K23 := K22.drewn D3 (by omega)
 have kc2 := K23.cells
 have HQ := Lib.hid hq
 have HB := Lib.hid (below_then hb1 hb1.size D3.b)
 clear hq D3 D2 hb2 K22
 unfold uCells at *
 go_wp2
 exact bodyPost_ret (results_cell_row rfl _ _ w.heap.size 27 _ (0, 0) _ rfl (Blk.put13 K23) Tryz.underlying27 rfl (by kernel_rfl)) rfl ⟨u, _, rfl, fit, pathAt_q (q_grown HQ.out (grown13 (g := w.heap.size) (grown_b (Below.refl _ _))) (by omega)), below13 HB.out (Nat.le_refl _)⟩
end Go.Proofs.YtopcpbokfngpeaaGreatDoor.H
/- laws.toHost, laws.toStringS, laws.toUrl, laws.szHost, laws.szStringS, laws.szUrl: what the calls come to. No condition. -/
set_option linter.unusedVariables false
namespace Go.Proofs.YtopcpbokfngpeaaGreatDoor.H
open Go.RowKit Go.Proofs.YtopcpbokfngpeaaGreatDoorW.PrintWords Go.Proofs.YtopcpbokfngpeaaGreatDoor.Base Go.Proofs.YtopcpbokfngpeaaGreatDoor.Pure
theorem cells13 {w : World} {g : Nat} {t : TypeId} {c0 c1 c2 c3 c4 c5 c6 c7 c8 c9 c10 c11 c12 : Value} (h : w.heap[g]? = some (.cells #[c0, c1, c2, c3, c4, c5, c6, c7, c8, c9, c10, c11, c12] t (0, 0))) : C13 w g c0 c1 c2 c3 c4 c5 c6 c7 c8 c9 c10 c11 c12 :=
 ⟨(blk_cell h 0).trans rfl, (blk_cell h 1).trans rfl, (blk_cell h 2).trans rfl, (blk_cell h 3).trans rfl, (blk_cell h 4).trans rfl, (blk_cell h 5).trans rfl, (blk_cell h 6).trans rfl, (blk_cell h 7).trans rfl, (blk_cell h 8).trans rfl, (blk_cell h 9).trans rfl, (blk_cell h 10).trans rfl, (blk_cell h 11).trans rfl, (blk_cell h 12).trans rfl⟩
def szU (u : Ur) : Nat := u.sch.length + u.usr.length + u.pas.length + u.hn.length + (u.path.length + (u.path.map List.length).sum) + u.opq.length + u.qry.length + u.frg.length
def sumT (ps : List Bs) : Nat := (ps.map List.length).sum
structure WfU (u : Ur) : Prop where
 a : u.sch.length ≤ 9223372036854775807
 b : u.usr.length ≤ 9223372036854775807
 c : u.pas.length ≤ 9223372036854775807
 d : u.hn.length ≤ 9223372036854775807
 e : u.opq.length ≤ 9223372036854775807
 f : u.qry.length ≤ 9223372036854775807
 g : u.frg.length ≤ 9223372036854775807
 p : u.path.length ≤ 9223372036854775807
 s : ∀ x ∈ u.path, x.length ≤ 9223372036854775807
 port : -9223372036854775808 ≤ u.port ∧ u.port ≤ 9223372036854775807
def szV (u : Ur) (n : Int) : Int := if (szU u : Int) ≤ n then n - (szU u : Int) else -1
end Go.Proofs.YtopcpbokfngpeaaGreatDoor.H
/- OriginOf of both sides: what the calls come to; the package-level variables read as their tables. -/
set_option linter.unusedVariables false
namespace Go.Proofs.YtopcpbokfngpeaaGreatDoor.H
open Go.RowKit Go.Proofs.YtopcpbokfngpeaaGreatDoorW.PrintWords Go.Proofs.YtopcpbokfngpeaaGreatDoor.Base Go.Proofs.YtopcpbokfngpeaaGreatDoor.Pure
structure Og where
 sch : Bs
 hk : Int
 hn : Bs
 ha : Int
 port : Int
def Og.zero : Og := ⟨[], 0, [], 0, 0⟩
def oCells (o : Og) : Array Value := #[.string (B o.sch), .int .i64 o.hk, .string (B o.hn), .int .i64 o.ha, .int .i64 o.port]
def originU (u : Ur) : Og := if ownP u.sch < 0 then Og.zero else ⟨u.sch, u.hk, u.hn, u.ha, portU u⟩
def originV (u : Ur) : Og := if okU u = true then originU u else Og.zero
theorem ok_kind (u : Ur) (h : okU u = true) : u.hk = 0 ↔ ownP u.sch < 0 := by
 rcases (okU_good u h).1 with g | g
 ·have e : u.hk = 0 := by rw [g.rest]; rfl
  exact ⟨fun _ => g.own, fun _ => e⟩
 ·have h1 := (http_sch u.sch g.s).2.2
  have h2 := g.a.host.kind
  exact ⟨fun e => absurd e h2, fun q => absurd q (by omega)⟩
theorem two_objs (w : World) (o1 o2 : Obj) : ((w.alloc o1).alloc o2).heap[w.heap.size]? = some o1 ∧ ((w.alloc o1).alloc o2).heap[w.heap.size + 1]? = some o2 ∧ Below w.heap.size w ((w.alloc o1).alloc o2) := by
 have e1 : (w.alloc o1).heap.size = w.heap.size + 1 := by simp
 have h2 := blk_new (w.alloc o1) o2
 rw [e1] at h2
 exact ⟨blk_below (blk_new w o1) (below_alloc (Below.refl _ _) o2), h2, ((Below.refl _ w).alloc (Nat.le_refl _) _).alloc (by omega) _⟩
theorem cells5 {w : World} {g : Nat} {t : TypeId} {c0 c1 c2 c3 c4 : Value} (h : w.heap[g]? = some (.cells #[c0, c1, c2, c3, c4] t (0, 0))) :
  (w.cell? ⟨g, 0, none⟩ = some c0 ∧ w.cell? ⟨g, 1, none⟩ = some c1 ∧ w.cell? ⟨g, 2, none⟩ = some c2 ∧ w.cell? ⟨g, 3, none⟩ = some c3 ∧ w.cell? ⟨g, 4, none⟩ = some c4) ∧
  (w.frozen? ⟨g, 0, none⟩ = false ∧ w.frozen? ⟨g, 1, none⟩ = false ∧ w.frozen? ⟨g, 2, none⟩ = false ∧ w.frozen? ⟨g, 3, none⟩ = false ∧ w.frozen? ⟨g, 4, none⟩ = false) :=
 ⟨⟨(blk_cell h 0).trans rfl, (blk_cell h 1).trans rfl, (blk_cell h 2).trans rfl, (blk_cell h 3).trans rfl, (blk_cell h 4).trans rfl⟩, ⟨blk_frozen h 0, blk_frozen h 1, blk_frozen h 2, blk_frozen h 3, blk_frozen h 4⟩⟩
theorem put5 {w : World} {g : Nat} {t : TypeId} {c0 c1 c2 c3 c4 v0 v1 v2 v3 v4 : Value} (h : w.heap[g]? = some (.cells #[c0, c1, c2, c3, c4] t (0, 0))) :
  (((((w.setCell ⟨g, 0, none⟩ v0).setCell ⟨g, 1, none⟩ v1).setCell ⟨g, 2, none⟩ v2).setCell ⟨g, 3, none⟩ v3).setCell ⟨g, 4, none⟩ v4).heap[g]? = some (.cells #[v0, v1, v2, v3, v4] t (0, 0)) := by
 have h0 := blk_set h 0 v0
 have h1 := blk_set h0 1 v1
 have h2 := blk_set h1 2 v2
 have h3 := blk_set h2 3 v3
 exact blk_set h3 4 v4
theorem below5 {w0 w : World} {g : Nat} {v0 v1 v2 v3 v4 : Value} (h : Below w0.heap.size w0 w) (hg : w0.heap.size ≤ g) : Below w0.heap.size w0 (((((w.setCell ⟨g, 0, none⟩ v0).setCell ⟨g, 1, none⟩ v1).setCell ⟨g, 2, none⟩ v2).setCell ⟨g, 3, none⟩ v3).setCell ⟨g, 4, none⟩ v4) := ((((h.setCell hg v0).setCell hg v1).setCell hg v2).setCell hg v3).setCell hg v4
set_option maxHeartbeats 2000000 in
set_option maxRecDepth 100000 in
theorem specOrigin_walk (u : Ur) (pv : Value) (w : World) :
  Calls Tryz.prog 60 #[.agg (uCells u pv)] w fun e w' => e = .returned (.agg (oCells (originU u))) ∧ Below w.heap.size w w' := by
 have HOW := Lib.hid fun w1 => specOwn_walk u.sch w1
 obtain ⟨K1, K2, HB⟩ := two_objs w (.cells (uCells u pv) 27) (.cells #[.string ⟨#[]⟩, .int .i64 0, .string ⟨#[]⟩, .int .i64 0, .int .i64 0] 36)
 have HO : Hid (originU u = if ownP u.sch < 0 then Og.zero else ⟨u.sch, u.hk, u.hn, u.ha, if 0 ≤ u.port then u.port else ownP u.sch⟩) := Lib.hid rfl
 generalize originU u = z at HO ⊢
 unfold uCells at *
 go_enter Tryz.func60, Tryz.ntmps60
 go_upto_region 1 with fail
 generalize (w.alloc _).alloc _ = w1 at K1 K2 HB ⊢
 have hge : w.heap.size ≤ w.heap.size + 1 := by omega
 generalize w.heap.size + 1 = g at K2 hge ⊢
 have kc1 := cells13 K1
 have kc2 := cells5 K2
 go_wp2_with fail
 refine (HOW.out _).mono ?_
 rintro e w2 ⟨rfl, hw2⟩
 subst w2
 by_cases ho : ownP u.sch < 0
 ·have hd : decide (ownP u.sch < 0) = true := decide_eq_true ho
  have HX : Hid (z = Og.zero) := Lib.hid (by rw [HO.out, if_pos ho])
  go_wp2
  refine bodyPost_ret (results_cell_row rfl _ _ g 36 _ (0, 0) _ rfl (put5 K2) Tryz.underlying36 rfl (by kernel_rfl)) rfl ⟨by rw [HX.out]; rfl, below5 HB hge⟩
 ·have hd : decide (ownP u.sch < 0) = false := decide_eq_false ho
  by_cases hp : u.port < 0
  ·have hd2 : decide (u.port < 0) = true := decide_eq_true hp
   have HX : Hid (z = ⟨u.sch, u.hk, u.hn, u.ha, ownP u.sch⟩) := Lib.hid (by rw [HO.out, if_neg ho, if_neg (by omega)])
   go_wp2_with fail
   refine (HOW.out _).mono ?_
   rintro e w2 ⟨rfl, hw2⟩
   subst w2
   go_wp2
   refine bodyPost_ret (results_cell_row rfl _ _ g 36 _ (0, 0) _ rfl (put5 K2) Tryz.underlying36 rfl (by kernel_rfl)) rfl ⟨by rw [HX.out]; rfl, below5 HB hge⟩
  ·have hd2 : decide (u.port < 0) = false := decide_eq_false hp
   have HX : Hid (z = ⟨u.sch, u.hk, u.hn, u.ha, u.port⟩) := Lib.hid (by rw [HO.out, if_neg ho, if_pos (by omega)])
   go_wp2
   refine bodyPost_ret (results_cell_row rfl _ _ g 36 _ (0, 0) _ rfl (put5 K2) Tryz.underlying36 rfl (by kernel_rfl)) rfl ⟨by rw [HX.out]; rfl, below5 HB hge⟩
set_option maxHeartbeats 2000000 in
set_option maxRecDepth 100000 in
theorem specOriginOf_walk (u : Ur) (pv : Value) (w : World) (hu : FitP u) (hP : PathAt w pv u.path) :
  Calls Tryz.prog 22 #[.agg (uCells u pv)] w fun e w' => e = .returned (.agg (oCells (originV u))) ∧ Below w.heap.size w w' := by
 have HOK := Lib.hid fun w1 (hb : Below w.heap.size w w1) => specUrlOk_walk u pv w1 hu (hP.below hb)
 have HOR := Lib.hid fun w1 => specOrigin_walk u pv w1
 obtain ⟨K1, K2, HB⟩ := two_objs w (.cells (uCells u pv) 27) (.cells #[.string ⟨#[]⟩, .int .i64 0, .string ⟨#[]⟩, .int .i64 0, .int .i64 0] 36)
 have HO : Hid (originV u = if okU u = true then originU u else Og.zero) := Lib.hid rfl
 generalize originV u = z at HO ⊢
 generalize originU u = y at HO HOR
 unfold uCells at *
 go_enter Tryz.func22, Tryz.ntmps22
 go_upto_region 1 with fail
 generalize (w.alloc _).alloc _ = w1 at K1 K2 HB ⊢
 have hge : w.heap.size ≤ w.heap.size + 1 := by omega
 generalize w.heap.size + 1 = g at K2 hge ⊢
 have kc1 := cells13 K1
 go_wp2_with fail
 refine (HOK.out _ HB).mono ?_
 rintro e w2 ⟨rfl, hb2⟩
 have K12 := blk_below K1 hb2
 have K22 := blk_below K2 hb2
 have HB2 := below_then HB HB.size hb2
 clear kc1 K1 K2 HB hb2
 have kc1 := cells13 K12
 have kc2 := cells5 K22
 cases ho : okU u with
 | false =>
  have HX : Hid (z = Og.zero) := Lib.hid (by rw [HO.out, ho]; rfl)
  go_wp2
  refine bodyPost_ret (results_cell_row rfl _ _ g 36 _ (0, 0) _ rfl (put5 K22) Tryz.underlying36 rfl (by kernel_rfl)) rfl ⟨by rw [HX.out]; rfl, below5 HB2 hge⟩
 | true =>
  have HX : Hid (z = y) := Lib.hid (by rw [HO.out, ho]; rfl)
  clear kc2
  go_wp2_with fail
  refine (HOR.out _).mono ?_
  rintro e w3 ⟨rfl, hb3⟩
  have K23 := blk_below K22 hb3
  have HB3 := Lib.hid (below_then HB2 HB2.size hb3)
  clear kc1 K12 K22 HB2 hb3
  have kc2 := cells5 K23
  unfold oCells
  go_wp2
  refine bodyPost_ret (results_cell_row rfl _ _ g 36 _ (0, 0) _ rfl (put5 K23) Tryz.underlying36 rfl (by kernel_rfl)) rfl ⟨by rw [HX.out]; rfl, below5 HB3.out hge⟩
set_option maxHeartbeats 2000000 in
set_option maxRecDepth 100000 in
theorem implOriginOf_walk (u : Ur) (pv : Value) (w : World) (hu : FitP u) (hP : PathAt w pv u.path) (hT : Tabs w) :
  Calls Tryz.prog 21 #[.agg (uCells u pv)] w fun e w' => e = .returned (.agg (oCells (originV u))) ∧ Below w.heap.size w w' := by
 have HOK := Lib.hid fun w1 (hb : Below w.heap.size w w1) => implUrlOk_walk u pv w1 hu (hP.below hb) (hT.below hb)
 have HPO := Lib.hid fun w1 => implPort_walk u pv w1
 obtain ⟨K1, K2, HB⟩ := two_objs w (.cells (uCells u pv) 27) (.cells #[.string ⟨#[]⟩, .int .i64 0, .string ⟨#[]⟩, .int .i64 0, .int .i64 0] 36)
 have HO : Hid (originV u = if okU u = true then (if ownP u.sch < 0 then Og.zero else ⟨u.sch, u.hk, u.hn, u.ha, portU u⟩) else Og.zero) := Lib.hid rfl
 have HK := Lib.hid (ok_kind u)
 generalize originV u = z at HO ⊢
 generalize portU u = p at HO HPO
 unfold uCells at *
 clear hP hT
 go_enter Tryz.func21, Tryz.ntmps21
 go_upto_region 1 with fail
 generalize (w.alloc _).alloc _ = w1 at K1 K2 HB ⊢
 have hge : w.heap.size ≤ w.heap.size + 1 := by omega
 generalize w.heap.size + 1 = g at K2 hge ⊢
 have kc1 := cells13 K1
 go_wp2_with fail
 refine (HOK.out _ HB).mono ?_
 rintro e w2 ⟨rfl, hb2⟩
 have K12 := blk_below K1 hb2
 have K22 := blk_below K2 hb2
 have HB2 := below_then HB HB.size hb2
 clear kc1 K1 K2 HB hb2
 have kc1 := cells13 K12
 cases ho : okU u with
 | false =>
  have HX : Hid (z = Og.zero) := Lib.hid (by rw [HO.out, ho]; rfl)
  have kc2 := cells5 K22
  go_wp2
  refine bodyPost_ret (results_cell_row rfl _ _ g 36 _ (0, 0) _ rfl (put5 K22) Tryz.underlying36 rfl (by kernel_rfl)) rfl ⟨by rw [HX.out]; rfl, below5 HB2 hge⟩
 | true =>
  by_cases hk : u.hk = 0
  ·have HX : Hid (z = Og.zero) := Lib.hid (by rw [HO.out, ho, if_pos rfl, if_pos ((HK.out ho).1 hk)])
   have hke : (u.hk == 0) = true := by rw [hk]; rfl
   have kc2 := cells5 K22
   clear hk
   go_wp2
   refine bodyPost_ret (results_cell_row rfl _ _ g 36 _ (0, 0) _ rfl (put5 K22) Tryz.underlying36 rfl (by kernel_rfl)) rfl ⟨by rw [HX.out]; rfl, below5 HB2 hge⟩
  ·have HX : Hid (z = ⟨u.sch, u.hk, u.hn, u.ha, p⟩) := Lib.hid (by rw [HO.out, ho, if_pos rfl, if_neg fun q => hk ((HK.out ho).2 q)])
   have hke : (u.hk == 0) = false := by rw [beq_eq_false_iff_ne]; exact hk
   clear hk
   go_upto_region 3 with fail
   have D1 : w2.drew.heap[w.heap.size]? = _ := K12
   have kd1 := cells13 D1
   have HB3 := Lib.hid (below_drew HB2)
   clear kc1
   go_region_with ((go_at_call 39; refine (HPO.out _).mono ?_; rintro e w3 ⟨rfl, hb3⟩; have kz1 := cells13 (blk_below D1 hb3); have K23 := blk_below (w := w2.drew) K22 hb3; have kz2 := cells5 K23))
   all_goals
    have HB4 := Lib.hid (below_then HB3.out HB3.out.size hb3)
    go_wp2
    refine bodyPost_ret (results_cell_row rfl _ _ g 36 _ (0, 0) _ rfl (put5 K23) Tryz.underlying36 rfl (by kernel_rfl)) rfl ⟨by rw [HX.out]; rfl, below5 HB4.out hge⟩
end Go.Proofs.YtopcpbokfngpeaaGreatDoor.H
