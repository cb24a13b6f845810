/- Texts of this claim, joined: SUrlG, SUrlP, SUrlQ, SUrlR, HUrlV, HUrlL, HUrlX, HUrlJ, HUrlO. Conditions: each theorem's own. -/
import Derived.Test.YtndobphgeiamhaaGreatDoorA14
import Derived.Test.YtndobphgeiamhaaGreatDoorA12
import Derived.Test.YtndobphgeiamhaaGreatDoorA13
import Derived.Deep.OwnRows
import Derived.Deep.RegionWith
import Derived.Deep.Strs
import Derived.SliceStrings
import Derived.ChangeArms
import Derived.OpenShut
/- spec.l1Dec, spec.l3Put, spec.l3Fits, spec.UrlGet: what the calls come to. No condition. -/
set_option linter.unusedVariables false
namespace Go.Proofs.YtndobphgeiamhaaGreatDoor.H
open Go.RowKit Go.Proofs.YtndobphgeiamhaaGreatDoor.Lh Go.Proofs.YtndobphgeiamhaaGreatDoorW.PrintWords Go.Proofs.YtndobphgeiamhaaGreatDoorW.PrintLast Go.Proofs.YtndobphgeiamhaaGreatDoor.Base Go.Proofs.YtndobphgeiamhaaGreatDoor.Pure Go.Proofs.YtndobphgeiamhaaGreatDoor.Lp
theorem spec_Dec63 (n : Nat) (hn : n ≤ 9223372036854775807) : Ev (fun k => spec_l1Dec.f k (n : Int)) (B (Lib.decDigits n)) := by
 induction n using Nat.strongRecOn with
 | _ n ih =>
  refine Ev.step (fun k => by rw [spec_l1Dec.f]) ?_
  simp only [if_neg (show ¬ (n : Int) < -9223372036854775807 by omega), if_neg (show ¬ (n : Int) < 0 by omega)]
  by_cases h : n < 10
  ·simp only [if_pos (show (n : Int) < 10 by omega)]
   rw [dec_small h, ← digit_str n h]
   exact Ev.now _
  ·have e1 : wrap64 (Int.tdiv (n : Int) 10) = ((n / 10 : Nat) : Int) := by
    rw [Int.tdiv_eq_ediv_of_nonneg (by omega), w64 (by omega) (by omega)]; rfl
   have e2 : Int.tmod (n : Int) 10 = ((n % 10 : Nat) : Int) := by rw [Int.tmod_eq_emod_of_nonneg (by omega)]; rfl
   have hl := dec_len (n / 10)
   simp only [if_neg (show ¬ (n : Int) < 10 by omega), e1, e2]
   refine ev_bind (ih (n / 10) (by omega) (by omega)) ?_
   simp only [Option.bind_some, digit_str (n % 10) (by omega), B_size, List.length_singleton]
   simp only [if_pos (show (Lib.decDigits (n / 10)).length + 1 ≤ 9223372036854775807 by omega), B_append]
   rw [dec_big h]
   exact Ev.now _
theorem specDec_walk (n : Int) (h0 : 0 ≤ n) (h1 : n ≤ 9223372036854775807) (w : World) : Calls Tryz.prog 72 #[.int .i64 n] w fun e w' => e = .returned (.string (B (Lib.decDigits n.toNat))) ∧ Below w.heap.size w w' := by
 have e : n = ((n.toNat : Nat) : Int) := by omega
 obtain ⟨k, hk⟩ := (spec_Dec63 n.toNat (by omega)).rounds
 rw [← e] at hk
 exact spec_l1Dec.calls k n _ w hk
theorem tot_put : ∀ ps : List Bs, tot (ps.map B) ≤ (pathPut ps).length
 | [] => Nat.le_refl _
 | s :: t => by
  have := tot_put t
  have e : pathPut (s :: t) = 47 :: s ++ pathPut t := by simp [pathPut]
  have e2 : tot ((s :: t).map B) = s.length + tot (t.map B) := by simp [tot]
  rw [e, e2]; simp; omega
theorem specPathPut_walk (pv : Value) (ps : List Bs) (w : World) (h : PathAt w pv ps) (h2 : (pathPut ps).length ≤ 1048576) :
  Calls Tryz.prog 73 #[pv] w fun e w' => e = .returned (.string (B (pathPut ps))) ∧ Below w.heap.size w w' := by
 obtain ⟨A, c, rfl, hc, hk⟩ := h
 have e : segs (ps.map B) = ps := by unfold segs; rw [List.map_map]; exact (List.map_congr_left fun s _ => B_data s).trans (List.map_id ps)
 have h1 := pathPut_ge ps
 have h3 := tot_put ps
 obtain ⟨k, hk2⟩ := (spec_Put (ps.map B) (by simp; omega) (by omega)).rounds
 rw [e] at hk2
 have := spec_PathPut.calls k A c (ps.map B) _ w hk (by simpa using hc) hk2
 rw [List.length_map] at this
 exact this.mono fun e w' hh => ⟨hh.1, hh.2.below⟩
end Go.Proofs.YtndobphgeiamhaaGreatDoor.H
/- spec.l3Put: what the call comes to. No condition. -/
set_option linter.unusedVariables false
namespace Go.Proofs.YtndobphgeiamhaaGreatDoor.H
open Go.RowKit Go.Proofs.YtndobphgeiamhaaGreatDoorW.PrintWords Go.Proofs.YtndobphgeiamhaaGreatDoor.Base Go.Proofs.YtndobphgeiamhaaGreatDoor.Pure
set_option maxHeartbeats 4000000 in
set_option maxRecDepth 100000 in
theorem specPut_walk (u : Ur) (pv : Value) (w : World) (hu : Fit u) (hpp : (pathPut u.path).length ≤ 1048576) (hP : PathAt w pv u.path) :
    Calls Tryz.prog 52 #[.agg (uCells u pv)] w fun e w' => e = .returned (.string (B (putU u))) ∧ Below w.heap.size w w' := by
  have f7 := hostPV_len u.hk u.ha u.hn hu.hn
  have HPP := Lib.hid fun w1 (hb : Below w.heap.size w w1) => specPathPut_walk pv u.path w1 (hP.below hb) hpp
  have HHP := Lib.hid fun w1 => specHostPut_walk u.hk u.hn u.ha w1 hu.hn
  have HT : Hid (putU u = u.sch ++ [58] ++ (if ownP u.sch < 0 then u.opq else [47, 47] ++ userB u ++ hostPV u.hk u.hn u.ha ++ portB u.port ++ pathPut u.path) ++ tailB u) := Lib.hid rfl
  have HTL : Hid (tailB u = (if u.hq = true then 63 :: u.qry else []) ++ (if u.hf = true then 35 :: u.frg else [])) := Lib.hid rfl
  have HUB := Lib.hid (userB_e u)
  obtain ⟨hd, HHD⟩ : ∃ hd, Hid (hd = u.sch ++ [58] ++ (if ownP u.sch < 0 then u.opq else [47, 47] ++ userB u ++ hostPV u.hk u.hn u.ha ++ portB u.port ++ pathPut u.path)) := ⟨_, Lib.hid rfl⟩
  have HT2 : Hid (putU u = hd ++ tailB u) := Lib.hid (by rw [HT.out, HHD.out])
  have K0 : Blk (w.alloc (.cells (uCells u pv) 33)) w.heap.size (uCells u pv) := blk_new w _
  have HB0 := (Below.refl w.heap.size w).alloc (Nat.le_refl _) (.cells (uCells u pv) 33)
  have HOW := Lib.hid fun w1 => specOwn_walk u.sch w1
  have lu : (userB u).length ≤ 2097154 := by
    rw [HUB.out]
    have h1 := hu.us
    have h2 := hu.ps
    split
    · simp
    · split <;> simp <;> omega
  have lpo : (portB u.port).length ≤ 20 := by
    have := dec_len19 u.port hu.port.2
    unfold portB; split <;> simp; omega
  have lhd : hd.length ≤ 8000000 := by
    have h1 := hu.s
    have h2 := hu.o
    rw [HHD.out]
    split <;> simp <;> omega
  generalize putU u = x at HT2 ⊢
  generalize tailB u = tl at HT2 HTL
  obtain ⟨f1, f2, f3, f30, f4, f50, f51, f6, f60, f8⟩ := hu
  clear HT
  obtain ⟨sch, usr, pas, hk, hn, ha, port, path, opq, hq, qry, hf, frg⟩ := u
  unfold uCells at K0 HB0 ⊢
  dsimp only at *
  generalize userB _ = ub0 at HHD HUB lu
  generalize hostPV hk hn ha = hp at HHD HHP f7
  generalize pathPut path = pp at HHD HPP hpp f6
  have e58 : (⟨#[58]⟩ : ByteArray) = B [58] := rfl
  have e47 : (⟨#[47, 47]⟩ : ByteArray) = B [47, 47] := rfl
  have e64 : (⟨#[64]⟩ : ByteArray) = B [64] := rfl
  have e63 : (⟨#[63]⟩ : ByteArray) = B [63] := rfl
  have e35 : (⟨#[35]⟩ : ByteArray) = B [35] := rfl
  have e0 : (⟨#[]⟩ : ByteArray) = B [] := rfl
  have eap := bapp
  go_enter Tryz.func52, Tryz.ntmps52
  go_upto_region 1 with fail
  generalize w.alloc (.cells #[.string (B sch), .string (B usr), .string (B pas), .int .i64 hk, .string (B hn), .int .i64 ha, .int .i64 port, pv, .string (B opq), .bool hq, .string (B qry), .bool hf, .string (B frg)] 33) = w1 at K0 HB0 ⊢
  have kc := K0.cells
  go_wp2_with fail
  refine (HOW.out _).mono ?_
  rintro e w2 ⟨rfl, hw2⟩
  subst w2
  go_upto_if 10 with fail
  go_cut [3] (fun v wc => v = .string (B hd) ∧ ∃ w3, w3 = wc ∧ Blk w3 w.heap.size #[.string (B sch), .string (B usr), .string (B pas), .int .i64 hk, .string (B hn), .int .i64 ha, .int .i64 port, pv, .string (B opq), .bool hq, .string (B qry), .bool hf, .string (B frg)] ∧ Below w.heap.size w w3)
  case first =>
    by_cases ho : ownP sch < 0
    · have hb : decide (ownP sch < 0) = true := decide_eq_true ho
      have HX : Hid (hd = sch ++ [58] ++ opq) := Lib.hid (by rw [HHD.out, if_pos ho])
      have k1 : ¬ 9223372036854775807 < sch.length + 1 + opq.length := by omega
      go_wp2
      go_meet
      case rel => exact ⟨by rw [HX.out]; simp, _, rfl, K0, HB0⟩
    · have hb : decide (ownP sch < 0) = false := decide_eq_false ho
      have HX : Hid (hd = sch ++ [58] ++ ([47, 47] ++ ub0 ++ hp ++ portB port ++ pp)) := Lib.hid (by rw [HHD.out, if_neg ho])
      go_upto_region 5 with fail
      go_cut [24] (fun v wc => v = .bool (!(usr.isEmpty && pas.isEmpty)) ∧ w1 = wc)
      case first =>
        cases h1 : usr.isEmpty <;> cases h2 : pas.isEmpty
        all_goals
          go_wp2
          go_meet
          case rel => exact ⟨by simp [h1, h2], rfl⟩
      case rest =>
       obtain ⟨rfl, rfl⟩ := hcut
       go_upto_if 24 with fail
       go_cut [3] (fun v wc => v = .string (B (sch ++ [58, 47, 47] ++ ub0)) ∧ w1 = wc)
       case first =>
        cases h1 : usr.isEmpty <;> cases h2 : pas.isEmpty
        all_goals
          have HY := Lib.hid HUB.out
          rw [h1, h2] at HY
          go_wp2
          go_meet
          case rel => exact ⟨by rw [HY.out]; simp, rfl⟩
       case rest =>
        obtain ⟨rfl, rfl⟩ := hcut
        have f9 := dec_len19 port f8.2
        have HDE := Lib.hid fun h0 w1 => specDec_walk port h0 f8.2 w1
        have HPP1 : Hid (0 ≤ port → portB port = 58 :: Lib.decDigits port.toNat) := Lib.hid fun h => by unfold portB; rw [if_pos h]
        have HPN : Hid (¬ 0 ≤ port → portB port = []) := Lib.hid fun h => by unfold portB; rw [if_neg h]
        generalize Lib.decDigits port.toNat = dp at f9 HDE HPP1
        generalize portB port = pb at HX HHD lpo HPP1 HPN
        go_wp2_with fail
        refine (HHP.out _).mono ?_
        rintro e w2 ⟨rfl, hb2⟩
        have K2 := K0.below hb2
        have HB2 := Lib.hid (below_then HB0 HB0.size hb2)
        clear kc K0 HB0 hb2
        have kc := K2.cells
        obtain ⟨zz, HZ⟩ : ∃ zz, Hid (zz = sch ++ [58, 47, 47] ++ ub0 ++ hp ++ pb) := ⟨_, Lib.hid rfl⟩
        have lz : zz.length ≤ 6000000 := by rw [HZ.out]; simp; omega
        go_upto_if 46 with fail
        go_cut [3] (fun v wc => v = .string (B zz) ∧ ∃ w3, w3 = wc ∧ Blk w3 w.heap.size #[.string (B sch), .string (B usr), .string (B pas), .int .i64 hk, .string (B hn), .int .i64 ha, .int .i64 port, pv, .string (B opq), .bool hq, .string (B qry), .bool hf, .string (B frg)] ∧ Below w.heap.size w w3)
        case first =>
          by_cases h0 : 0 ≤ port
          · have h0b : decide (0 ≤ port) = true := decide_eq_true h0
            have HPB := Lib.hid (HPP1.out h0)
            go_wp2_with fail
            refine (HDE.out h0 _).mono ?_
            rintro e w3 ⟨rfl, hb3⟩
            have K3 := Lib.hid (K2.below hb3)
            have HB3 := Lib.hid (below_then HB2.out HB2.out.size hb3)
            clear hb3
            go_wp2
            go_meet
            case rel => exact ⟨by rw [HZ.out, HPB.out]; simp, _, rfl, K3.out, HB3.out⟩
          · have h0b : decide (0 ≤ port) = false := decide_eq_false h0
            have HPB := Lib.hid (HPN.out (by omega))
            go_wp2
            go_meet
            case rel => exact ⟨by rw [HZ.out, HPB.out]; simp, _, rfl, K2, HB2.out⟩
        case rest =>
          obtain ⟨rfl, w3, rfl, K3, hb3⟩ := hcut
          clear kc
          have kc := K3.cells
          go_wp2_with fail
          refine (HPP.out _ hb3).mono ?_
          rintro e w4 ⟨rfl, hb4⟩
          have K4 := Lib.hid (K3.below hb4)
          have HB4 := Lib.hid (below_then hb3 hb3.size hb4)
          clear hb3 hb4
          go_wp2
          go_meet
          case rel => exact ⟨by rw [HX.out, HZ.out]; simp, _, rfl, K4.out, HB4.out⟩
  case rest =>
    obtain ⟨rfl, w3, rfl, K3, hb3⟩ := hcut
    have HB3 := Lib.hid hb3
    clear hb3 kc K0 HB0
    have kc := K3.cells
    have k1 : ¬ 9223372036854775807 < hd.length + qry.length + 10 := by omega
    cases hq <;> cases hf
    all_goals
      have HX : Hid (x = hd ++ tl) := HT2
      go_wp2
      go_ret
      exact ⟨ret_str (by rw [HX.out, HTL.out]; simp), HB3.out⟩
end Go.Proofs.YtndobphgeiamhaaGreatDoor.H
/- spec.l3Fits, spec.UrlGet: what the calls come to. No condition. -/
set_option linter.unusedVariables false
namespace Go.Proofs.YtndobphgeiamhaaGreatDoor.H
open Go.RowKit Go.Proofs.YtndobphgeiamhaaGreatDoorW.PrintWords Go.Proofs.YtndobphgeiamhaaGreatDoor.Base Go.Proofs.YtndobphgeiamhaaGreatDoor.Pure
def fitsU (u : Ur) : Bool := decide (u.path.length ≤ 12) && decide ((putU u).length ≤ 600)
set_option maxHeartbeats 2000000 in
set_option maxRecDepth 100000 in
theorem specFits_walk (u : Ur) (pv : Value) (w : World) (hu : Fit u) (hpp : (pathPut u.path).length ≤ 1048576) (hP : PathAt w pv u.path) :
  Calls Tryz.prog 71 #[.agg (uCells u pv)] w fun e w' => e = .returned (.bool (fitsU u)) ∧ Below w.heap.size w w' := by
 have HPT := Lib.hid fun w1 (hb : Below w.heap.size w w1) => specPut_walk u pv w1 hu hpp (hP.below hb)
 have HF : Hid (fitsU u = (decide (u.path.length ≤ 12) && decide ((putU u).length ≤ 600))) := Lib.hid rfl
 have K0 : Blk (w.alloc (.cells (uCells u pv) 33)) w.heap.size (uCells u pv) := blk_new w _
 have HB0 := (Below.refl w.heap.size w).alloc (Nat.le_refl _) (.cells (uCells u pv) 33)
 obtain ⟨A, c, rfl, hc, hk⟩ := hP
 clear hk
 have hpl := hu.pl
 generalize hn : u.path.length = n at *
 generalize putU u = x at HPT HF
 generalize fitsU u = b at HF ⊢
 unfold uCells at *
 by_cases h1 : n ≤ 12
 ·have b1 : decide ((n : Int) ≤ 12) = true := decide_eq_true (by omega)
  go_enter Tryz.func71, Tryz.ntmps71
  go_upto_region 1 with fail
  generalize w.alloc _ = w1 at K0 HB0 ⊢
  have kc := K0.cells
  go_wp2_with fail
  refine (HPT.out _ HB0).mono ?_
  rintro e w2 ⟨rfl, hb2⟩
  have HB2 := Lib.hid (below_then HB0 HB0.size hb2)
  clear hb2
  by_cases h2 : x.length ≤ 600
  ·have b2 : decide ((x.length : Int) ≤ 600) = true := decide_eq_true (by omega)
   go_wp2
   go_ret
   exact ⟨by rw [HF.out]; simp [h1, h2], HB2.out⟩
  ·have b2 : decide ((x.length : Int) ≤ 600) = false := decide_eq_false (by omega)
   go_wp2
   go_ret
   exact ⟨by rw [HF.out]; simp [h1, h2], HB2.out⟩
 ·have b1 : decide ((n : Int) ≤ 12) = false := decide_eq_false (by omega)
  go_enter Tryz.func71, Tryz.ntmps71
  go_upto_region 1 with fail
  generalize w.alloc _ = w1 at K0 HB0 ⊢
  have kc := K0.cells
  go_wp2
  go_ret
  exact ⟨by rw [HF.out]; simp [h1], HB0⟩
theorem path_hosted (s r : Bs) (hs : s.length + r.length ≤ 200) : (pathPut (hostedU s r).path).length ≤ 1048576 := by
 have l0 : (offSl r).length ≤ r.length := (List.dropWhile_sublist _).length_le
 have l1 := up_len [47, 92, 63, 35] (offSl r)
 have l2 := up_len [63, 35] (upR [47, 92, 63, 35] (offSl r))
 have h13 : (pathPut (pathB (setB 1) (upA [63, 35] (upR [47, 92, 63, 35] (offSl r))))).length ≤ 3 * (upA [63, 35] (upR [47, 92, 63, 35] (offSl r))).length + 1 := path_room _ (by omega)
 show (pathPut (pathB (setB 1) (upA [63, 35] (upR [47, 92, 63, 35] (offSl r))))).length ≤ _
 omega
theorem read_fits (s r : Bs) (hs : s.length + 1 + r.length ≤ 200) : readU s r = if (readS s r).2 = true then (if fitsU (readS s r).1 = true then ((readS s r).1, true) else (Ur.zero, false)) else (Ur.zero, false) := by
 unfold readU readS
 by_cases ho : ownP s < 0
 ·have h := opaque_put s r ho
  have h2 : fitsU (opaqueU s r) = true := by
   unfold fitsU
   rw [decide_eq_true (show (putU (opaqueU s r)).length ≤ 600 by omega), decide_eq_true (show (opaqueU s r).path.length ≤ 12 from Nat.zero_le _)]; rfl
  simp only [if_pos ho, if_true, h2]
 ·simp only [if_neg ho]
  unfold hostedOk
  cases ha : authOk (baseU s) (upA [47, 92, 63, 35] (offSl r))
  ·simp
  ·simp only [if_true, Bool.true_and]; rfl
theorem readS_fit (s r : Bs) (hs : s.length + 1 + r.length ≤ 200) (h : (readS s r).2 = true) : Fit (readS s r).1 ∧ (pathPut (readS s r).1.path).length ≤ 1048576 := by
 unfold readS at h ⊢
 by_cases ho : ownP s < 0
 ·simp only [if_pos ho]
  refine ⟨fit_opaque s r (by omega), ?_⟩
  show (pathPut []).length ≤ _
  simp [pathPut]
 ·simp only [if_neg ho] at h ⊢
  cases ha : authOk (baseU s) (upA [47, 92, 63, 35] (offSl r)) with
  | false => rw [ha] at h; simp at h
  | true => simp only [if_true]; exact ⟨fit_hosted s r (by omega), path_hosted s r (by omega)⟩
set_option maxHeartbeats 4000000 in
set_option maxRecDepth 100000 in
theorem specUrlGet_walk (l : Bs) (w : World) (hl : l.length ≤ 140737488355327) : Calls Tryz.prog 51 #[.string (B l)] w (UrlOut (urlG l) w) := by
 by_cases hg : 200 < l.length
 ·have HX : Hid (urlG l = (Ur.zero, false)) := Lib.hid (by unfold urlG; rw [if_neg (by omega)])
  generalize urlG l = x at HX ⊢
  have hb : decide (200 < (l.length : Int)) = true := decide_eq_true (by omega)
  have K0 : Blk (w.alloc (.cells #[.string ⟨#[]⟩, .string ⟨#[]⟩, .string ⟨#[]⟩, .int .i64 0, .string ⟨#[]⟩, .int .i64 0, .int .i64 0, .slice none 0 0, .string ⟨#[]⟩, .bool false, .string ⟨#[]⟩, .bool false, .string ⟨#[]⟩] 33)) w.heap.size #[.string ⟨#[]⟩, .string ⟨#[]⟩, .string ⟨#[]⟩, .int .i64 0, .string ⟨#[]⟩, .int .i64 0, .int .i64 0, .slice none 0 0, .string ⟨#[]⟩, .bool false, .string ⟨#[]⟩, .bool false, .string ⟨#[]⟩] := blk_new w _
  have HB0 := (Below.refl w.heap.size w).alloc (Nat.le_refl _) (.cells #[.string ⟨#[]⟩, .string ⟨#[]⟩, .string ⟨#[]⟩, .int .i64 0, .string ⟨#[]⟩, .int .i64 0, .int .i64 0, .slice none 0 0, .string ⟨#[]⟩, .bool false, .string ⟨#[]⟩, .bool false, .string ⟨#[]⟩] 33)
  go_enter Tryz.func51, Tryz.ntmps51
  go_wp2_with fail
  refine bodyPost_ret (results_ct rfl _ _ w.heap.size 33 _ (0, 0) _ rfl K0 Tryz.underlying33 rfl (by kernel_rfl)) rfl ?_
  rw [HX.out]
  exact ⟨_, rfl, q_of_own (World.ownsRow_nil _ _ _ _), HB0⟩
 ·have hn : decide (200 < (l.length : Int)) = false := decide_eq_false (by omega)
  have htl := trimU_len l
  have HTr := Lib.hid fun w1 => specTrim_walk l w1 (by omega)
  have HU : Hid (urlG l = match schemeV (trimU l) with | none => (Ur.zero, false) | some (s, r) => readU s r) := Lib.hid (by unfold urlG; rw [if_pos (by omega)]; cases schemeV (trimU l) <;> rfl)
  generalize urlG l = x at HU ⊢
  generalize trimU l = t at htl HTr HU
  have HS := Lib.hid fun w1 => specScheme_walk t w1 (by omega)
  have hA : schemeA t = match schemeV t with | none => ([], [], false) | some (s, r) => (s, r, true) := rfl
  have K0 : Blk (w.alloc (.cells #[.string ⟨#[]⟩, .string ⟨#[]⟩, .string ⟨#[]⟩, .int .i64 0, .string ⟨#[]⟩, .int .i64 0, .int .i64 0, .slice none 0 0, .string ⟨#[]⟩, .bool false, .string ⟨#[]⟩, .bool false, .string ⟨#[]⟩] 33)) w.heap.size #[.string ⟨#[]⟩, .string ⟨#[]⟩, .string ⟨#[]⟩, .int .i64 0, .string ⟨#[]⟩, .int .i64 0, .int .i64 0, .slice none 0 0, .string ⟨#[]⟩, .bool false, .string ⟨#[]⟩, .bool false, .string ⟨#[]⟩] := blk_new w _
  have HB0 := (Below.refl w.heap.size w).alloc (Nat.le_refl _) (.cells #[.string ⟨#[]⟩, .string ⟨#[]⟩, .string ⟨#[]⟩, .int .i64 0, .string ⟨#[]⟩, .int .i64 0, .int .i64 0, .slice none 0 0, .string ⟨#[]⟩, .bool false, .string ⟨#[]⟩, .bool false, .string ⟨#[]⟩] 33)
  cases hs : schemeV t with
  | none =>
   rw [hs] at hA HU
   rw [hA] at HS
   clear hA hs
   go_enter Tryz.func51, Tryz.ntmps51
   go_upto_region 3 with fail
   generalize w.alloc _ = w0 at K0 HB0 ⊢
   go_wp2_with fail
   refine (HTr.out _).mono ?_
   rintro e w1 ⟨rfl, hb1⟩
   go_wp2_with fail
   refine (HS.out _).mono ?_
   rintro e w2 ⟨rfl, hb2⟩
   have HB2 := Lib.hid (below_then (below_then HB0 HB0.size hb1) (below_then HB0 HB0.size hb1).size hb2)
   have K2 := (K0.below hb1).below hb2
   have kc := K2.cells
   clear hb1 hb2 K0 HB0
   go_wp2
   refine bodyPost_ret (results_ct rfl _ _ w.heap.size 33 _ (0, 0) _ rfl (Blk.put13 K2) Tryz.underlying33 rfl (by kernel_rfl)) rfl ?_
   rw [HU.out]
   exact ⟨_, rfl, q_of_own (World.ownsRow_nil _ _ _ _), below13 HB2.out (Nat.le_refl _)⟩
  | some sr =>
   obtain ⟨s, r⟩ := sr
   have hlen := (scheme_some t s r hs).2.2
   rw [hs] at hA HU
   rw [hA] at HS
   have HF := readS_fit s r (by omega)
   have HV : Hid (x = if (readS s r).2 = true then (if fitsU (readS s r).1 = true then ((readS s r).1, true) else (Ur.zero, false)) else (Ur.zero, false)) := Lib.hid (HU.out.trans (read_fits s r (by omega)))
   have HR := Lib.hid fun w1 => specRead_walk s r w1 (by omega)
   clear hA hs HU
   generalize readS s r = y at HF HV HR
   obtain ⟨u, ok⟩ := y
   dsimp only at HF HV HR
   go_enter Tryz.func51, Tryz.ntmps51
   go_upto_region 3 with fail
   generalize w.alloc _ = w0 at K0 HB0 ⊢
   go_wp2_with fail
   refine (HTr.out _).mono ?_
   rintro e w1 ⟨rfl, hb1⟩
   go_wp2_with fail
   refine (HS.out _).mono ?_
   rintro e w2 ⟨rfl, hb2⟩
   have HB2 := below_then (below_then HB0 HB0.size hb1) (below_then HB0 HB0.size hb1).size hb2
   have K2 := (K0.below hb1).below hb2
   clear hb1 hb2 K0 HB0
   go_wp2_with fail
   refine (HR.out _).mono ?_
   rintro e w3 ⟨pv, rfl, hq, hb3⟩
   have hlt : w.heap.size < w2.heap.size := K2.lt
   have hsz3 := hb3.size
   have HB3 := below_then HB2 HB2.size hb3
   have K3 := K2.below hb3
   clear hb3 K2 HB2
   obtain ⟨A, c, rfl, hAc⟩ := q_slice hq
   have K7 : Blk (w3.alloc (.cells (uCells u (.slice A u.path.length c)) 33)) w3.heap.size (uCells u (.slice A u.path.length c)) := blk_new w3 _
   have K4 := K3.below (below_alloc (Below.refl w3.heap.size w3) (.cells (uCells u (.slice A u.path.length c)) 33))
   have HB4 := HB3.alloc HB3.size (.cells (uCells u (.slice A u.path.length c)) 33)
   have hq4 := q_below hq (below_alloc (Below.refl w3.heap.size w3) (.cells (uCells u (.slice A u.path.length c)) 33))
   have hne : w.heap.size ≠ w3.heap.size := by omega
   clear hq K3 HB3
   have HFW := Lib.hid fun (h : ok = true) w1 (hP : PathAt w1 (.slice A u.path.length c) u.path) => specFits_walk u (.slice A u.path.length c) w1 (HF h).1 (HF h).2 hP
   have HPA := Lib.hid (pathAt_q hq4)
   clear HF
   unfold uCells at K7 K4 HB4 hq4 HPA HFW ⊢
   have HQ4 := Lib.hid hq4
   clear hq4
   go_upto_region 7 with fail
   generalize w3.alloc _ = w4 at K7 K4 HB4 HQ4 HPA ⊢
   generalize w3.heap.size = g at K7 hne ⊢
   cases ok with
   | false =>
    have kc := K4.cells
    have HB5 := Lib.hid HB4
    clear HB4
    go_wp2
    refine bodyPost_ret (results_ct rfl _ _ w.heap.size 33 _ (0, 0) _ rfl (Blk.put13 K4) Tryz.underlying33 rfl (by kernel_rfl)) rfl ?_
    have e : x = (Ur.zero, false) := HV.out
    rw [e]
    exact ⟨_, rfl, q_of_own (World.ownsRow_nil _ _ _ _), below13 HB5.out (Nat.le_refl _)⟩
   | true =>
    have kc7 := K7.cells
    go_wp2_with fail
    refine (HFW.out (by trivial) _ HPA.out).mono ?_
    rintro e w5 ⟨rfl, hb5⟩
    have K45 := K4.below hb5
    have K75 := K7.below hb5
    have HB5 := Lib.hid (below_then HB4 HB4.size hb5)
    have HQ5 := Lib.hid (q_below HQ4.out hb5)
    clear hb5 K4 K7 HB4 kc7 HQ4
    have kc := K45.cells
    have kc7 := K75.cells
    cases hf : fitsU u with
    | false =>
     have e : x = (Ur.zero, false) := by rw [HV.out, hf]; rfl
     have HX := Lib.hid e
     clear e
     go_wp2
     refine bodyPost_ret (results_ct rfl _ _ w.heap.size 33 _ (0, 0) _ rfl (Blk.put13 K45) Tryz.underlying33 rfl (by kernel_rfl)) rfl ?_
     rw [HX.out]
     exact ⟨_, rfl, q_of_own (World.ownsRow_nil _ _ _ _), below13 HB5.out (Nat.le_refl _)⟩
    | true =>
     have e : x = (u, true) := by rw [HV.out, hf]; rfl
     have HX := Lib.hid e
     clear e
     go_wp2
     refine bodyPost_ret (results_ct rfl _ _ w.heap.size 33 _ (0, 0) _ rfl (Blk.put13 K45) Tryz.underlying33 rfl (by kernel_rfl)) rfl ?_
     rw [HX.out]
     exact ⟨_, rfl, q_lower (q_grown HQ5.out (grown13 (g := w.heap.size) (grown_b (Below.refl _ w5))) (by omega)) (by omega), below13 HB5.out (Nat.le_refl _)⟩
end Go.Proofs.YtndobphgeiamhaaGreatDoor.H
/- spec.l3Equal: two addresses held against each other. No condition. -/
set_option linter.unusedVariables false
namespace Go.Proofs.YtndobphgeiamhaaGreatDoor.H
open Go.RowKit Go.Proofs.YtndobphgeiamhaaGreatDoorW.PrintWords Go.Proofs.YtndobphgeiamhaaGreatDoor.Base Go.Proofs.YtndobphgeiamhaaGreatDoor.Pure
theorem eqU_row2 (u v : Ur) : eqU u v = ((u.sch == v.sch && (u.usr == v.usr && (u.pas == v.pas && ((u.hk == v.hk && (u.hn == v.hn && u.ha == v.ha)) && (u.port == v.port && (u.opq == v.opq && (u.hq == v.hq && (u.qry == v.qry && (u.hf == v.hf && u.frg == v.frg))))))))) && u.path == v.path) := by
 rw [eqU_row]
 cases u.path == v.path <;> simp
theorem dec1i (a b : Int) : a = b ∨ ((a == b) = false ∧ (a != b) = true) := by
 rcases dec1 a b with h | h
 ·exact .inl h
 ·exact .inr ⟨h, by simp [bne, h]⟩
attribute [local go_sem high] eqA_host
set_option maxHeartbeats 8000000 in
set_option maxRecDepth 100000 in
theorem specEqual_walk (u v : Ur) (pv qv : Value) (w : World) (hP : PathAt w pv u.path) (hQ : PathAt w qv v.path) (hm : u.path.length ≤ 1048576) :
  Calls Tryz.prog 53 #[.agg (uCells u pv), .agg (uCells v qv)] w fun e w' => e = .returned (.bool (eqU u v)) ∧ Below w.heap.size w w' := by
 obtain ⟨k2, k3, HB⟩ := two_cells w (uCells u pv) (uCells v qv) 33
 have K2 : Blk _ w.heap.size (uCells u pv) := k2
 have K3 : Blk _ (w.heap.size + 1) (uCells v qv) := k3
 clear k2 k3
 obtain ⟨A, c, rfl, hc, hk1⟩ := hP
 obtain ⟨A', c', rfl, hc', hk2⟩ := hQ
 have HP := Lib.hid hk1
 have HQ := Lib.hid hk2
 clear hk1 hk2
 rw [eqU_row2 u v]
 obtain ⟨sch, usr, pas, hk, hn, ha, port, path, opq, hq, qry, hf, frg⟩ := u
 obtain ⟨sch', usr', pas', hk', hn', ha', port', path', opq', hq', qry', hf', frg'⟩ := v
 unfold uCells at *
 dsimp only at *
 rcases dec1 (path.length : Int) (path'.length : Int) with hl | h
 ·have hl2 : path.length = path'.length := by omega
  have HL := Lib.hid hl2
  rw [← hl2] at K2 K3 HB ⊢
  clear hl hl2
  rcases dec1 sch sch' with rfl | h
  rcases dec1 usr usr' with rfl | h
  rcases dec1 pas pas' with rfl | h
  rcases dec3 hk hk' hn hn' ha ha' with ⟨rfl, rfl, rfl⟩ | h
  rcases dec1i port port' with rfl | ⟨h, h2⟩
  rcases dec1 opq opq' with rfl | h
  rcases dec1 hq hq' with rfl | h
  rcases dec1 qry qry' with rfl | h
  rcases dec1 hf hf' with rfl | h
  rcases dec1 frg frg' with rfl | h
  ·simp only [beq_self_eq_true, Bool.and_self, Bool.true_and]
   go_enter Tryz.func53, Tryz.ntmps53
   go_upto_region 1 with fail
   generalize (w.alloc _).alloc _ = w1 at K2 K3 HB ⊢
   generalize w.heap.size + 1 = g at K3 ⊢
   have kc2 := K2.cells.1
   have kc3 := K3.cells.1
   go_wp2
   clear kc2 kc3
   go_loopw [5] (fun i wr => ∃ k : Nat, k ≤ path.length ∧ i = .int .i64 k ∧ path.take k = path'.take k ∧ Blk wr w.heap.size #[.string (B sch), .string (B usr), .string (B pas), .int .i64 hk, .string (B hn), .int .i64 ha, .int .i64 port, .slice A path.length c, .string (B opq), .bool hq, .string (B qry), .bool hf, .string (B frg)] ∧ Blk wr g #[.string (B sch), .string (B usr), .string (B pas), .int .i64 hk, .string (B hn), .int .i64 ha, .int .i64 port, .slice A' path.length c', .string (B opq), .bool hq, .string (B qry), .bool hf, .string (B frg)] ∧ Below w.heap.size w wr) (fun i _ => path.length - (intOf i).toNat)
   case atStart => exact ⟨0, by omega, rfl, rfl, K2, K3, HB⟩
   case round =>
    clear K2 K3 HB
    obtain ⟨k, hk, rfl, ht, K2, K3, hb⟩ := hrel
    by_cases hlt : k < path.length
    ·have hlt2 : k < path'.length := by rw [← HL.out]; exact hlt
     obtain ⟨ad, e0, hcell⟩ := kd_at (Kd.C_below HP.out hb) k hlt
     obtain ⟨ad', e0', hcell'⟩ := kd_at (Kd.C_below HQ.out hb) k hlt2
     subst e0 e0'
     have i1 : ((k : Int) < (path.length : Int)) := by omega
     have it : ((k : Int)).toNat = k := rfl
     have HT := Lib.hid fun h => take_eq k hlt hlt2 ht h
     have HN := Lib.hid fun h => take_ne k hlt hlt2 h
     have HK2 := Lib.hid K2
     have HK3 := Lib.hid K3
     have kc2 := K2.cells.1
     have kc3 := K3.cells.1
     clear ht K2 K3
     by_cases he : path[k] = path'[k]
     ·have HE := Lib.hid (HT.out he)
      have hne : (path[k] != path'[k]) = false := by simp [he]
      have hee : (path[k] == path'[k]) = true := by simp [he]
      clear he HT HN
      generalize path[k] = x at *
      generalize path'[k] = y at *
      go_wp2_with fail
      go_quiet (fail)
      go_wp2
      go_roundw
      case rel => exact ⟨k + 1, by omega, by go_num, HE.out, HK2.out.below (below_drewN (Below.refl _ _) _), HK3.out.below (below_drewN (Below.refl _ _) _), below_drewN hb _⟩
      case measure => simp only [intOf]; omega
     ·have HE := Lib.hid (HN.out he)
      have hne : (path[k] != path'[k]) = true := by simp [he]
      have hee : (path[k] == path'[k]) = false := by simp [he]
      clear he HT HN
      generalize path[k] = x at *
      generalize path'[k] = y at *
      go_wp2_with fail
      go_quiet (fail)
      go_wp2
      go_ret
      exact ⟨by rw [HE.out]; rfl, below_drewN hb _⟩
    ·have HE : Hid (path = path') := Lib.hid (by rw [List.take_of_length_le (by omega), List.take_of_length_le (by rw [← HL.out]; omega)] at ht; exact ht)
     have hn : decide ((k : Int) < (path.length : Int)) = false := decide_eq_false (by omega)
     have kc2 := K2.cells.1
     clear ht
     go_wp2
     go_ret
     exact ⟨by rw [HE.out]; simp, hb⟩
  all_goals
   simp only [h, beq_self_eq_true, Bool.true_and, Bool.false_and, Bool.and_false]
   go_enter Tryz.func53, Tryz.ntmps53
   go_upto_region 1 with fail
   generalize (w.alloc _).alloc _ = w1 at K2 K3 HB ⊢
   generalize w.heap.size + 1 = g at K3 ⊢
   have kc2 := K2.cells.1
   have kc3 := K3.cells.1
   go_wp2
   go_ret
   exact ⟨rfl, HB⟩
 ·have hp : (path == path') = false := by
   rw [beq_eq_false_iff_ne] at h ⊢
   intro e; rw [e] at h; exact h rfl
  have h2 : ((path.length : Int) != (path'.length : Int)) = true := by simp [bne, h]
  rw [hp, Bool.and_false]
  clear hp
  generalize path.length = m at *
  generalize path'.length = n at *
  go_enter Tryz.func53, Tryz.ntmps53
  go_upto_region 1 with fail
  generalize (w.alloc _).alloc _ = w1 at K2 K3 HB ⊢
  generalize w.heap.size + 1 = g at K3 ⊢
  have kc2 := K2.cells.1
  have kc3 := K3.cells.1
  go_wp2
  go_ret
  exact ⟨rfl, HB⟩
end Go.Proofs.YtndobphgeiamhaaGreatDoor.H
/- UrlOk, UrlPut, PortOf of both sides: what the calls come to; the package-level variables read as their tables. -/
set_option linter.unusedVariables false
namespace Go.Proofs.YtndobphgeiamhaaGreatDoor.H
open Go.RowKit Go.Proofs.YtndobphgeiamhaaGreatDoorW.PrintWords Go.Proofs.YtndobphgeiamhaaGreatDoor.Base Go.Proofs.YtndobphgeiamhaaGreatDoor.Pure
structure Tabs (w : World) : Prop where
 s : TabS w
 m : TabM w
 i : TabI w
theorem Tabs.below {w w1 : World} (h : Tabs w) (hb : Below w.heap.size w w1) : Tabs w1 := ⟨h.s.below hb, h.m.below hb, h.i.below hb⟩
structure FitP (u : Ur) : Prop where
 fit : Fit u
 pp : (pathPut u.path).length ≤ 1048576
theorem putU_len (u : Ur) (h : FitP u) : (putU u).length ≤ 20000000 := by
 have h1 := h.fit.s
 have h2 := h.fit.us
 have h3 := h.fit.ps
 have h4 := h.fit.o
 have h5 := tailB_len u h.fit
 have h6 := h.pp
 have h7 := hostPV_len u.hk u.ha u.hn h.fit.hn
 have h8 := dec_len19 u.port h.fit.port.2
 have h9 : (userB u).length ≤ 2097154 := by
  rw [userB_e]
  split
  ·simp
  ·split <;> simp <;> omega
 have h10 : (portB u.port).length ≤ 20 := by unfold portB; split <;> simp; omega
 unfold putU
 rw [List.length_append, List.length_append]
 split <;> simp <;> omega
theorem urlG_12 (l : Bs) : (urlG l).1.path.length ≤ 12 := by
 unfold urlG
 split
 ·cases schemeV (trimU l) with
  | none => exact Nat.zero_le _
  | some sr =>
   obtain ⟨s, r⟩ := sr
   show (readU s r).1.path.length ≤ 12
   unfold readU
   split
   ·exact Nat.zero_le _
   ·split
    ·rename_i h
     unfold hostedOk at h
     simp only [Bool.and_eq_true, decide_eq_true_eq] at h
     exact h.2.1
    ·exact Nat.zero_le _
 ·exact Nat.zero_le _
def urlPutV (u : Ur) : Bs := if okU u = true then putU u else []
def portU (u : Ur) : Int := if 0 ≤ u.port then u.port else ownP u.sch
def portOfV (u : Ur) : Int := if okU u = true then portU u else -1
set_option maxHeartbeats 2000000 in
set_option maxRecDepth 100000 in
theorem specUrlOk_walk (u : Ur) (pv : Value) (w : World) (hu : FitP u) (hP : PathAt w pv u.path) :
  Calls Tryz.prog 30 #[.agg (uCells u pv)] w fun e w' => e = .returned (.bool (okU u)) ∧ Below w.heap.size w w' := by
 have HPT := Lib.hid fun w1 (hb : Below w.heap.size w w1) => specPut_walk u pv w1 hu.fit hu.pp (hP.below hb)
 have HPA := Lib.hid fun w1 (hb : Below w.heap.size w w1) => hP.below hb
 have HUG := Lib.hid fun w1 => specUrlGet_walk (putU u) w1 (by have := putU_len u hu; omega)
 have K0 : Blk (w.alloc (.cells (uCells u pv) 33)) w.heap.size (uCells u pv) := blk_new w _
 have HB0 := (Below.refl w.heap.size w).alloc (Nat.le_refl _) (.cells (uCells u pv) 33)
 have HO : Hid (okU u = ((urlG (putU u)).2 && eqU (urlG (putU u)).1 u)) := Lib.hid rfl
 have h12 := urlG_12 (putU u)
 generalize okU u = b at HO ⊢
 generalize urlG (putU u) = y at HO HUG h12
 obtain ⟨x, ok⟩ := y
 dsimp only at HO HUG h12
 have HEQ := Lib.hid fun xv w1 (hX : PathAt w1 xv x.path) (hb : Below w.heap.size w w1) => specEqual_walk x u xv pv w1 hX (hP.below hb) (by omega)
 clear hP
 unfold uCells at HPT HEQ K0 HB0 ⊢
 go_enter Tryz.func30, Tryz.ntmps30
 go_upto_region 1 with fail
 generalize w.alloc _ = w1 at K0 HB0 ⊢
 have kc := K0.cells.1
 go_wp2_with fail
 refine (HPT.out _ HB0).mono ?_
 rintro e w2 ⟨rfl, hb2⟩
 have K2 := K0.below hb2
 have HB2 := below_then HB0 HB0.size hb2
 clear kc hb2 K0 HB0
 go_wp2_with fail
 refine (HUG.out _).mono ?_
 rintro e w3 ⟨qv, rfl, hq, hb3⟩
 have K3 := K2.below hb3
 have HB3 := below_then HB2 HB2.size hb3
 clear hb3 K2 HB2
 obtain ⟨A, c, rfl, hAc⟩ := q_slice hq
 have K7 : Blk (w3.alloc (.cells (uCells x (.slice A x.path.length c)) 33)) w3.heap.size (uCells x (.slice A x.path.length c)) := blk_new w3 _
 have K4 := K3.below (below_alloc (Below.refl w3.heap.size w3) (.cells (uCells x (.slice A x.path.length c)) 33))
 have HB4 := HB3.alloc HB3.size (.cells (uCells x (.slice A x.path.length c)) 33)
 have HQ4 := Lib.hid (pathAt_q (q_below hq (below_alloc (Below.refl w3.heap.size w3) (.cells (uCells x (.slice A x.path.length c)) 33))))
 clear hq K3 HB3
 unfold uCells at K7 K4 HB4 HQ4 ⊢
 go_upto_region 2 with fail
 generalize w3.alloc _ = w4 at K7 K4 HB4 HQ4 ⊢
 generalize w3.heap.size = g at K7 ⊢
 cases ok with
 | false =>
  go_wp2
  go_ret
  exact ⟨by rw [HO.out]; rfl, HB4⟩
 | true =>
  have kc := K4.cells.1
  have kc7 := K7.cells.1
  go_wp2_with fail
  refine (HEQ.out _ _ HQ4.out HB4).mono ?_
  rintro e w5 ⟨rfl, hb5⟩
  have HB5 := Lib.hid (below_then HB4 HB4.size hb5)
  clear hb5 kc kc7 K4 K7 HB4
  go_wp2
  go_ret
  exact ⟨by rw [HO.out]; rfl, HB5.out⟩
set_option maxHeartbeats 2000000 in
set_option maxRecDepth 100000 in
theorem implUrlOk_walk (u : Ur) (pv : Value) (w : World) (hu : FitP u) (hP : PathAt w pv u.path) (hT : Tabs w) :
  Calls Tryz.prog 34 #[.agg (uCells u pv)] w fun e w' => e = .returned (.bool (okU u)) ∧ Below w.heap.size w w' := by
 have HPT := Lib.hid fun w1 (hb : Below w.heap.size w w1) => text_walk u pv w1 hu.fit (hT.m.below hb) (hT.i.below hb) (hP.below hb)
 have HUG := Lib.hid fun w1 (hb : Below w.heap.size w w1) => implUrlGet_walk (putU u) w1 (by have := putU_len u hu; omega) (hT.s.below hb) (hT.m.below hb) (hT.i.below hb)
 have K0 : Blk (w.alloc (.cells (uCells u pv) 33)) w.heap.size (uCells u pv) := blk_new w _
 have HB0 := (Below.refl w.heap.size w).alloc (Nat.le_refl _) (.cells (uCells u pv) 33)
 have HO : Hid (okU u = ((urlG (putU u)).2 && eqU (urlG (putU u)).1 u)) := Lib.hid rfl
 have h12 := urlG_12 (putU u)
 generalize okU u = b at HO ⊢
 generalize urlG (putU u) = y at HO HUG h12
 obtain ⟨x, ok⟩ := y
 dsimp only at HO HUG h12
 have HEQ := Lib.hid fun xv w1 (hX : PathAt w1 xv x.path) (hb : Below w.heap.size w w1) => same_walk x u xv pv w1 hX (hP.below hb) (by omega)
 clear hP hT
 unfold uCells at HPT HEQ K0 HB0 ⊢
 go_enter Tryz.func34, Tryz.ntmps34
 go_upto_region 1 with fail
 generalize w.alloc _ = w1 at K0 HB0 ⊢
 have kc := K0.cells.1
 go_wp2_with fail
 refine (HPT.out _ HB0).mono ?_
 rintro e w2 ⟨rfl, hb2⟩
 have K2 := K0.below hb2
 have HB2 := below_then HB0 HB0.size hb2
 clear kc hb2 K0 HB0
 go_wp2_with fail
 refine (HUG.out _ HB2).mono ?_
 rintro e w3 ⟨qv, rfl, hq, hb3⟩
 have K3 := K2.below hb3
 have HB3 := below_then HB2 HB2.size hb3
 clear hb3 K2 HB2
 obtain ⟨A, c, rfl, hAc⟩ := q_slice hq
 have K7 : Blk (w3.alloc (.cells (uCells x (.slice A x.path.length c)) 33)) w3.heap.size (uCells x (.slice A x.path.length c)) := blk_new w3 _
 have K4 := K3.below (below_alloc (Below.refl w3.heap.size w3) (.cells (uCells x (.slice A x.path.length c)) 33))
 have HB4 := HB3.alloc HB3.size (.cells (uCells x (.slice A x.path.length c)) 33)
 have HQ4 := Lib.hid (pathAt_q (q_below hq (below_alloc (Below.refl w3.heap.size w3) (.cells (uCells x (.slice A x.path.length c)) 33))))
 clear hq K3 HB3
 unfold uCells at K7 K4 HB4 HQ4 ⊢
 go_upto_region 2 with fail
 generalize w3.alloc _ = w4 at K7 K4 HB4 HQ4 ⊢
 generalize w3.heap.size = g at K7 ⊢
 cases ok with
 | false =>
  go_wp2
  go_ret
  exact ⟨by rw [HO.out]; rfl, HB4⟩
 | true =>
  have kc := K4.cells.1
  have kc7 := K7.cells.1
  go_wp2_with fail
  refine (HEQ.out _ _ HQ4.out HB4).mono ?_
  rintro e w5 ⟨rfl, hb5⟩
  have HB5 := Lib.hid (below_then HB4 HB4.size hb5)
  clear hb5 kc kc7 K4 K7 HB4
  go_wp2
  go_ret
  exact ⟨by rw [HO.out]; rfl, HB5.out⟩
set_option maxHeartbeats 1000000 in
set_option maxRecDepth 100000 in
theorem implPort_walk (u : Ur) (pv : Value) (w : World) :
  Calls Tryz.prog 35 #[.agg (uCells u pv)] w fun e w' => e = .returned (.int .i64 (portU u)) ∧ Below w.heap.size w w' := by
 have HC := Lib.hid (special_walk u.sch)
 have K0 : Blk (w.alloc (.cells (uCells u pv) 33)) w.heap.size (uCells u pv) := blk_new w _
 have HB0 := (Below.refl w.heap.size w).alloc (Nat.le_refl _) (.cells (uCells u pv) 33)
 have HO : Hid (portU u = if 0 ≤ u.port then u.port else ownP u.sch) := Lib.hid rfl
 generalize portU u = z at HO ⊢
 unfold uCells at *
 go_enter Tryz.func35, Tryz.ntmps35
 go_upto_region 1 with fail
 generalize w.alloc _ = w1 at K0 HB0 ⊢
 have kc := K0.cells.1
 by_cases hp : 0 ≤ u.port
 ·have HX : Hid (z = u.port) := Lib.hid (by rw [HO.out, if_pos hp])
  have hd : decide (0 ≤ u.port) = true := decide_eq_true hp
  go_wp2
  go_ret
  exact ⟨by rw [HX.out]; rfl, HB0⟩
 ·have HX : Hid (z = ownP u.sch) := Lib.hid (by rw [HO.out, if_neg hp])
  have hd : decide (0 ≤ u.port) = false := decide_eq_false hp
  go_wp2_with fail
  refine (HC.out _).mono ?_
  rintro e w3 ⟨rfl, hw3⟩
  subst w3
  go_wp2
  go_ret
  exact ⟨by rw [HX.out]; rfl, HB0⟩
end Go.Proofs.YtndobphgeiamhaaGreatDoor.H
/- laws.toHost, laws.toStringS, laws.toUrl, laws.szHost, laws.szStringS, laws.szUrl: what the calls come to. No condition. -/
set_option linter.unusedVariables false
namespace Go.Proofs.YtndobphgeiamhaaGreatDoor.H
open Go.RowKit Go.Proofs.YtndobphgeiamhaaGreatDoorW.PrintWords Go.Proofs.YtndobphgeiamhaaGreatDoor.Base Go.Proofs.YtndobphgeiamhaaGreatDoor.Pure
theorem three_new (w : World) (o1 o2 o3 : Obj) : (((w.alloc o1).alloc o2).alloc o3).heap[w.heap.size]? = some o1 ∧ (((w.alloc o1).alloc o2).alloc o3).heap[w.heap.size + 1]? = some o2 ∧ (((w.alloc o1).alloc o2).alloc o3).heap[w.heap.size + 1 + 1]? = some o3 ∧ Below w.heap.size w (((w.alloc o1).alloc o2).alloc o3) := by
 have e1 : (w.alloc o1).heap.size = w.heap.size + 1 := by simp
 have e2 : ((w.alloc o1).alloc o2).heap.size = w.heap.size + 1 + 1 := by simp
 have h3 := blk_new ((w.alloc o1).alloc o2) o3
 have h2 := blk_below (blk_new (w.alloc o1) o2) (below_alloc (Below.refl _ _) o3)
 have h1 := blk_below (blk_below (blk_new w o1) (below_alloc (Below.refl _ _) o2)) (below_alloc (Below.refl _ _) o3)
 rw [e2] at h3
 rw [e1] at h2
 exact ⟨h1, h2, h3, (((Below.refl _ w).alloc (Nat.le_refl _) _).alloc (by omega) _).alloc (by omega) _⟩
theorem cells13 {w : World} {g : Nat} {t : TypeId} {c0 c1 c2 c3 c4 c5 c6 c7 c8 c9 c10 c11 c12 : Value} (h : w.heap[g]? = some (.cells #[c0, c1, c2, c3, c4, c5, c6, c7, c8, c9, c10, c11, c12] t (0, 0))) : C13 w g c0 c1 c2 c3 c4 c5 c6 c7 c8 c9 c10 c11 c12 :=
 ⟨(blk_cell h 0).trans rfl, (blk_cell h 1).trans rfl, (blk_cell h 2).trans rfl, (blk_cell h 3).trans rfl, (blk_cell h 4).trans rfl, (blk_cell h 5).trans rfl, (blk_cell h 6).trans rfl, (blk_cell h 7).trans rfl, (blk_cell h 8).trans rfl, (blk_cell h 9).trans rfl, (blk_cell h 10).trans rfl, (blk_cell h 11).trans rfl, (blk_cell h 12).trans rfl⟩
set_option maxRecDepth 100000 in
theorem toHost_walk (k a : Int) (n : Bs) (w : World) :
  Calls Tryz.prog 32 #[.agg #[.int .i64 k, .string (B n), .int .i64 a]] w fun e w' => e = .returned (.agg #[.int .i64 k, .string (B n), .int .i64 a]) ∧ Below w.heap.size w w' := by
 go_enter Tryz.func32, Tryz.ntmps32
 go_wp2
 obtain ⟨_, h2, _, h4⟩ := three_new w (.cells #[.int .i64 k, .string (B n), .int .i64 a] 23) (.cells #[.int .i64 k, .string (B n), .int .i64 a] 28) (.cells #[.int .i64 k, .string (B n), .int .i64 a] 28)
 exact bodyPost_ret (results_cell_row rfl _ _ (w.heap.size + 1) 28 _ (0, 0) _ rfl h2 Tryz.underlying28 rfl (by kernel_rfl)) rfl ⟨rfl, h4⟩
set_option maxHeartbeats 1000000 in
set_option maxRecDepth 100000 in
theorem toStringS_walk (pv : Value) (ps : List Bs) (w : World) (hP : PathAt w pv ps) (hm : ps.length ≤ 1048576) :
  Calls Tryz.prog 33 #[pv] w fun e w' => ∃ qv, e = .returned qv ∧ QRow w' w.heap.size 9 1 qv ps.length (strV ps) ∧ Below w.heap.size w w' := by
 obtain ⟨A, c, rfl, hc, hk⟩ := hP
 have HP := Lib.hid hk
 clear hk
 have hmk := run_make_row' (P := Tryz.prog) 24 9 (.string ByteArray.empty) 16 Tryz.underlying24 (by kernel_rfl) rfl .i64 .i64 ps.length (by omega) (by omega)
 have h0 := blk_new w (.cells (madeCells #[.string ByteArray.empty] ps.length) 9)
 have hs0 := size_madeCells #[.string ByteArray.empty] ps.length
 have hb0 := (Below.refl w.heap.size w).alloc (Nat.le_refl _) (.cells (madeCells #[.string ByteArray.empty] ps.length) 9)
 go_enter Tryz.func33, Tryz.ntmps33
 go_upto_block 0 with fail
 clear hmk
 generalize w.alloc _ = w1 at h0 hb0 ⊢
 generalize madeCells #[.string ByteArray.empty] ps.length = cur0 at h0 hs0
 go_wp2
 go_loopw [4] (fun i wr => ∃ (k : Nat) (cur : Array Value), k ≤ ps.length ∧ i = .int .i64 k ∧ wr.heap[w.heap.size]? = some (.cells cur 9 (0, 0)) ∧ cur.size = ps.length ∧ (∀ j (h : j < ps.length), j < k → cur[j]? = some (.string (B ps[j]))) ∧ Below w.heap.size w wr) (fun i _ => ps.length - (intOf i).toNat)
 case atStart => exact ⟨0, cur0, by omega, rfl, h0, hs0, fun j _ h => absurd h (by omega), hb0⟩
 case round =>
  obtain ⟨k, cur, hk, rfl, hh, hcs, hc2, hb⟩ := hrel
  by_cases hlt : k < ps.length
  ·obtain ⟨ad, e0, hcell⟩ := kd_at (Kd.C_below HP.out hb) k hlt
   subst e0
   have i1 : ((k : Int) < (ps.length : Int)) := by omega
   have it : ((k : Int)).toNat = k := rfl
   obtain ⟨v, hv⟩ : ∃ v, cur[k]? = some v := ⟨_, Array.getElem?_eq_getElem (by omega)⟩
   have hck : wr.cell? ⟨w.heap.size, k, none⟩ = some v := (blk_cell hh k).trans hv
   have hfk : wr.frozen? ⟨w.heap.size, k, none⟩ = false := blk_frozen hh k
   have HN := Lib.hid (blk_set hh k (.string (B ps[k])))
   have HC : Hid (∀ j (h : j < ps.length), j < k + 1 → (cur.setIfInBounds k (.string (B ps[k])))[j]? = some (.string (B ps[j]))) := Lib.hid fun j h hj => by
    rw [Array.getElem?_setIfInBounds]
    by_cases q : k = j
    ·subst q; rw [if_pos rfl, if_pos (by omega)]
    ·rw [if_neg q]; exact hc2 j h (by omega)
   clear hc2 hh hv
   generalize ps[k] = x at *
   go_wp2
   go_roundw
   case rel => exact ⟨k + 1, _, by omega, by go_num, HN.out, by simp [hcs], HC.out, hb.setCell (p := ⟨w.heap.size, k, none⟩) (Nat.le_refl _) _⟩
   case measure => simp only [intOf]; omega
  ·have hn : decide ((k : Int) < (ps.length : Int)) = false := decide_eq_false (by omega)
   have HC : Hid (∀ j (h : j < ps.length), cur[j]? = some (.string (B ps[j]))) := Lib.hid fun j h => hc2 j h (by omega)
   have HN := Lib.hid hh
   clear hc2 hh
   go_wp2
   go_ret
   refine ⟨_, rfl, q_of_own ⟨by simp [strV], .inr ⟨w.heap.size, ps.length, cur, rfl, Nat.le_refl _, HN.out, Nat.le_refl _, by unfold maxLen; omega, by omega, ?_⟩⟩, hb⟩
   apply List.ext_getElem
   ·simp [strV]; omega
   ·intro j h1 h2
    have hj : j < ps.length := by simpa [strV] using h2
    have := HC.out j hj
    rw [Array.getElem?_eq_getElem (by omega)] at this
    rw [List.getElem_take, Array.getElem_toList, Option.some.inj this]
    simp [strV]
def szU (u : Ur) : Nat := u.sch.length + u.usr.length + u.pas.length + u.hn.length + (u.path.length + (u.path.map List.length).sum) + u.opq.length + u.qry.length + u.frg.length
set_option maxRecDepth 100000 in
theorem szHost_walk (k a n : Int) (l : Bs) (w : World) (hl : l.length ≤ 9223372036854775807) (h0 : 0 ≤ n) (h1 : n ≤ 1048576) :
  Calls Tryz.prog 28 #[.agg #[.int .i64 k, .string (B l), .int .i64 a], .int .i64 n] w fun e w' => ∃ m, e = .returned (.int .i64 m) ∧ ((l.length : Int) ≤ n → m = n - l.length) ∧ (n < (l.length : Int) → m = -1) ∧ Below w.heap.size w w' := by
 refine Calls.mono (R := fun e w' => e = .returned (.int .i64 (if (l.length : Int) ≤ n then n - l.length else -1)) ∧ Below w.heap.size w w') ?_ fun e w' h => ⟨_, h.1, fun q => if_pos q, fun q => if_neg (by omega), h.2⟩
 go_enter Tryz.func28, Tryz.ntmps28
 go_wp2
 all_goals
  go_ret
  exact ⟨rfl, (Below.refl _ w).alloc (Nat.le_refl _) _⟩
def sumT (ps : List Bs) : Nat := (ps.map List.length).sum
theorem sumT_take (ps : List Bs) (k : Nat) (h : k < ps.length) : sumT (ps.take (k + 1)) = sumT (ps.take k) + ps[k].length := by
 unfold sumT; rw [List.take_succ_eq_append_getElem h, List.map_append, List.sum_append]; simp only [List.map_cons, List.map_nil, List.sum_cons, List.sum_nil, Nat.add_zero]
theorem sumT_mono (ps : List Bs) (k : Nat) : sumT (ps.take k) ≤ sumT ps := by
 unfold sumT
 conv => rhs; rw [← List.take_append_drop k ps]
 rw [List.map_append, List.sum_append]; omega
set_option maxRecDepth 100000 in
theorem szStringS_walk (pv : Value) (ps : List Bs) (n : Int) (w : World) (hP : PathAt w pv ps) (hl : ∀ s ∈ ps, s.length ≤ 9223372036854775807) (hm : ps.length ≤ 9223372036854775807) (h0 : 0 ≤ n) (h1 : n ≤ 1048576) :
  Calls Tryz.prog 29 #[pv, .int .i64 n] w fun e w' => ∃ m, e = .returned (.int .i64 m) ∧ (((ps.length + sumT ps : Nat) : Int) ≤ n → m = n - ((ps.length + sumT ps : Nat) : Int)) ∧ (n < ((ps.length + sumT ps : Nat) : Int) → m = -1) ∧ Below w.heap.size w w' := by
 refine Calls.mono (R := fun e w' => e = .returned (.int .i64 (if ((ps.length + sumT ps : Nat) : Int) ≤ n then n - ((ps.length + sumT ps : Nat) : Int) else -1)) ∧ Below w.heap.size w w') ?_ fun e w' h => ⟨_, h.1, fun q => if_pos q, fun q => if_neg (by omega), h.2⟩
 obtain ⟨A, c, rfl, hc, hk⟩ := hP
 have HP := Lib.hid hk
 clear hk
 obtain ⟨r, HR⟩ : ∃ r, Hid (r = if ((ps.length + sumT ps : Nat) : Int) ≤ n then n - ((ps.length + sumT ps : Nat) : Int) else -1) := ⟨_, Lib.hid rfl⟩
 rw [← HR.out]
 have HW := Lib.hid fun k h => hl (ps[k]'h) (List.getElem_mem h)
 clear hl
 go_enter Tryz.func29, Tryz.ntmps29
 by_cases hn : (ps.length : Int) ≤ n
 ·have hd : decide (n - (ps.length : Int) < 0) = false := decide_eq_false (by omega)
  go_wp2
  go_loop [5, 1] (fun i l => ∃ k : Nat, k ≤ ps.length ∧ i = .int .i64 k ∧ l = .int .i64 (n - (ps.length : Int) - ((sumT (ps.take k) : Nat) : Int)) ∧ ((ps.length + sumT (ps.take k) : Nat) : Int) ≤ n) (fun i _ => ps.length - (intOf i).toNat)
  case atStart => exact ⟨0, by omega, rfl, by simp [sumT], by simp [sumT]; omega⟩
  case round =>
   obtain ⟨k, hk, rfl, rfl, hle⟩ := hrel
   by_cases hlt : k < ps.length
   ·obtain ⟨ad, e0, hcell⟩ := kd_at HP.out k hlt
    subst e0
    have i1 : ((k : Int) < (ps.length : Int)) := by omega
    have it : ((k : Int)).toNat = k := rfl
    have hst := sumT_take ps k hlt
    have hmo := sumT_mono ps (k + 1)
    have hxl := HW.out k hlt
    generalize ps[k] = x at *
    generalize hs : sumT (ps.take k) = a at *
    have HS := Lib.hid hst
    by_cases h2 : n - (ps.length : Int) - (a : Int) - (x.length : Int) < 0
    ·have hd2 : decide (n - (ps.length : Int) - (a : Int) - (x.length : Int) < 0) = true := decide_eq_true h2
     have HX : Hid (r = -1) := Lib.hid (by rw [HR.out, if_neg (by omega)])
     clear hst hmo
     go_wp2
     go_ret
     exact ⟨by rw [HX.out]; rfl, Below.refl _ _⟩
    ·have hd2 : decide (n - (ps.length : Int) - (a : Int) - (x.length : Int) < 0) = false := decide_eq_false h2
     clear hst hmo
     go_wp2
     go_round
     case rel => exact ⟨k + 1, by omega, by go_num, by rw [HS.out]; congr 1; omega, by rw [HS.out]; omega⟩
     case measure => simp only [intOf]; omega
   ·have hn2 : decide ((k : Int) < (ps.length : Int)) = false := decide_eq_false (by omega)
    rw [List.take_of_length_le (by omega)] at hle ⊢
    have HX : Hid (r = n - (ps.length : Int) - ((sumT ps : Nat) : Int)) := Lib.hid (by rw [HR.out, if_pos hle]; omega)
    clear hle
    go_wp2
    go_ret
    exact ⟨by rw [HX.out]; rfl, Below.refl _ _⟩
 ·have hd : decide (n - (ps.length : Int) < 0) = true := decide_eq_true (by omega)
  have HX : Hid (r = -1) := Lib.hid (by rw [HR.out, if_neg (by omega)])
  go_wp2
  go_ret
  exact ⟨by rw [HX.out]; rfl, Below.refl _ _⟩
structure WfU (u : Ur) : Prop where
 a : u.sch.length ≤ 9223372036854775807
 b : u.usr.length ≤ 9223372036854775807
 c : u.pas.length ≤ 9223372036854775807
 d : u.hn.length ≤ 9223372036854775807
 e : u.opq.length ≤ 9223372036854775807
 f : u.qry.length ≤ 9223372036854775807
 g : u.frg.length ≤ 9223372036854775807
 p : u.path.length ≤ 9223372036854775807
 s : ∀ x ∈ u.path, x.length ≤ 9223372036854775807
 port : -9223372036854775808 ≤ u.port ∧ u.port ≤ 9223372036854775807
def szV (u : Ur) (n : Int) : Int := if (szU u : Int) ≤ n then n - (szU u : Int) else -1
set_option maxHeartbeats 2000000 in
set_option maxRecDepth 100000 in
theorem szUrl_walk (u : Ur) (pv : Value) (n : Int) (w : World) (hP : PathAt w pv u.path) (hu : WfU u) (h0 : 0 ≤ n) (h1 : n ≤ 1048576) :
  Calls Tryz.prog 9 #[.agg (uCells u pv), .int .i64 n] w fun e w' => e = .returned (.int .i64 (szV u n)) ∧ Below w.heap.size w w' := by
 obtain ⟨r, HR⟩ : ∃ r, Hid (r = szV u n) := ⟨_, Lib.hid rfl⟩
 rw [← HR.out]
 have HZ : Hid (szU u = u.sch.length + u.usr.length + u.pas.length + u.hn.length + (u.path.length + sumT u.path) + u.opq.length + u.qry.length + u.frg.length) := Lib.hid rfl
 unfold szV at HR
 generalize szU u = z at HR HZ
 have HSS := Lib.hid fun m w1 (hb : Below w.heap.size w w1) (h0 : 0 ≤ m) (h1 : m ≤ 1048576) => szStringS_walk pv u.path m w1 (hP.below hb) hu.s hu.p h0 h1
 have HSH := Lib.hid fun m w1 (h0 : 0 ≤ m) (h1 : m ≤ 1048576) => szHost_walk u.hk u.ha m u.hn w1 hu.d h0 h1
 obtain ⟨l1, l2, l3, l4, l5, l6, l7, l8, _, _⟩ := hu
 clear hP
 have K0 := blk_new w (.cells (uCells u pv) 26)
 have HB0 := (Below.refl w.heap.size w).alloc (Nat.le_refl _) (.cells (uCells u pv) 26)
 obtain ⟨sch, usr, pas, hk, hn, ha, port, path, opq, hq, qry, hf, frg⟩ := u
 dsimp only at *
 generalize sumT path = sm at HZ HSS
 unfold uCells at *
 dsimp only at *
 go_enter Tryz.func9, Tryz.ntmps9
 go_upto_region 1 with fail
 generalize w.alloc _ = w1 at K0 HB0 ⊢
 have kc := cells13 K0
 by_cases c1 : n < (sch.length : Int)
 ·have HX : Hid (r = -1) := Lib.hid (by rw [HR.out, if_neg (by rw [HZ.out]; omega)])
  go_wp2
  go_ret
  exact ⟨by rw [HX.out]; rfl, HB0⟩
 by_cases c2 : n - (sch.length : Int) < (usr.length : Int)
 ·have HX : Hid (r = -1) := Lib.hid (by rw [HR.out, if_neg (by rw [HZ.out]; omega)])
  go_wp2
  go_ret
  exact ⟨by rw [HX.out]; rfl, HB0⟩
 by_cases c3 : n - (sch.length : Int) - (usr.length : Int) < (pas.length : Int)
 ·have HX : Hid (r = -1) := Lib.hid (by rw [HR.out, if_neg (by rw [HZ.out]; omega)])
  go_wp2
  go_ret
  exact ⟨by rw [HX.out]; rfl, HB0⟩
 go_wp2_with fail
 refine (HSH.out _ _ (by omega) (by omega)).mono ?_
 rintro e w2 ⟨m4, rfl, h4a, h4b, hb2⟩
 have K2 := blk_below K0 hb2
 have HB2 := below_then HB0 HB0.size hb2
 clear kc K0 HB0 hb2
 have kc := cells13 K2
 by_cases c4 : n - (sch.length : Int) - (usr.length : Int) - (pas.length : Int) < (hn.length : Int)
 ·obtain rfl := h4b c4
  clear h4a h4b
  have HX : Hid (r = -1) := Lib.hid (by rw [HR.out, if_neg (by rw [HZ.out]; omega)])
  go_wp2
  go_ret
  exact ⟨by rw [HX.out]; rfl, HB2⟩
 obtain rfl := h4a (by omega)
 clear h4a h4b
 have d4 : decide (n - (sch.length : Int) - (usr.length : Int) - (pas.length : Int) - (hn.length : Int) < 0) = false := decide_eq_false (by omega)
 go_wp2_with fail
 refine (HSS.out _ _ HB2 (by omega) (by omega)).mono ?_
 rintro e w3 ⟨m5, rfl, h5a, h5b, hb3⟩
 have K3 := blk_below K2 hb3
 have HB3 := below_then HB2 HB2.size hb3
 clear kc K2 HB2 hb3
 have kc := cells13 K3
 by_cases c5 : n - (sch.length : Int) - (usr.length : Int) - (pas.length : Int) - (hn.length : Int) < ((path.length + sm : Nat) : Int)
 ·obtain rfl := h5b c5
  clear h5a h5b
  have HX : Hid (r = -1) := Lib.hid (by rw [HR.out, if_neg (by rw [HZ.out]; omega)])
  go_wp2
  go_ret
  exact ⟨by rw [HX.out]; rfl, HB3⟩
 obtain rfl := h5a (by omega)
 clear h5a h5b
 obtain ⟨m, hm⟩ : ∃ m, m = n - (sch.length : Int) - (usr.length : Int) - (pas.length : Int) - (hn.length : Int) - ((path.length + sm : Nat) : Int) := ⟨_, rfl⟩
 rw [← hm]
 have HM := Lib.hid hm
 have m0 : 0 ≤ m := by omega
 have m1 : m ≤ 1048576 := by omega
 clear hm c1 c2 c3 c4 c5 d4 HSS HSH
 by_cases c6 : m < (opq.length : Int)
 ·have HX : Hid (r = -1) := Lib.hid (by rw [HR.out, if_neg (by rw [HZ.out]; have := HM.out; omega)])
  go_wp2
  go_ret
  exact ⟨by rw [HX.out]; rfl, HB3⟩
 by_cases c7 : m - (opq.length : Int) < (qry.length : Int)
 ·have HX : Hid (r = -1) := Lib.hid (by rw [HR.out, if_neg (by rw [HZ.out]; have := HM.out; omega)])
  go_wp2
  go_ret
  exact ⟨by rw [HX.out]; rfl, HB3⟩
 by_cases c8 : m - (opq.length : Int) - (qry.length : Int) < (frg.length : Int)
 ·have HX : Hid (r = -1) := Lib.hid (by rw [HR.out, if_neg (by rw [HZ.out]; have := HM.out; omega)])
  go_wp2
  go_ret
  exact ⟨by rw [HX.out]; rfl, HB3⟩
 have HX : Hid (r = m - (opq.length : Int) - (qry.length : Int) - (frg.length : Int)) := Lib.hid (by rw [HR.out, if_pos (by rw [HZ.out]; have := HM.out; omega), HZ.out]; have := HM.out; omega)
 go_wp2
 go_ret
 exact ⟨by rw [HX.out]; rfl, HB3⟩
set_option maxHeartbeats 2000000 in
set_option maxRecDepth 100000 in
theorem toUrlQ_walk (u : Ur) (pv : Value) (w : World) (hP : PathAt w pv u.path) (hm : u.path.length ≤ 1048576) :
  Calls Tryz.prog 11 #[.agg (uCells u pv)] w fun e w' => ∃ qv, e = .returned (.agg (uCells u qv)) ∧ QRow w' w.heap.size 9 1 qv u.path.length (strV u.path) ∧ Below w.heap.size w w' := by
 have HSS := Lib.hid fun w1 (hb : Below w.heap.size w w1) => toStringS_walk pv u.path w1 (hP.below hb) hm
 have HSH := Lib.hid (toHost_walk u.hk u.ha u.hn)
 obtain ⟨sch, usr, pas, hk, hn, ha, port, path, opq, hq, qry, hf, frg⟩ := u
 unfold uCells at *
 dsimp only at *
 go_enter Tryz.func11, Tryz.ntmps11
 go_wp2_with fail
 obtain ⟨K1, K2, k3, HB⟩ := three_new w (.cells #[.string (B sch), .string (B usr), .string (B pas), .int .i64 hk, .string (B hn), .int .i64 ha, .int .i64 port, pv, .string (B opq), .bool hq, .string (B qry), .bool hf, .string (B frg)] 26) (.cells #[.string ⟨#[]⟩, .string ⟨#[]⟩, .string ⟨#[]⟩, .int .i64 0, .string ⟨#[]⟩, .int .i64 0, .int .i64 0, .slice none 0 0, .string ⟨#[]⟩, .bool false, .string ⟨#[]⟩, .bool false, .string ⟨#[]⟩] 33) (.cells #[.string (B sch), .string (B usr), .string (B pas), .int .i64 0, .string ⟨#[]⟩, .int .i64 0, .int .i64 0, .slice none 0 0, .string ⟨#[]⟩, .bool false, .string ⟨#[]⟩, .bool false, .string ⟨#[]⟩] 33)
 have K3 : Blk _ (w.heap.size + 1 + 1) #[.string (B sch), .string (B usr), .string (B pas), .int .i64 0, .string ⟨#[]⟩, .int .i64 0, .int .i64 0, .slice none 0 0, .string ⟨#[]⟩, .bool false, .string ⟨#[]⟩, .bool false, .string ⟨#[]⟩] := k3
 clear k3
 generalize ((w.alloc _).alloc _).alloc _ = w1 at K1 K2 K3 HB ⊢
 have n1 : w.heap.size ≠ w.heap.size + 1 + 1 := by omega
 have n2 : w.heap.size + 1 ≠ w.heap.size + 1 + 1 := by omega
 have n3 : w.heap.size ≠ w.heap.size + 1 := by omega
 have ge2 : w.heap.size ≤ w.heap.size + 1 := by omega
 have ge3 : w.heap.size ≤ w.heap.size + 1 + 1 := by omega
 generalize w.heap.size + 1 + 1 = g3 at K3 n1 n2 ge3 ⊢
 generalize w.heap.size + 1 = g2 at K2 n2 n3 ge2 ⊢
 refine (HSH.out _).mono ?_
 rintro e w2 ⟨rfl, hb2⟩
 have K12 := blk_below K1 hb2
 have K22 := blk_below K2 hb2
 have K32 := K3.below hb2
 have HB2 := below_then HB HB.size hb2
 clear K1 K2 K3 HB hb2
 have kc1 := cells13 K12
 have kc3 := Blk.cells K32
 go_upto_region 7 with fail
 have K33 : Blk ((((w2.setCell ⟨g3, 3, none⟩ (.int .i64 hk)).setCell ⟨g3, 4, none⟩ (.string (B hn))).setCell ⟨g3, 5, none⟩ (.int .i64 ha)).setCell ⟨g3, 6, none⟩ (.int .i64 port)) g3 #[.string (B sch), .string (B usr), .string (B pas), .int .i64 hk, .string (B hn), .int .i64 ha, .int .i64 port, .slice none 0 0, .string ⟨#[]⟩, .bool false, .string ⟨#[]⟩, .bool false, .string ⟨#[]⟩] := (Blk.put (Blk.put (Blk.put (Blk.put K32 3 _) 4 _) 5 _) 6 _)
 have K13 : ((((w2.setCell ⟨g3, 3, none⟩ (.int .i64 hk)).setCell ⟨g3, 4, none⟩ (.string (B hn))).setCell ⟨g3, 5, none⟩ (.int .i64 ha)).setCell ⟨g3, 6, none⟩ (.int .i64 port)).heap[w.heap.size]? = some (.cells #[.string (B sch), .string (B usr), .string (B pas), .int .i64 hk, .string (B hn), .int .i64 ha, .int .i64 port, pv, .string (B opq), .bool hq, .string (B qry), .bool hf, .string (B frg)] 26 (0, 0)) := (blk_far (p := ⟨g3, 6, none⟩) (blk_far (p := ⟨g3, 5, none⟩) (blk_far (p := ⟨g3, 4, none⟩) (blk_far (p := ⟨g3, 3, none⟩) K12 n1 _) n1 _) n1 _) n1 _)
 have K23 : ((((w2.setCell ⟨g3, 3, none⟩ (.int .i64 hk)).setCell ⟨g3, 4, none⟩ (.string (B hn))).setCell ⟨g3, 5, none⟩ (.int .i64 ha)).setCell ⟨g3, 6, none⟩ (.int .i64 port)).heap[g2]? = some (.cells #[.string ⟨#[]⟩, .string ⟨#[]⟩, .string ⟨#[]⟩, .int .i64 0, .string ⟨#[]⟩, .int .i64 0, .int .i64 0, .slice none 0 0, .string ⟨#[]⟩, .bool false, .string ⟨#[]⟩, .bool false, .string ⟨#[]⟩] 33 (0, 0)) := (blk_far (p := ⟨g3, 6, none⟩) (blk_far (p := ⟨g3, 5, none⟩) (blk_far (p := ⟨g3, 4, none⟩) (blk_far (p := ⟨g3, 3, none⟩) K22 n2 _) n2 _) n2 _) n2 _)
 have HB3 : Below w.heap.size w ((((w2.setCell ⟨g3, 3, none⟩ (.int .i64 hk)).setCell ⟨g3, 4, none⟩ (.string (B hn))).setCell ⟨g3, 5, none⟩ (.int .i64 ha)).setCell ⟨g3, 6, none⟩ (.int .i64 port)) := (Below.setCell (p := ⟨g3, 6, none⟩) (Below.setCell (p := ⟨g3, 5, none⟩) (Below.setCell (p := ⟨g3, 4, none⟩) (Below.setCell (p := ⟨g3, 3, none⟩) HB2 ge3 _) ge3 _) ge3 _) ge3 _)
 generalize ((((w2.setCell ⟨g3, 3, none⟩ (.int .i64 hk)).setCell ⟨g3, 4, none⟩ (.string (B hn))).setCell ⟨g3, 5, none⟩ (.int .i64 ha)).setCell ⟨g3, 6, none⟩ (.int .i64 port)) = w3 at K33 K13 K23 HB3 ⊢
 clear kc1 kc3 K12 K22 K32 HB2
 have kc1 := cells13 K13
 go_wp2_with fail
 refine (HSS.out _ HB3).mono ?_
 rintro e w4 ⟨q0, rfl, hrow, hb4⟩
 obtain ⟨A2, c2, rfl, _⟩ := q_slice hrow
 have lt3 : g3 < w3.heap.size := Blk.lt K33
 have lt2 : g2 < w3.heap.size := blk_lt K23
 have hlow := HB3.size
 have K14 := blk_below K13 hb4
 have K24 := blk_below K23 hb4
 have K34 := K33.below hb4
 have HB4 := below_then HB3 HB3.size hb4
 have sz4 := hb4.size
 clear K13 K23 K33 HB3 hb4 kc1
 have kc1 := cells13 K14
 have kc3 := Blk.cells K34
 go_upto_region 13 with fail
 have K35 : Blk ((((((w4.setCell ⟨g3, 7, none⟩ (.slice A2 path.length c2)).setCell ⟨g3, 8, none⟩ (.string (B opq))).setCell ⟨g3, 9, none⟩ (.bool hq)).setCell ⟨g3, 10, none⟩ (.string (B qry))).setCell ⟨g3, 11, none⟩ (.bool hf)).setCell ⟨g3, 12, none⟩ (.string (B frg))) g3 #[.string (B sch), .string (B usr), .string (B pas), .int .i64 hk, .string (B hn), .int .i64 ha, .int .i64 port, .slice A2 path.length c2, .string (B opq), .bool hq, .string (B qry), .bool hf, .string (B frg)] := (Blk.put (Blk.put (Blk.put (Blk.put (Blk.put (Blk.put K34 7 _) 8 _) 9 _) 10 _) 11 _) 12 _)
 have K25 : ((((((w4.setCell ⟨g3, 7, none⟩ (.slice A2 path.length c2)).setCell ⟨g3, 8, none⟩ (.string (B opq))).setCell ⟨g3, 9, none⟩ (.bool hq)).setCell ⟨g3, 10, none⟩ (.string (B qry))).setCell ⟨g3, 11, none⟩ (.bool hf)).setCell ⟨g3, 12, none⟩ (.string (B frg))).heap[g2]? = some (.cells #[.string ⟨#[]⟩, .string ⟨#[]⟩, .string ⟨#[]⟩, .int .i64 0, .string ⟨#[]⟩, .int .i64 0, .int .i64 0, .slice none 0 0, .string ⟨#[]⟩, .bool false, .string ⟨#[]⟩, .bool false, .string ⟨#[]⟩] 33 (0, 0)) := (blk_far (p := ⟨g3, 12, none⟩) (blk_far (p := ⟨g3, 11, none⟩) (blk_far (p := ⟨g3, 10, none⟩) (blk_far (p := ⟨g3, 9, none⟩) (blk_far (p := ⟨g3, 8, none⟩) (blk_far (p := ⟨g3, 7, none⟩) K24 n2 _) n2 _) n2 _) n2 _) n2 _) n2 _)
 have HB5 : Below w.heap.size w ((((((w4.setCell ⟨g3, 7, none⟩ (.slice A2 path.length c2)).setCell ⟨g3, 8, none⟩ (.string (B opq))).setCell ⟨g3, 9, none⟩ (.bool hq)).setCell ⟨g3, 10, none⟩ (.string (B qry))).setCell ⟨g3, 11, none⟩ (.bool hf)).setCell ⟨g3, 12, none⟩ (.string (B frg))) := (Below.setCell (p := ⟨g3, 12, none⟩) (Below.setCell (p := ⟨g3, 11, none⟩) (Below.setCell (p := ⟨g3, 10, none⟩) (Below.setCell (p := ⟨g3, 9, none⟩) (Below.setCell (p := ⟨g3, 8, none⟩) (Below.setCell (p := ⟨g3, 7, none⟩) HB4 ge3 _) ge3 _) ge3 _) ge3 _) ge3 _) ge3 _)
 have HQ5 : QRow ((((((w4.setCell ⟨g3, 7, none⟩ (.slice A2 path.length c2)).setCell ⟨g3, 8, none⟩ (.string (B opq))).setCell ⟨g3, 9, none⟩ (.bool hq)).setCell ⟨g3, 10, none⟩ (.string (B qry))).setCell ⟨g3, 11, none⟩ (.bool hf)).setCell ⟨g3, 12, none⟩ (.string (B frg))) w3.heap.size 9 1 (.slice A2 path.length c2) path.length (strV path) := q_grown hrow (grown_put (grown_put (grown_put (grown_put (grown_put (grown_put (grown_b (Below.refl _ w4)) 7 _) 8 _) 9 _) 10 _) 11 _) 12 _) lt3
 generalize ((((((w4.setCell ⟨g3, 7, none⟩ (.slice A2 path.length c2)).setCell ⟨g3, 8, none⟩ (.string (B opq))).setCell ⟨g3, 9, none⟩ (.bool hq)).setCell ⟨g3, 10, none⟩ (.string (B qry))).setCell ⟨g3, 11, none⟩ (.bool hf)).setCell ⟨g3, 12, none⟩ (.string (B frg))) = w5 at K35 K25 HB5 HQ5 ⊢
 clear kc1 kc3 K14 K24 K34 HB4 hrow
 have K25 : Blk w5 g2 #[.string ⟨#[]⟩, .string ⟨#[]⟩, .string ⟨#[]⟩, .int .i64 0, .string ⟨#[]⟩, .int .i64 0, .int .i64 0, .slice none 0 0, .string ⟨#[]⟩, .bool false, .string ⟨#[]⟩, .bool false, .string ⟨#[]⟩] := K25
 have kc3 := Blk.cells K35
 have kc2 := Blk.cells K25
 have HQ := Lib.hid HQ5
 have HB6 := Lib.hid HB5
 clear HQ5 HB5
 go_wp2
 refine bodyPost_ret (results_cell_row rfl _ _ g2 33 _ (0, 0) _ rfl (Blk.put13 K25) Tryz.underlying33 rfl (by kernel_rfl)) rfl ⟨_, rfl, q_lower (q_grown HQ.out (grown13 (g := g2) (grown_b (Below.refl _ w5))) lt2) hlow, below13 HB6.out ge2⟩
theorem toUrl_walk (u : Ur) (pv : Value) (w : World) (hP : PathAt w pv u.path) (hm : u.path.length ≤ 1048576) :
  Calls Tryz.prog 11 #[.agg (uCells u pv)] w fun e w' => ∃ qv, e = .returned (.agg (uCells u qv)) ∧ PathAt w' qv u.path ∧ Below w.heap.size w w' :=
 (toUrlQ_walk u pv w hP hm).mono fun _ _ ⟨q, h1, h2, h3⟩ => ⟨q, h1, pathAt_q h2, h3⟩
theorem pathPut_len : ∀ ps : List Bs, (pathPut ps).length = ps.length + sumT ps
 | [] => rfl
 | s :: t => by
  have e : pathPut (s :: t) = 47 :: s ++ pathPut t := by simp [pathPut]
  have e2 : sumT (s :: t) = s.length + sumT t := by simp [sumT]
  rw [e, e2, List.length_append, pathPut_len t]; simp; omega
end Go.Proofs.YtndobphgeiamhaaGreatDoor.H
/- An address of a law's argument whose texts take at most 2^20 bytes: its texts are not too long. No condition. -/
namespace Go.Proofs.YtndobphgeiamhaaGreatDoor.H
open Go.RowKit Go.Proofs.YtndobphgeiamhaaGreatDoorW.PrintWords Go.Proofs.YtndobphgeiamhaaGreatDoor.Base Go.Proofs.YtndobphgeiamhaaGreatDoor.Pure
theorem fit_of_sz (u : Ur) (hu : WfU u) (hz : szU u ≤ 1048576) : FitP u := by
 have hp := pathPut_len u.path
 have hz : u.sch.length + u.usr.length + u.pas.length + u.hn.length + (u.path.length + sumT u.path) + u.opq.length + u.qry.length + u.frg.length ≤ 1048576 := hz
 exact ⟨⟨by omega, by omega, by omega, by omega, by omega, by omega, by omega, by omega, by omega, hu.port⟩, by omega⟩
end Go.Proofs.YtndobphgeiamhaaGreatDoor.H
/- OriginOf of both sides: what the calls come to; the package-level variables read as their tables. -/
set_option linter.unusedVariables false
namespace Go.Proofs.YtndobphgeiamhaaGreatDoor.H
open Go.RowKit Go.Proofs.YtndobphgeiamhaaGreatDoorW.PrintWords Go.Proofs.YtndobphgeiamhaaGreatDoor.Base Go.Proofs.YtndobphgeiamhaaGreatDoor.Pure
structure Og where
 sch : Bs
 hk : Int
 hn : Bs
 ha : Int
 port : Int
def Og.zero : Og := ⟨[], 0, [], 0, 0⟩
def oCells (o : Og) : Array Value := #[.string (B o.sch), .int .i64 o.hk, .string (B o.hn), .int .i64 o.ha, .int .i64 o.port]
def originU (u : Ur) : Og := if ownP u.sch < 0 then Og.zero else ⟨u.sch, u.hk, u.hn, u.ha, portU u⟩
def originV (u : Ur) : Og := if okU u = true then originU u else Og.zero
theorem ok_kind (u : Ur) (h : okU u = true) : u.hk = 0 ↔ ownP u.sch < 0 := by
 rcases (okU_good u h).1 with g | g
 ·have e : u.hk = 0 := by rw [g.rest]; rfl
  exact ⟨fun _ => g.own, fun _ => e⟩
 ·have h1 := (http_sch u.sch g.s).2.2
  have h2 := g.a.host.kind
  exact ⟨fun e => absurd e h2, fun q => absurd q (by omega)⟩
theorem two_objs (w : World) (o1 o2 : Obj) : ((w.alloc o1).alloc o2).heap[w.heap.size]? = some o1 ∧ ((w.alloc o1).alloc o2).heap[w.heap.size + 1]? = some o2 ∧ Below w.heap.size w ((w.alloc o1).alloc o2) := by
 have e1 : (w.alloc o1).heap.size = w.heap.size + 1 := by simp
 have h2 := blk_new (w.alloc o1) o2
 rw [e1] at h2
 exact ⟨blk_below (blk_new w o1) (below_alloc (Below.refl _ _) o2), h2, ((Below.refl _ w).alloc (Nat.le_refl _) _).alloc (by omega) _⟩
theorem cells5 {w : World} {g : Nat} {t : TypeId} {c0 c1 c2 c3 c4 : Value} (h : w.heap[g]? = some (.cells #[c0, c1, c2, c3, c4] t (0, 0))) :
  (w.cell? ⟨g, 0, none⟩ = some c0 ∧ w.cell? ⟨g, 1, none⟩ = some c1 ∧ w.cell? ⟨g, 2, none⟩ = some c2 ∧ w.cell? ⟨g, 3, none⟩ = some c3 ∧ w.cell? ⟨g, 4, none⟩ = some c4) ∧
  (w.frozen? ⟨g, 0, none⟩ = false ∧ w.frozen? ⟨g, 1, none⟩ = false ∧ w.frozen? ⟨g, 2, none⟩ = false ∧ w.frozen? ⟨g, 3, none⟩ = false ∧ w.frozen? ⟨g, 4, none⟩ = false) :=
 ⟨⟨(blk_cell h 0).trans rfl, (blk_cell h 1).trans rfl, (blk_cell h 2).trans rfl, (blk_cell h 3).trans rfl, (blk_cell h 4).trans rfl⟩, ⟨blk_frozen h 0, blk_frozen h 1, blk_frozen h 2, blk_frozen h 3, blk_frozen h 4⟩⟩
theorem put5 {w : World} {g : Nat} {t : TypeId} {c0 c1 c2 c3 c4 v0 v1 v2 v3 v4 : Value} (h : w.heap[g]? = some (.cells #[c0, c1, c2, c3, c4] t (0, 0))) :
  (((((w.setCell ⟨g, 0, none⟩ v0).setCell ⟨g, 1, none⟩ v1).setCell ⟨g, 2, none⟩ v2).setCell ⟨g, 3, none⟩ v3).setCell ⟨g, 4, none⟩ v4).heap[g]? = some (.cells #[v0, v1, v2, v3, v4] t (0, 0)) := by
 have h0 := blk_set h 0 v0
 have h1 := blk_set h0 1 v1
 have h2 := blk_set h1 2 v2
 have h3 := blk_set h2 3 v3
 exact blk_set h3 4 v4
theorem below5 {w0 w : World} {g : Nat} {v0 v1 v2 v3 v4 : Value} (h : Below w0.heap.size w0 w) (hg : w0.heap.size ≤ g) : Below w0.heap.size w0 (((((w.setCell ⟨g, 0, none⟩ v0).setCell ⟨g, 1, none⟩ v1).setCell ⟨g, 2, none⟩ v2).setCell ⟨g, 3, none⟩ v3).setCell ⟨g, 4, none⟩ v4) := ((((h.setCell hg v0).setCell hg v1).setCell hg v2).setCell hg v3).setCell hg v4
set_option maxRecDepth 100000 in
theorem eqOrigin_walk (o : Og) (w : World) :
  Calls Tryz.prog 13 #[.agg (oCells o), .agg (oCells o)] w fun e w' => e = .returned (.bool true) ∧ Below w.heap.size w w' := by
 obtain ⟨K2, K3, HB⟩ := two_objs w (.cells (oCells o) 30) (.cells (oCells o) 30)
 have HH := Lib.hid fun w1 => eqHost_walk o.hk o.ha o.hn w1
 unfold oCells at *
 go_enter Tryz.func13, Tryz.ntmps13
 go_upto_region 1 with fail
 generalize (w.alloc _).alloc _ = w1 at K2 K3 HB ⊢
 generalize w.heap.size + 1 = g at K3 ⊢
 have kc2 := (cells5 K2).1
 have kc3 := (cells5 K3).1
 go_wp2_with fail
 refine (HH.out _).mono ?_
 rintro e w2 ⟨rfl, hb2⟩
 have kd2 := (cells5 (blk_below K2 hb2)).1
 have kd3 := (cells5 (blk_below K3 hb2)).1
 have HB2 := Lib.hid (below_then HB HB.size hb2)
 clear kc2 kc3 K2 K3 HB hb2
 go_wp2
 go_ret
 exact ⟨rfl, HB2.out⟩
set_option maxHeartbeats 2000000 in
set_option maxRecDepth 100000 in
theorem specOrigin_walk (u : Ur) (pv : Value) (w : World) :
  Calls Tryz.prog 31 #[.agg (uCells u pv)] w fun e w' => e = .returned (.agg (oCells (originU u))) ∧ Below w.heap.size w w' := by
 have HOW := Lib.hid fun w1 => specOwn_walk u.sch w1
 obtain ⟨K1, K2, HB⟩ := two_objs w (.cells (uCells u pv) 33) (.cells #[.string ⟨#[]⟩, .int .i64 0, .string ⟨#[]⟩, .int .i64 0, .int .i64 0] 30)
 have HO : Hid (originU u = if ownP u.sch < 0 then Og.zero else ⟨u.sch, u.hk, u.hn, u.ha, if 0 ≤ u.port then u.port else ownP u.sch⟩) := Lib.hid rfl
 generalize originU u = z at HO ⊢
 unfold uCells at *
 go_enter Tryz.func31, Tryz.ntmps31
 go_upto_region 1 with fail
 generalize (w.alloc _).alloc _ = w1 at K1 K2 HB ⊢
 have hge : w.heap.size ≤ w.heap.size + 1 := by omega
 generalize w.heap.size + 1 = g at K2 hge ⊢
 have kc1 := cells13 K1
 have kc2 := cells5 K2
 go_wp2_with fail
 refine (HOW.out _).mono ?_
 rintro e w2 ⟨rfl, hw2⟩
 subst w2
 by_cases ho : ownP u.sch < 0
 ·have hd : decide (ownP u.sch < 0) = true := decide_eq_true ho
  have HX : Hid (z = Og.zero) := Lib.hid (by rw [HO.out, if_pos ho])
  go_wp2
  refine bodyPost_ret (results_cell_row rfl _ _ g 30 _ (0, 0) _ rfl (put5 K2) Tryz.underlying30 rfl (by kernel_rfl)) rfl ⟨by rw [HX.out]; rfl, below5 HB hge⟩
 ·have hd : decide (ownP u.sch < 0) = false := decide_eq_false ho
  by_cases hp : u.port < 0
  ·have hd2 : decide (u.port < 0) = true := decide_eq_true hp
   have HX : Hid (z = ⟨u.sch, u.hk, u.hn, u.ha, ownP u.sch⟩) := Lib.hid (by rw [HO.out, if_neg ho, if_neg (by omega)])
   go_wp2_with fail
   refine (HOW.out _).mono ?_
   rintro e w2 ⟨rfl, hw2⟩
   subst w2
   go_wp2
   refine bodyPost_ret (results_cell_row rfl _ _ g 30 _ (0, 0) _ rfl (put5 K2) Tryz.underlying30 rfl (by kernel_rfl)) rfl ⟨by rw [HX.out]; rfl, below5 HB hge⟩
  ·have hd2 : decide (u.port < 0) = false := decide_eq_false hp
   have HX : Hid (z = ⟨u.sch, u.hk, u.hn, u.ha, u.port⟩) := Lib.hid (by rw [HO.out, if_neg ho, if_pos (by omega)])
   go_wp2
   refine bodyPost_ret (results_cell_row rfl _ _ g 30 _ (0, 0) _ rfl (put5 K2) Tryz.underlying30 rfl (by kernel_rfl)) rfl ⟨by rw [HX.out]; rfl, below5 HB hge⟩
set_option maxHeartbeats 2000000 in
set_option maxRecDepth 100000 in
theorem specOriginOf_walk (u : Ur) (pv : Value) (w : World) (hu : FitP u) (hP : PathAt w pv u.path) :
  Calls Tryz.prog 10 #[.agg (uCells u pv)] w fun e w' => e = .returned (.agg (oCells (originV u))) ∧ Below w.heap.size w w' := by
 have HOK := Lib.hid fun w1 (hb : Below w.heap.size w w1) => specUrlOk_walk u pv w1 hu (hP.below hb)
 have HOR := Lib.hid fun w1 => specOrigin_walk u pv w1
 obtain ⟨K1, K2, HB⟩ := two_objs w (.cells (uCells u pv) 33) (.cells #[.string ⟨#[]⟩, .int .i64 0, .string ⟨#[]⟩, .int .i64 0, .int .i64 0] 30)
 have HO : Hid (originV u = if okU u = true then originU u else Og.zero) := Lib.hid rfl
 generalize originV u = z at HO ⊢
 generalize originU u = y at HO HOR
 unfold uCells at *
 go_enter Tryz.func10, Tryz.ntmps10
 go_upto_region 1 with fail
 generalize (w.alloc _).alloc _ = w1 at K1 K2 HB ⊢
 have hge : w.heap.size ≤ w.heap.size + 1 := by omega
 generalize w.heap.size + 1 = g at K2 hge ⊢
 have kc1 := cells13 K1
 go_wp2_with fail
 refine (HOK.out _ HB).mono ?_
 rintro e w2 ⟨rfl, hb2⟩
 have K12 := blk_below K1 hb2
 have K22 := blk_below K2 hb2
 have HB2 := below_then HB HB.size hb2
 clear kc1 K1 K2 HB hb2
 have kc1 := cells13 K12
 have kc2 := cells5 K22
 cases ho : okU u with
 | false =>
  have HX : Hid (z = Og.zero) := Lib.hid (by rw [HO.out, ho]; rfl)
  go_wp2
  refine bodyPost_ret (results_cell_row rfl _ _ g 30 _ (0, 0) _ rfl (put5 K22) Tryz.underlying30 rfl (by kernel_rfl)) rfl ⟨by rw [HX.out]; rfl, below5 HB2 hge⟩
 | true =>
  have HX : Hid (z = y) := Lib.hid (by rw [HO.out, ho]; rfl)
  clear kc2
  go_wp2_with fail
  refine (HOR.out _).mono ?_
  rintro e w3 ⟨rfl, hb3⟩
  have K23 := blk_below K22 hb3
  have HB3 := Lib.hid (below_then HB2 HB2.size hb3)
  clear kc1 K12 K22 HB2 hb3
  have kc2 := cells5 K23
  unfold oCells
  go_wp2
  refine bodyPost_ret (results_cell_row rfl _ _ g 30 _ (0, 0) _ rfl (put5 K23) Tryz.underlying30 rfl (by kernel_rfl)) rfl ⟨by rw [HX.out]; rfl, below5 HB3.out hge⟩
set_option maxHeartbeats 2000000 in
set_option maxRecDepth 100000 in
theorem implOriginOf_walk (u : Ur) (pv : Value) (w : World) (hu : FitP u) (hP : PathAt w pv u.path) (hT : Tabs w) :
  Calls Tryz.prog 12 #[.agg (uCells u pv)] w fun e w' => e = .returned (.agg (oCells (originV u))) ∧ Below w.heap.size w w' := by
 have HOK := Lib.hid fun w1 (hb : Below w.heap.size w w1) => implUrlOk_walk u pv w1 hu (hP.below hb) (hT.below hb)
 have HPO := Lib.hid fun w1 => implPort_walk u pv w1
 obtain ⟨K1, K2, HB⟩ := two_objs w (.cells (uCells u pv) 33) (.cells #[.string ⟨#[]⟩, .int .i64 0, .string ⟨#[]⟩, .int .i64 0, .int .i64 0] 30)
 have HO : Hid (originV u = if okU u = true then (if ownP u.sch < 0 then Og.zero else ⟨u.sch, u.hk, u.hn, u.ha, portU u⟩) else Og.zero) := Lib.hid rfl
 have HK := Lib.hid (ok_kind u)
 generalize originV u = z at HO ⊢
 generalize portU u = p at HO HPO
 unfold uCells at *
 clear hP hT
 go_enter Tryz.func12, Tryz.ntmps12
 go_upto_region 1 with fail
 generalize (w.alloc _).alloc _ = w1 at K1 K2 HB ⊢
 have hge : w.heap.size ≤ w.heap.size + 1 := by omega
 generalize w.heap.size + 1 = g at K2 hge ⊢
 have kc1 := cells13 K1
 go_wp2_with fail
 refine (HOK.out _ HB).mono ?_
 rintro e w2 ⟨rfl, hb2⟩
 have K12 := blk_below K1 hb2
 have K22 := blk_below K2 hb2
 have HB2 := below_then HB HB.size hb2
 clear kc1 K1 K2 HB hb2
 have kc1 := cells13 K12
 cases ho : okU u with
 | false =>
  have HX : Hid (z = Og.zero) := Lib.hid (by rw [HO.out, ho]; rfl)
  have kc2 := cells5 K22
  go_wp2
  refine bodyPost_ret (results_cell_row rfl _ _ g 30 _ (0, 0) _ rfl (put5 K22) Tryz.underlying30 rfl (by kernel_rfl)) rfl ⟨by rw [HX.out]; rfl, below5 HB2 hge⟩
 | true =>
  by_cases hk : u.hk = 0
  ·have HX : Hid (z = Og.zero) := Lib.hid (by rw [HO.out, ho, if_pos rfl, if_pos ((HK.out ho).1 hk)])
   have hke : (u.hk == 0) = true := by rw [hk]; rfl
   have kc2 := cells5 K22
   clear hk
   go_wp2
   refine bodyPost_ret (results_cell_row rfl _ _ g 30 _ (0, 0) _ rfl (put5 K22) Tryz.underlying30 rfl (by kernel_rfl)) rfl ⟨by rw [HX.out]; rfl, below5 HB2 hge⟩
  ·have HX : Hid (z = ⟨u.sch, u.hk, u.hn, u.ha, p⟩) := Lib.hid (by rw [HO.out, ho, if_pos rfl, if_neg fun q => hk ((HK.out ho).2 q)])
   have hke : (u.hk == 0) = false := by rw [beq_eq_false_iff_ne]; exact hk
   clear hk
   go_upto_region 3 with fail
   have D1 : w2.drew.heap[w.heap.size]? = _ := K12
   have kd1 := cells13 D1
   have HB3 := Lib.hid (below_drew HB2)
   clear kc1
   go_region_with ((go_at_call 35; refine (HPO.out _).mono ?_; rintro e w3 ⟨rfl, hb3⟩; have kz1 := cells13 (blk_below D1 hb3); have K23 := blk_below (w := w2.drew) K22 hb3; have kz2 := cells5 K23))
   all_goals
    have HB4 := Lib.hid (below_then HB3.out HB3.out.size hb3)
    go_wp2
    refine bodyPost_ret (results_cell_row rfl _ _ g 30 _ (0, 0) _ rfl (put5 K23) Tryz.underlying30 rfl (by kernel_rfl)) rfl ⟨by rw [HX.out]; rfl, below5 HB4.out hge⟩
end Go.Proofs.YtndobphgeiamhaaGreatDoor.H
/- A law's argument that is an address, opened: what its value is when it reads as some datum. No condition. -/
set_option linter.unusedVariables false
namespace Go.Proofs.YtndobphgeiamhaaGreatDoor.H
open Go.RowKit Go.ChangeShapes Go.WideShapes Go.Proofs.YtndobphgeiamhaaGreatDoorW.PrintWords Go.Proofs.YtndobphgeiamhaaGreatDoor.Base Go.Proofs.YtndobphgeiamhaaGreatDoor.Pure
theorem maxLen_le : maxLen ≤ 9223372036854775807 := by unfold maxLen; omega
theorem texts_open {H : Type} {enc : TypeId × Value → H} {W : World} {fuel : Nat} {c : Value} {x : DataW H × List MemPlace} (h : DataW.trod enc Tryz.prog W 0 (fun _ => true) true fuel 24 [c] = some x) :
  ∃ ps, PathAt W c ps ∧ ps.length ≤ 9223372036854775807 ∧ ∀ s ∈ ps, s.length ≤ 9223372036854775807 := by
 have hml := maxLen_le
 rcases open_strings Tryz.underlying24 Tryz.underlying9 (by kernel_rfl) h with ⟨hcs, _⟩ | ⟨a, l, cap, ss, hcs, _, hl, hm, hz, _, hcell, hws⟩
 ·obtain rfl : c = .slice none 0 0 := by simpa using hcs
  exact ⟨[], ⟨none, 0, rfl, Nat.le_refl _, Kd.C_nil _ _⟩, by simp, fun s h => by cases h⟩
 ·obtain rfl : c = .slice (some a) l cap := by simpa using hcs
  have hz' : ss.length = cap := by simpa using hz
  have hlt : (ss.take l).length = l := by rw [List.length_take]; omega
  have hC : Kd.C Kd.string W (some a) l (ss.take l) := by
   refine Kd.C_of_reads (d := ByteArray.empty) ⟨hlt, by omega, fun _ => ⟨a, rfl, fun j hj => ?_⟩⟩
   rw [hcell j (by omega)]
   simp [List.getD_eq_getElem?_getD, hj]
  have e : ((ss.take l).map fun s => s.data.toList).map B = ss.take l := by
   rw [List.map_map]
   exact (List.map_congr_left fun s _ => (eq_B s).symm).trans (List.map_id _)
  have hL : ((ss.take l).map fun s => s.data.toList).length = l := by rw [List.length_map, hlt]
  refine ⟨(ss.take l).map fun s => s.data.toList, ⟨some a, cap, by rw [hL], by rw [hL]; exact hl, ?_⟩, by rw [hL]; omega, fun s hs => ?_⟩
  ·rw [e, hlt]; exact hC
  ·obtain ⟨b, hb, rfl⟩ := List.mem_map.1 hs
   have := hws b (List.mem_of_mem_take hb)
   rw [eq_B b, B_size] at this
   exact Nat.le_trans this hml
theorem text_open {H : Type} {enc : TypeId × Value → H} {W : World} {fuel : Nat} {c : Value} {x : DataW H × List MemPlace} (h : DataW.trod enc Tryz.prog W 0 (fun _ => true) true fuel 9 [c] = some x) :
  ∃ s : Bs, c = .string (B s) ∧ s.length ≤ 9223372036854775807 := by
 obtain ⟨s, e, _, hs⟩ := DataW.trod_string Tryz.underlying9 h
 obtain rfl : c = .string s := by simpa using e
 refine ⟨s.data.toList, by rw [← eq_B], ?_⟩
 rw [eq_B s, B_size] at hs
 exact Nat.le_trans hs maxLen_le
theorem int_open {H : Type} {enc : TypeId × Value → H} {W : World} {fuel : Nat} {c : Value} {x : DataW H × List MemPlace} (h : DataW.trod enc Tryz.prog W 0 (fun _ => true) true fuel 3 [c] = some x) :
  ∃ n : Int, c = .int .i64 n ∧ -9223372036854775808 ≤ n ∧ n ≤ 9223372036854775807 := by
 obtain ⟨n, e, _, hn⟩ := DataW.trod_int Tryz.underlying3 h
 obtain rfl : c = .int .i64 n := by simpa using e
 have := hn
 simp [Lit.wf, IntKind.min, IntKind.max, IntKind.bits, IntKind.signed] at this
 exact ⟨n, rfl, by omega, by omega⟩
theorem bool_open {H : Type} {enc : TypeId × Value → H} {W : World} {fuel : Nat} {c : Value} {x : DataW H × List MemPlace} (h : DataW.trod enc Tryz.prog W 0 (fun _ => true) true fuel 4 [c] = some x) : ∃ b : Bool, c = .bool b := by
 obtain ⟨b, e, _⟩ := DataW.trod_bool Tryz.underlying4 h
 exact ⟨b, by simpa using e⟩
set_option maxRecDepth 100000 in
theorem url_open {H : Type} {enc : TypeId × Value → H} {W : World} {fuel : Nat} {cs : List Value} {x : DataW H × List MemPlace} (h : DataW.trod enc Tryz.prog W 0 (fun _ => true) true fuel 26 cs = some x) :
  ∃ u pv, cs = (uCells u pv).toList ∧ PathAt W pv u.path ∧ WfU u := by
 obtain ⟨xs, n, _, _, hl, hlen, hf⟩ := DataW.trod_struct Tryz.underlying26 h
 have k13 : Tryz.prog.cellsOf 26 = 13 := by kernel_rfl
 have kS : Tryz.prog.cellsOf 9 = 1 := by kernel_rfl
 have kI : Tryz.prog.cellsOf 3 = 1 := by kernel_rfl
 have kB : Tryz.prog.cellsOf 4 = 1 := by kernel_rfl
 have kH : Tryz.prog.cellsOf 23 = 3 := by kernel_rfl
 have kP : Tryz.prog.cellsOf 24 = 1 := by kernel_rfl
 obtain ⟨c0, c1, c2, c3, c4, c5, c6, c7, c8, c9, c10, c11, c12, rfl⟩ : ∃ c0 c1 c2 c3 c4 c5 c6 c7 c8 c9 c10 c11 c12, cs = [c0, c1, c2, c3, c4, c5, c6, c7, c8, c9, c10, c11, c12] := by
  match cs, hl.trans k13 with
  | [c0, c1, c2, c3, c4, c5, c6, c7, c8, c9, c10, c11, c12], _ => exact ⟨_, _, _, _, _, _, _, _, _, _, _, _, _, rfl⟩
 obtain ⟨y0, y1, y2, y3, y4, y5, y6, y7, y8, y9, y10, rfl⟩ : ∃ y0 y1 y2 y3 y4 y5 y6 y7 y8 y9 y10, xs = [y0, y1, y2, y3, y4, y5, y6, y7, y8, y9, y10] := by
  match xs, hlen with
  | [y0, y1, y2, y3, y4, y5, y6, y7, y8, y9, y10], _ => exact ⟨_, _, _, _, _, _, _, _, _, _, _, rfl⟩
 have g0 : DataW.trod enc Tryz.prog W 0 (fun _ => true) true n 9 [c0] = some y0 := by simpa [kS] using hf 0 _ rfl
 have g1 : DataW.trod enc Tryz.prog W 0 (fun _ => true) true n 9 [c1] = some y1 := by simpa [kS] using hf 1 _ rfl
 have g2 : DataW.trod enc Tryz.prog W 0 (fun _ => true) true n 9 [c2] = some y2 := by simpa [kS] using hf 2 _ rfl
 have g3 : DataW.trod enc Tryz.prog W 0 (fun _ => true) true n 23 [c3, c4, c5] = some y3 := by simpa [kH] using hf 3 _ rfl
 have g4 : DataW.trod enc Tryz.prog W 0 (fun _ => true) true n 3 [c6] = some y4 := by simpa [kI] using hf 4 _ rfl
 have g5 : DataW.trod enc Tryz.prog W 0 (fun _ => true) true n 24 [c7] = some y5 := by simpa [kP] using hf 5 _ rfl
 have g6 : DataW.trod enc Tryz.prog W 0 (fun _ => true) true n 9 [c8] = some y6 := by simpa [kS] using hf 6 _ rfl
 have g7 : DataW.trod enc Tryz.prog W 0 (fun _ => true) true n 4 [c9] = some y7 := by simpa [kB] using hf 7 _ rfl
 have g8 : DataW.trod enc Tryz.prog W 0 (fun _ => true) true n 9 [c10] = some y8 := by simpa [kS] using hf 8 _ rfl
 have g9 : DataW.trod enc Tryz.prog W 0 (fun _ => true) true n 4 [c11] = some y9 := by simpa [kB] using hf 9 _ rfl
 have g10 : DataW.trod enc Tryz.prog W 0 (fun _ => true) true n 9 [c12] = some y10 := by simpa [kS] using hf 10 _ rfl
 obtain ⟨z0, z1, z2, n', hx', _, b0, b1, b2⟩ := Go.Deep.trod_struct3 Tryz.underlying23 g3
 obtain ⟨hk, rfl, _, _⟩ := int_open (c := c3) (by simpa [kI] using b0)
 obtain ⟨hn, rfl, l3⟩ := text_open (c := c4) (by simpa [kS] using b1)
 obtain ⟨ha, rfl, _, _⟩ := int_open (c := c5) (by simpa [kI] using b2)
 obtain ⟨s0, rfl, l0⟩ := text_open g0
 obtain ⟨s1, rfl, l1⟩ := text_open g1
 obtain ⟨s2, rfl, l2⟩ := text_open g2
 obtain ⟨n4, rfl, p1, p2⟩ := int_open g4
 obtain ⟨ps, hp, lp, lps⟩ := texts_open g5
 obtain ⟨s6, rfl, l6⟩ := text_open g6
 obtain ⟨b7, rfl⟩ := bool_open g7
 obtain ⟨s8, rfl, l8⟩ := text_open g8
 obtain ⟨b9, rfl⟩ := bool_open g9
 obtain ⟨s10, rfl, l10⟩ := text_open g10
 exact ⟨⟨s0, s1, s2, hk, hn, ha, n4, ps, s6, b7, s8, b9, s10⟩, c7, rfl, hp, ⟨by show s0.length ≤ _; omega, by show s1.length ≤ _; omega, by show s2.length ≤ _; omega, by show hn.length ≤ _; omega, by show s6.length ≤ _; omega, by show s8.length ≤ _; omega, by show s10.length ≤ _; omega, lp, lps, ⟨p1, p2⟩⟩⟩
end Go.Proofs.YtndobphgeiamhaaGreatDoor.H
