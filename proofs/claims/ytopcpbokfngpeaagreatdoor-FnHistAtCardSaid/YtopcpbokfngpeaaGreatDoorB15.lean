/- Texts of this claim, joined: SUrlC, SUrlD, SUrlE, SUrlF, SUrlG, SUrlP, SUrlQ, SUrlR, HUrlV, UrlSp. Conditions: each theorem's own. -/
import Derived.Test.YtopcpbokfngpeaaGreatDoorB14
import Derived.Deep.RegionWith
import Derived.Test.YtopcpbokfngpeaaGreatDoorB13
import Derived.Test.YtopcpbokfngpeaaGreatDoorB12
/- spec.l3Who, spec.l3Tail: what the calls come to. No condition. -/
set_option linter.unusedVariables false
namespace Go.Proofs.YtopcpbokfngpeaaGreatDoor.H
open Go.RowKit Go.Proofs.YtopcpbokfngpeaaGreatDoorW.PrintWords Go.Proofs.YtopcpbokfngpeaaGreatDoor.Base Go.Proofs.YtopcpbokfngpeaaGreatDoor.Pure
theorem cont_ix (c : UInt8) : ∀ l : Bs, l.contains c = decide (ixS [c] l < l.length)
 | [] => rfl
 | x :: t => by
  rw [ixS_cons, List.contains_cons, cont_ix c t]
  by_cases e : x = c
  ·subst e; simp
  ·have h1 : ([c] : Bs).contains x = false := by simp [e]
   have h2 : (c == x) = false := by simp; exact fun q => e q.symm
   rw [h1, h2]; simp
theorem specEnc_walk (n : Int) (l : Bs) (w : World) (hl : l.length ≤ 200) : Calls Tryz.prog 106 #[.int .i64 n, .string (B l)] w fun e w' => e = .returned (.string (B (enc (setB n) l))) ∧ Below w.heap.size w w' := by
 have e : encMax n l = enc (setB n) l := by unfold encMax; rw [if_pos hl]
 rw [← e]; exact specEncode_walk n l w (by omega)
def zz : Array Value := #[.string ⟨#[]⟩, .string ⟨#[]⟩, .string ⟨#[]⟩, .int .i64 0, .string ⟨#[]⟩, .int .i64 0, .int .i64 0, .slice none 0 0, .string ⟨#[]⟩, .bool false, .string ⟨#[]⟩, .bool false, .string ⟨#[]⟩]
theorem two_new (w : World) (cs : Array Value) : Blk ((w.alloc (.cells cs 27)).alloc (.cells zz 27)) w.heap.size cs ∧ Blk ((w.alloc (.cells cs 27)).alloc (.cells zz 27)) (w.heap.size + 1) zz ∧ Below w.heap.size w ((w.alloc (.cells cs 27)).alloc (.cells zz 27)) := by
 refine ⟨Blk.below (w := w.alloc (.cells cs 27)) (blk_new w (.cells cs 27 (0, 0))) (below_alloc (Below.refl _ _) _), ?_, ((Below.refl _ w).alloc (Nat.le_refl _) _).alloc (by simp) _⟩
 have := blk_new (w.alloc (.cells cs 27)) (.cells zz 27 (0, 0))
 have e : (w.alloc (.cells cs 27)).heap.size = w.heap.size + 1 := by simp
 rw [e] at this; exact this
set_option maxHeartbeats 4000000 in
set_option maxRecDepth 100000 in
theorem specTail_walk (u : Ur) (pv : Value) (l : Bs) (w : World) (hl : l.length ≤ 200) (hq : u.hq = false) (hy : u.qry = []) (hf : u.hf = false) (hr : u.frg = []) (hpv : ∃ A n c, pv = .slice A n c) :
  Calls Tryz.prog 107 #[.agg (uCells u pv), .string (B l)] w fun e w' => e = .returned (.agg (uCells (setTail u l) pv)) ∧ Below w.heap.size w w' := by
 obtain ⟨A, n, c, rfl⟩ := hpv
 have HQ : Hid (setTail u l = { u with hq := !(cutAh 35 l).isEmpty, qry := enc (setB 2) ((cutAh 35 l).drop 1), hf := l.contains 35, frg := enc (setB 3) (cutBe 35 l) }) := Lib.hid rfl
 obtain ⟨h1, h2⟩ := cut_ix 35 l
 have h3 := cont_ix 35 l
 have h4 := ixS_le [35] l
 have HAT := Lib.hid fun w1 => specAt_walk [35] l w1 (by simp) (by omega)
 have hx1 := cutAh_le 35 l
 have hy1 := cutBe_le 35 l
 generalize ixS [35] l = k at h1 h2 h3 h4 HAT
 have hex := B_take l k
 rw [← h1] at hex
 have hey : (B l).extract (k + 1) l.length = B (l.drop (k + 1)) := by rw [B_extract, List.take_of_length_le (by simp)]
 rw [← h2] at hey
 have hy0 : ¬ k < l.length → cutBe 35 l = [] := fun q => by rw [h2, List.drop_eq_nil_of_le (by omega)]
 have HY0 := Lib.hid hy0
 have H3 := Lib.hid h3
 clear h1 h2 h3 hy0
 generalize cutAh 35 l = x at HQ hex hx1
 generalize cutBe 35 l = y at HQ hey hy1 HY0
 generalize l.contains 35 = b at HQ H3
 obtain ⟨K2, K4, HB⟩ := two_new w (uCells u (.slice A n c))
 unfold zz at K2 K4 HB
 go_enter Tryz.func107, Tryz.ntmps107
 go_wp2_with fail
 generalize (w.alloc (.cells (uCells u (.slice A n c)) 27)).alloc (.cells #[.string ⟨#[]⟩, .string ⟨#[]⟩, .string ⟨#[]⟩, .int .i64 0, .string ⟨#[]⟩, .int .i64 0, .int .i64 0, .slice none 0 0, .string ⟨#[]⟩, .bool false, .string ⟨#[]⟩, .bool false, .string ⟨#[]⟩] 27) = w1 at K2 K4 HB ⊢
 have hne : w.heap.size + 1 ≠ w.heap.size := by omega
 have hge : w.heap.size ≤ w.heap.size + 1 := by omega
 generalize w.heap.size + 1 = g at K4 hne hge ⊢
 refine (HAT.out _).mono ?_
 rintro e w2 ⟨rfl, hb2⟩
 have K22 := K2.below hb2
 have K42 := K4.below hb2
 have HB2 := Lib.hid (below_then HB HB.size hb2)
 clear K2 K4 HB hb2
 go_upto_if 11 with fail
 go_cut [5] (fun v wc => v = .int .i64 k ∧ ∃ w3, w3 = wc ∧ Blk w3 w.heap.size (uCells { u with hf := b, frg := enc (setB 3) y } (.slice A n c)) ∧ Blk w3 g zz ∧ Below w.heap.size w w3)
 case first =>
  by_cases hk : k < l.length
  ·obtain rfl : b = true := by rw [H3.out]; exact decide_eq_true hk
   have kc := K22.cells
   have hk1 : (k : Int) + 1 ≤ (l.length : Int) := by omega
   go_wp2_with fail
   have K23 : Blk (w2.setCell ⟨w.heap.size, 11, none⟩ (.bool true)) w.heap.size (uCells { u with hf := true } (.slice A n c)) := K22.put 11 _
   have K43 := K42.far (p := ⟨w.heap.size, 11, none⟩) hne (.bool true)
   have HB3 := Lib.hid (HB2.out.setCell (p := ⟨w.heap.size, 11, none⟩) (Nat.le_refl _) (.bool true))
   generalize w2.setCell ⟨w.heap.size, 11, none⟩ (.bool true) = w3 at K23 K43 HB3 ⊢
   clear kc K22 K42 HB2
   refine (specEnc_walk 3 y _ (by omega)).mono ?_
   rintro e w4 ⟨rfl, hb4⟩
   have K24 := K23.below hb4
   have K44 := K43.below hb4
   have HB4 := Lib.hid (below_then HB3.out HB3.out.size hb4)
   have kc := K24.cells
   clear hb4 K23 K43 HB3
   go_wp2
   go_meet
   case rel => exact ⟨rfl, _, rfl, K24.put 12 _, K44.far (p := ⟨w.heap.size, 12, none⟩) hne _, HB4.out.setCell (p := ⟨w.heap.size, 12, none⟩) (Nat.le_refl _) _⟩
  ·obtain rfl : b = false := by rw [H3.out]; exact decide_eq_false hk
   obtain rfl := HY0.out hk
   have e0 : enc (setB 3) [] = [] := rfl
   have hu : ({ u with hf := false, frg := enc (setB 3) [] } : Ur) = u := by rw [e0, ← hf, ← hr]
   have HU := Lib.hid hu
   clear hu e0
   go_wp2
   go_meet
   case rel => exact ⟨rfl, _, rfl, by rw [HU.out]; exact K22, K42, HB2.out⟩
 case rest =>
  obtain ⟨rfl, w3, rfl, K23, K43, hb3⟩ := hcut
  have HB3 := Lib.hid hb3
  clear hb3 K22 K42 HB2
  obtain ⟨v, hv⟩ : ∃ v, v = ({ u with hf := b, frg := enc (setB 3) y } : Ur) := ⟨_, rfl⟩
  have hvq : v.hq = false := by rw [hv]; exact hq
  have hvy : v.qry = [] := by rw [hv]; exact hy
  have HQ2 : Hid (setTail u l = { v with hq := !x.isEmpty, qry := enc (setB 2) (x.drop 1) }) := Lib.hid (by rw [HQ.out, hv])
  rw [← hv] at K23
  clear hv hq hy hf hr HQ H3 HY0
  unfold zz at K43
  have kz := K43.cells
  cases x with
  | nil =>
   have HR : Hid (setTail u l = { v with hq := false, qry := [] }) := Lib.hid HQ2.out
   unfold uCells at K23
   have kc := K23.cells
   go_wp2
   refine bodyPost_ret (results_cell_row rfl _ _ g 27 _ (0, 0) _ rfl (Blk.put13 K43) Tryz.underlying27 rfl (by kernel_rfl)) rfl ?_
   exact ⟨by rw [HR.out]; rfl, below13 HB3.out hge⟩
  | cons d t =>
   have e2 : ((d :: t : Bs) != []) = true := rfl
   have e3 : (d :: t : Bs).isEmpty = false := rfl
   have ex : (B (d :: t)).extract 1 (t.length + 1) = B t := by rw [B_extract, List.take_of_length_le (by simp)]; rfl
   have kc := K23.cells
   rw [List.length_cons] at hx1
   go_wp2_with fail
   have K24 : Blk (w3.setCell ⟨w.heap.size, 9, none⟩ (.bool true)) w.heap.size (uCells { v with hq := true } (.slice A n c)) := K23.put 9 _
   have K44 := K43.far (p := ⟨w.heap.size, 9, none⟩) hne (.bool true)
   have HB4 := Lib.hid (HB3.out.setCell (p := ⟨w.heap.size, 9, none⟩) (Nat.le_refl _) (.bool true))
   generalize w3.setCell ⟨w.heap.size, 9, none⟩ (.bool true) = w4 at K24 K44 HB4 ⊢
   clear kc kz K23 K43 HB3
   refine (specEnc_walk 2 t _ (by omega)).mono ?_
   rintro e w5 ⟨rfl, hb5⟩
   have K25 : Blk (w5.setCell ⟨w.heap.size, 10, none⟩ (.string (B (enc (setB 2) t)))) w.heap.size (uCells { v with hq := true, qry := enc (setB 2) t } (.slice A n c)) := (K24.below hb5).put 10 _
   have kc := (K24.below hb5).cells
   have K45 := (K44.below hb5).far (p := ⟨w.heap.size, 10, none⟩) hne (.string (B (enc (setB 2) t)))
   have HB5 := Lib.hid ((below_then HB4.out HB4.out.size hb5).setCell (p := ⟨w.heap.size, 10, none⟩) (Nat.le_refl _) (.string (B (enc (setB 2) t))))
   have HR : Hid (setTail u l = { v with hq := true, qry := enc (setB 2) t }) := Lib.hid HQ2.out
   clear hb5 K24 K44 HB4
   go_upto_region 9 with fail
   generalize w5.setCell ⟨w.heap.size, 10, none⟩ (.string (B (enc (setB 2) t))) = w6 at K25 K45 HB5 ⊢
   clear kc
   unfold uCells at K25
   have kc := K25.cells
   have kz := K45.cells
   go_wp2
   refine bodyPost_ret (results_cell_row rfl _ _ g 27 _ (0, 0) _ rfl (Blk.put13 K45) Tryz.underlying27 rfl (by kernel_rfl)) rfl ?_
   exact ⟨by rw [HR.out]; rfl, below13 HB5.out hge⟩
set_option maxHeartbeats 4000000 in
set_option maxRecDepth 100000 in
theorem specWho_walk (u : Ur) (pv : Value) (l : Bs) (w : World) (hl : l.length ≤ 200) (hp : u.pas = []) (hpv : ∃ A n c, pv = .slice A n c) :
  Calls Tryz.prog 162 #[.agg (uCells u pv), .string (B l)] w fun e w' => e = .returned (.agg (uCells (setWho u l) pv)) ∧ Below w.heap.size w w' := by
 obtain ⟨A, n, c, rfl⟩ := hpv
 have HQ : Hid (setWho u l = { u with usr := enc (setB 4) (cutAh 58 l), pas := enc (setB 4) (cutBe 58 l) }) := Lib.hid rfl
 obtain ⟨h1, h2⟩ := cut_ix 58 l
 have h4 := ixS_le [58] l
 have HAT := Lib.hid fun w1 => specAt_walk [58] l w1 (by simp) (by omega)
 have hx1 := cutAh_le 58 l
 have hy1 := cutBe_le 58 l
 generalize ixS [58] l = k at h1 h2 h4 HAT
 have hex := B_take l k
 rw [← h1] at hex
 have hey : (B l).extract (k + 1) l.length = B (l.drop (k + 1)) := by rw [B_extract, List.take_of_length_le (by simp)]
 rw [← h2] at hey
 have hy0 : ¬ k < l.length → cutBe 58 l = [] := fun q => by rw [h2, List.drop_eq_nil_of_le (by omega)]
 have HY0 := Lib.hid hy0
 clear h1 h2 hy0
 generalize cutAh 58 l = x at HQ hex hx1
 generalize cutBe 58 l = y at HQ hey hy1 HY0
 obtain ⟨K2, K4, HB⟩ := two_new w (uCells u (.slice A n c))
 unfold zz at K2 K4 HB
 go_enter Tryz.func162, Tryz.ntmps162
 go_wp2_with fail
 generalize (w.alloc (.cells (uCells u (.slice A n c)) 27)).alloc (.cells #[.string ⟨#[]⟩, .string ⟨#[]⟩, .string ⟨#[]⟩, .int .i64 0, .string ⟨#[]⟩, .int .i64 0, .int .i64 0, .slice none 0 0, .string ⟨#[]⟩, .bool false, .string ⟨#[]⟩, .bool false, .string ⟨#[]⟩] 27) = w1 at K2 K4 HB ⊢
 have hne : w.heap.size + 1 ≠ w.heap.size := by omega
 have hge : w.heap.size ≤ w.heap.size + 1 := by omega
 generalize w.heap.size + 1 = g at K4 hne hge ⊢
 refine (HAT.out _).mono ?_
 rintro e w2 ⟨rfl, hb2⟩
 have K22 := K2.below hb2
 have K42 := K4.below hb2
 have HB2 := Lib.hid (below_then HB HB.size hb2)
 clear K2 K4 HB hb2
 go_wp2_with fail
 refine (specEnc_walk 4 x _ (by omega)).mono ?_
 rintro e w3 ⟨rfl, hb3⟩
 have kc := (K22.below hb3).cells
 have K24 : Blk (w3.setCell ⟨w.heap.size, 1, none⟩ (.string (B (enc (setB 4) x)))) w.heap.size (uCells { u with usr := enc (setB 4) x } (.slice A n c)) := (K22.below hb3).put 1 _
 have K44 := (K42.below hb3).far (p := ⟨w.heap.size, 1, none⟩) hne (.string (B (enc (setB 4) x)))
 have HB4 := Lib.hid ((below_then HB2.out HB2.out.size hb3).setCell (p := ⟨w.heap.size, 1, none⟩) (Nat.le_refl _) (.string (B (enc (setB 4) x))))
 clear hb3 K22 K42 HB2
 by_cases hk : k < l.length
 ·have hk1 : (k : Int) + 1 ≤ (l.length : Int) := by omega
  go_upto_region 4 with fail
  generalize w3.setCell ⟨w.heap.size, 1, none⟩ (.string (B (enc (setB 4) x))) = w4 at K24 K44 HB4 ⊢
  clear kc
  go_wp2_with fail
  refine (specEnc_walk 4 y _ (by omega)).mono ?_
  rintro e w5 ⟨rfl, hb5⟩
  have kc := (K24.below hb5).cells
  have K26 : Blk (w5.setCell ⟨w.heap.size, 2, none⟩ (.string (B (enc (setB 4) y)))) w.heap.size (uCells { u with usr := enc (setB 4) x, pas := enc (setB 4) y } (.slice A n c)) := (K24.below hb5).put 2 _
  have K46 := (K44.below hb5).far (p := ⟨w.heap.size, 2, none⟩) hne (.string (B (enc (setB 4) y)))
  have HB6 := Lib.hid ((below_then HB4.out HB4.out.size hb5).setCell (p := ⟨w.heap.size, 2, none⟩) (Nat.le_refl _) (.string (B (enc (setB 4) y))))
  clear hb5 K24 K44 HB4
  go_upto_region 5 with fail
  generalize w5.setCell ⟨w.heap.size, 2, none⟩ (.string (B (enc (setB 4) y))) = w6 at K26 K46 HB6 ⊢
  clear kc
  unfold uCells at K26
  have kc := K26.cells
  have kz := K46.cells
  go_wp2
  refine bodyPost_ret (results_cell_row rfl _ _ g 27 _ (0, 0) _ rfl (Blk.put13 K46) Tryz.underlying27 rfl (by kernel_rfl)) rfl ?_
  exact ⟨by rw [HQ.out]; rfl, below13 HB6.out hge⟩
 ·have HR : Hid (setWho u l = { u with usr := enc (setB 4) x, pas := [] }) := Lib.hid (by rw [HQ.out, HY0.out hk]; rfl)
  clear HY0 HQ
  go_upto_region 5 with fail
  generalize w3.setCell ⟨w.heap.size, 1, none⟩ (.string (B (enc (setB 4) x))) = w4 at K24 K44 HB4 ⊢
  clear kc
  unfold uCells at K24
  have kc := K24.cells
  have kz := K44.cells
  go_wp2
  refine bodyPost_ret (results_cell_row rfl _ _ g 27 _ (0, 0) _ rfl (Blk.put13 K44) Tryz.underlying27 rfl (by kernel_rfl)) rfl ?_
  exact ⟨by rw [HR.out]; rfl, below13 HB4.out hge⟩
end Go.Proofs.YtopcpbokfngpeaaGreatDoor.H
/- spec.l3Authority: what the call comes to. No condition. -/
set_option linter.unusedVariables false
namespace Go.Proofs.YtopcpbokfngpeaaGreatDoor.H
open Go.RowKit Go.Proofs.YtopcpbokfngpeaaGreatDoorW.PrintWords Go.Proofs.YtopcpbokfngpeaaGreatDoor.Base Go.Proofs.YtopcpbokfngpeaaGreatDoor.Pure
theorem portS_ok (l : Bs) (own : Int) : (portV l own).isSome = (portS l own != -2) ∧ ((portV l own).isSome = true → (portV l own).getD 0 = portS l own) := by
 unfold portS
 cases h : portV l own with
 | none => exact ⟨rfl, fun q => by cases q⟩
 | some n =>
  have := portV_rng _ _ _ h
  refine ⟨?_, fun _ => rfl⟩
  show true = (n != -2)
  symm
  rw [bne_iff_ne]; omega
theorem Bel.set {w0 w : World} {g i : Nat} (h : Bel w0 w) (hge : w0.heap.size ≤ g) (v : Value) : Bel w0 (w.setCell ⟨g, i, none⟩ v) := Below.setCell (p := ⟨g, i, none⟩) h hge v
abbrev Held1 (w0 : World) (g i : Nat) (c : Value) (w : World) : Prop := w.cell? ⟨g, i, none⟩ = some c ∧ Below w0.heap.size w0 w
theorem Held1.go {w0 w w1 : World} {g i : Nat} {c : Value} (h : Held1 w0 g i c w) (hb : Below w.heap.size w w1) : Held1 w0 g i c w1 := ⟨pw_cell_below hb h.1, below_then h.2 h.2.size hb⟩
theorem Held1.drew {w0 w : World} {g i : Nat} {c : Value} (h : Held1 w0 g i c w) : Held1 w0 g i c w.drew := h.go (below_drew (Below.refl _ _))
set_option maxHeartbeats 1500000 in
set_option maxRecDepth 100000 in
theorem specAuthority_walk (u : Ur) (pv : Value) (l : Bs) (w : World) (hl : l.length ≤ 200) (hp : u.pas = []) (hpv : ∃ A n c, pv = .slice A n c) :
  Calls Tryz.prog 139 #[.agg (uCells u pv), .string (B l)] w fun e w' => (∃ v : Ur, e = .returned (.tuple #[.agg (uCells v pv), .bool (authOk u l)]) ∧ (authOk u l = true → v = setAuth u l)) ∧ Below w.heap.size w w' := by
 obtain ⟨A, n, c, rfl⟩ := hpv
 obtain ⟨V, hV⟩ : ∃ V, V = (if 0 ≤ atN l then setWho u (ahAt l) else u) := ⟨_, rfl⟩
 have HV := Lib.hid hV
 have hVs : V.sch = u.sch := by rw [hV]; split <;> rfl
 have hr := atN_rng l
 have hal := ahAt_len l
 have hzl := behAt_len l
 have HW := Lib.hid fun w1 => specWho_walk u (.slice A n c) (ahAt l) w1 (by omega) hp ⟨A, n, c, rfl⟩
 have HAt := Lib.hid (lastAt_drop l)
 obtain ⟨K2, K4, HB⟩ := two_new w (uCells u (.slice A n c))
 unfold zz at K2 K4 HB
 have HSA := Lib.hid (setAuth_eq u l)
 have HAO := Lib.hid (authOk_eq u l)
 generalize authOk u l = ok at HAO ⊢
 rw [← hV] at HSA
 clear hV hp
 go_enter Tryz.func139, Tryz.ntmps139
 go_upto_region 1 with fail
 generalize (w.alloc (.cells (uCells u (.slice A n c)) 27)).alloc (.cells #[.string ⟨#[]⟩, .string ⟨#[]⟩, .string ⟨#[]⟩, .int .i64 0, .string ⟨#[]⟩, .int .i64 0, .int .i64 0, .slice none 0 0, .string ⟨#[]⟩, .bool false, .string ⟨#[]⟩, .bool false, .string ⟨#[]⟩] 27) = w1 at K2 K4 HB ⊢
 have hne : w.heap.size + 1 ≠ w.heap.size := by omega
 have hge : w.heap.size ≤ w.heap.size + 1 := by omega
 generalize w.heap.size + 1 = g at K4 hne hge ⊢
 go_upto_block 0 with fail
 go_cut [6] (fun v wc => v = .int .i64 (atN l) ∧ w1 = wc)
 case first =>
  go_wp2_with fail
  go_loop [6, 7] (fun a i => ∃ (k : Nat) (m : Int), k ≤ l.length ∧ i = .int .i64 k ∧ a = .int .i64 m ∧ Hid (lastAt k m (l.drop k) = atN l)) (fun _ i => l.length - (intOf i).toNat)
  case atStart => exact ⟨0, -1, by omega, rfl, rfl, Lib.hid rfl⟩
  case round =>
   obtain ⟨k, m, hk, rfl, rfl, HM⟩ := hrel
   by_cases hlt : k < l.length
   ·have hst := HAt.out k hlt m
    rw [HM.out] at hst
    by_cases hc : l[k] = 64
    ·have hb : (((l[k].toNat : Nat) : Int) == 64) = true := by rw [hc]; rfl
     rw [if_pos hc] at hst
     have HS := Lib.hid hst
     clear hst hc
     go_wp2
     go_round
     case rel => exact ⟨k + 1, k, by omega, by go_num, rfl, Lib.hid HS.out.symm⟩
     case measure => simp [intOf]; omega
    ·have hb : (((l[k].toNat : Nat) : Int) == 64) = false := beq_eq_false_iff_ne.2 fun q => hc (UInt8.toNat_inj.1 (by show l[k].toNat = 64; omega))
     rw [if_neg hc] at hst
     have HS := Lib.hid hst
     clear hst hc
     go_wp2
     go_round
     case rel => exact ⟨k + 1, m, by omega, by go_num, rfl, Lib.hid HS.out.symm⟩
     case measure => simp [intOf]; omega
   ·obtain rfl : k = l.length := by omega
    have HZ : Hid (m = atN l) := Lib.hid (by rw [← HM.out, List.drop_length]; rfl)
    clear HM
    go_wp2
    go_meet
    case rel => exact ⟨by rw [HZ.out], rfl⟩
 case rest =>
  obtain ⟨rfl, rfl⟩ := hcut
  clear HAt
  obtain ⟨m, hm⟩ : ∃ m, m = atN l := ⟨_, rfl⟩
  rw [← hm] at hr
  have HM := Lib.hid hm
  clear hm
  rw [← HM.out]
  go_upto_if 23 with fail
  go_cut [6] (fun v wc => v = .int .i64 m ∧ ∃ w3, w3 = wc ∧ Blk w3 w.heap.size (uCells V (.slice A n c)) ∧ Blk w3 g zz ∧ Below w.heap.size w w3)
  case first =>
   by_cases h0 : 0 ≤ m
   ·obtain ⟨k, rfl⟩ : ∃ k : Nat, m = (k : Int) := ⟨m.toNat, by omega⟩
    have hk : k < l.length := by omega
    have hk1 : (k : Int) ≤ (l.length : Int) := by omega
    have hk0 : (0 : Int) ≤ (k : Int) := by omega
    have hex : (B l).extract 0 k = B (ahAt l) := by rw [B_take]; unfold ahAt; rw [← HM.out]; rfl
    have HV2 : Hid (V = setWho u (ahAt l)) := Lib.hid (by rw [HV.out, ← HM.out, if_pos h0])
    have hbel : Bel w w1 := HB
    have kc := Blk.cells (w := w1.drew) (K2.below (below_drew (Below.refl _ _)))
    unfold uCells at HW
    go_wp2_with fail
    go_region_with
     ((go_at_call 162; refine (HW.out _).mono ?_; rintro e w2 ⟨rfl, hb2⟩; have K22 := Blk.below (w := w1.drew) K2 hb2; have K42 := Blk.below (w := w1.drew) K4 hb2; have kc2 := Blk.cells K22))
    all_goals
     go_wp2
     go_meet
     case rel => exact ⟨rfl, _, rfl, by rw [HV2.out]; exact Blk.put13 K22, K42.grown (grown13 (grown_b (Below.refl _ w2))) hne, below13 (below_then (below_drew HB) HB.size hb2) (Nat.le_refl _)⟩
   ·have hm : m = -1 := by omega
    subst hm
    have HV2 : Hid (V = u) := Lib.hid (by rw [HV.out, ← HM.out, if_neg h0])
    go_wp2
    go_meet
    case rel => exact ⟨rfl, _, rfl, by rw [HV2.out]; exact K2, K4, HB⟩
  case rest =>
   obtain ⟨rfl, w3, rfl, K23, K43, hb3⟩ := hcut
   have HB3 := Lib.hid hb3
   clear hb3 K2 K4 HB HW HV
   obtain ⟨j, rfl⟩ : ∃ j : Nat, m = (j : Int) - 1 := ⟨(m + 1).toNat, by omega⟩
   have hj : (j : Int) ≤ (l.length : Int) := by omega
   have hwj : IntKind.i64.wrap ((j : Int) - 1 + 1) = (j : Int) := by rw [i64wrap, w64 (by omega) (by omega)]; omega
   have hez : (B l).extract j l.length = B (behAt l) := by
    rw [B_extract, List.take_of_length_le (by simp)]; unfold behAt; rw [← HM.out]
    have : ((j : Int) - 1 + 1).toNat = j := by omega
    rw [this]
   generalize behAt l = z at hez hzl HSA HAO
   go_wp2_with fail
   obtain ⟨h1, h2⟩ := cut_ix 58 z
   have h4 := ixS_le [58] z
   have HAT := Lib.hid fun w1 => specAt_walk [58] z w1 (by simp) (by omega)
   generalize ixS [58] z = k at h1 h2 h4 HAT ⊢
   have hex := B_take z k
   rw [← h1] at hex
   have hey : (B z).extract (k + 1) z.length = B (z.drop (k + 1)) := by rw [B_extract, List.take_of_length_le (by simp)]
   rw [← h2] at hey
   have HY0 : Hid (¬ k < z.length → cutBe 58 z = []) := Lib.hid fun q => by rw [h2, List.drop_eq_nil_of_le (by omega)]
   have hx1 := cutAh_le 58 z
   have hy1 := cutBe_le 58 z
   clear h1 h2
   generalize cutAh 58 z = x at hex hx1 HSA HAO
   generalize cutBe 58 z = y at hey hy1 HSA HAO HY0
   refine (HAT.out _).mono ?_
   rintro e w4 ⟨rfl, hb4⟩
   have K24 := K23.below hb4
   have K44 := K43.below hb4
   have HB4 := Lib.hid (below_then HB3.out HB3.out.size hb4)
   clear hb4 K23 K43 HB3 HAT
   go_wp2_with fail
   have HHG := Lib.hid fun w1 => specHostGet_walk x w1 (by omega)
   generalize (hostGV x).1 = hk at HSA HHG
   generalize (hostGV x).2.1.data.toList = hn at HSA HHG
   generalize (hostGV x).2.2.1 = ha at HSA HHG
   generalize (hostGV x).2.2.2 = hok at HAO HHG
   refine (HHG.out _).mono ?_
   rintro e w5 ⟨rfl, hb5⟩
   have K25 := K24.below hb5
   have K45 := K44.below hb5
   have HB5 := Lib.hid (below_then HB4.out HB4.out.size hb5)
   clear hb5 K24 K44 HB4 HHG
   go_upto_region 12 with fail
   have H36 : (w5.alloc (.cells #[.int .i64 hk, .string (B hn), .int .i64 ha] 24)).cell? ⟨w5.heap.size, 0, none⟩ = some (.int .i64 hk) ∧ (w5.alloc (.cells #[.int .i64 hk, .string (B hn), .int .i64 ha] 24)).cell? ⟨w5.heap.size, 1, none⟩ = some (.string (B hn)) ∧ (w5.alloc (.cells #[.int .i64 hk, .string (B hn), .int .i64 ha] 24)).cell? ⟨w5.heap.size, 2, none⟩ = some (.int .i64 ha) := (Held3.new w5 _ _ _ _).1
   have K26 := K25.below (below_alloc (Below.refl w5.heap.size w5) (.cells #[.int .i64 hk, .string (B hn), .int .i64 ha] 24))
   have K46 := K45.below (below_alloc (Below.refl w5.heap.size w5) (.cells #[.int .i64 hk, .string (B hn), .int .i64 ha] 24))
   have HB6 := Lib.hid (HB5.out.alloc HB5.out.size (.cells #[.int .i64 hk, .string (B hn), .int .i64 ha] 24))
   generalize w5.alloc (.cells #[.int .i64 hk, .string (B hn), .int .i64 ha] 24) = w6 at H36 K26 K46 HB6 ⊢
   generalize w5.heap.size = hb at H36 ⊢
   have kc := K26.cells
   clear K25 K45 HB5
   go_upto_region 13 with fail
   have K27 : Blk (((w6.setCell ⟨w.heap.size, 3, none⟩ (.int .i64 hk)).setCell ⟨w.heap.size, 4, none⟩ (.string (B hn))).setCell ⟨w.heap.size, 5, none⟩ (.int .i64 ha)) w.heap.size (uCells { V with hk := hk, hn := hn, ha := ha } (.slice A n c)) := ((K26.put 3 _).put 4 _).put 5 _
   have K47 := ((K46.far (p := ⟨w.heap.size, 3, none⟩) hne (.int .i64 hk)).far (p := ⟨w.heap.size, 4, none⟩) hne (.string (B hn))).far (p := ⟨w.heap.size, 5, none⟩) hne (.int .i64 ha)
   have HB7 := Lib.hid (((HB6.out.setCell (p := ⟨w.heap.size, 3, none⟩) (Nat.le_refl _) (.int .i64 hk)).setCell (p := ⟨w.heap.size, 4, none⟩) (Nat.le_refl _) (.string (B hn))).setCell (p := ⟨w.heap.size, 5, none⟩) (Nat.le_refl _) (.int .i64 ha))
   generalize ((w6.setCell ⟨w.heap.size, 3, none⟩ (.int .i64 hk)).setCell ⟨w.heap.size, 4, none⟩ (.string (B hn))).setCell ⟨w.heap.size, 5, none⟩ (.int .i64 ha) = w7 at K27 K47 HB7 ⊢
   clear kc H36 K26 K46 HB6
   have kc := K27.cells
   go_upto_if 48 with fail
   have K28 : Blk (w7.setCell ⟨w.heap.size, 6, none⟩ (.int .i64 (-1))) w.heap.size (uCells { V with hk := hk, hn := hn, ha := ha, port := -1 } (.slice A n c)) := K27.put 6 _
   have K48 := K47.far (p := ⟨w.heap.size, 6, none⟩) hne (.int .i64 (-1))
   have HB8 := Lib.hid (HB7.out.setCell (p := ⟨w.heap.size, 6, none⟩) (Nat.le_refl _) (.int .i64 (-1)))
   generalize w7.setCell ⟨w.heap.size, 6, none⟩ (.int .i64 (-1)) = w8 at K28 K48 HB8 ⊢
   clear kc K27 K47 HB7
   have hps := portS_ok y (ownP u.sch)
   obtain ⟨po, hpo⟩ : ∃ po, po = portS y (ownP u.sch) := ⟨_, rfl⟩
   rw [← hpo] at hps
   have HPO := Lib.hid hpo
   clear hpo
   have HOK : Hid (ok = (hok && (po != -2))) := Lib.hid (by
    rw [HAO.out]; unfold portA; rw [← hps.1]
    cases portV y (ownP u.sch) <;> rfl)
   have HSU : Hid (ok = true → ({ V with hk := hk, hn := hn, ha := ha, port := po } : Ur) = setAuth u l) := Lib.hid fun q => by
    rw [HSA.out]
    have h2 : (portV y (ownP u.sch)).isSome = true := by
     rw [hps.1]; have := HOK.out; rw [q] at this; cases hok
     ·cases this
     ·simpa using this.symm
    have e : (portA y (ownP u.sch)).1 = po := by
     rw [← hps.2 h2]; unfold portA
     cases portV y (ownP u.sch) <;> rfl
    rw [e]
   clear hps HSA HAO
   go_cut [10] (fun v wc => v = .bool hok ∧ ∃ w9, w9 = wc ∧ Blk w9 w.heap.size (uCells { V with hk := hk, hn := hn, ha := ha, port := po } (.slice A n c)) ∧ Blk w9 g zz ∧ Below w.heap.size w w9)
   case first =>
    by_cases hk1 : k < z.length
    ·have hk2 : (k : Int) + 1 ≤ (z.length : Int) := by omega
     have hk3 : (k : Int) < (z.length : Int) := by omega
     have hw2 : IntKind.i64.wrap ((k : Int) + 1) = (k : Int) + 1 := by rw [i64wrap, w64 (by omega) (by omega)]
     have HOW := Lib.hid fun w1 => specOwn_walk u.sch w1
     have HPW := Lib.hid fun w1 => specPort_walk y (ownP u.sch) w1 (by omega)
     rw [← HPO.out] at HPW
     rw [← hVs] at HOW HPW
     clear HPO hVs
     have kc := Blk.cells (w := w8.drew) (K28.below (below_drew (Below.refl _ _)))
     go_wp2_with fail
     go_region_with (first | (go_at_call 41; refine (HOW.out _).mono ?_; rintro e w9 ⟨rfl, hw9⟩; subst w9) | (go_at_call 163; refine (HPW.out _).mono ?_; rintro e w9 ⟨rfl, hb9⟩; have K29 := Blk.below (w := w8.drew) K28 hb9; have K49 := Blk.below (w := w8.drew) K48 hb9; have kc9 := Blk.cells K29))
     all_goals
      go_wp2
      go_meet
      case rel => exact ⟨rfl, _, rfl, K29.put 6 _, K49.far (p := ⟨w.heap.size, 6, none⟩) hne _, (below_then (below_drew HB8.out) HB8.out.size hb9).setCell (p := ⟨w.heap.size, 6, none⟩) (Nat.le_refl _) _⟩
    ·have HP1 : Hid (po = -1) := Lib.hid (by rw [HPO.out, HY0.out hk1]; rfl)
     go_wp2
     go_meet
     case rel => exact ⟨rfl, _, rfl, by rw [HP1.out]; exact K28, K48, HB8.out⟩
   case rest =>
    obtain ⟨rfl, w9, rfl, K29, K49, hb9⟩ := hcut
    have HB9 := Lib.hid hb9
    clear hb9 K28 K48 HB8 HY0 HPO hVs
    unfold uCells at K29
    unfold zz at K49
    have K410 := Blk.below (w1 := w9.drew) K49 (below_drew (Below.refl _ _))
    have kz := Blk.cells K410
    have kz9 := K49.cells
    have kc9 := K29.cells
    have HBX : Hid (Below w.heap.size w w9.drew) := Lib.hid (below_drew HB9.out)
    have HOK2 := Lib.hid HOK.out
    have HS9 : Held w w.heap.size (.string (B V.sch)) (.string (B V.usr)) (.string (B V.pas)) (.int .i64 hk) (.string (B hn)) (.int .i64 ha) (.int .i64 po) (.slice A n c) (.string (B V.opq)) (.bool V.hq) (.string (B V.qry)) (.bool V.hf) (.string (B V.frg)) w9 := ⟨K29.cells.1, HB9.out⟩
    cases hok with
    | false =>
     have HO : Hid (ok = false) := Lib.hid HOK2.out
     go_wp2_with fail
     first | (go_region_with (fail)) | fail
     all_goals
      go_wp2
      refine bodyPost_ret (results_ct rfl _ _ g 27 _ (0, 0) _ rfl (Blk.below (Blk.put13 K49) (below_drew (Below.refl _ _))) Tryz.underlying27 rfl (by kernel_rfl)) rfl ?_
      exact ⟨⟨{ V with hk := hk, hn := hn, ha := ha, port := po }, by rw [HO.out]; rfl, HSU.out⟩, below_drew (below13 HB9.out hge)⟩
    | true =>
     cases hb2 : (po != -2)
     all_goals
      have HO := HOK2.out
      rw [hb2] at HO
      have hb3 : (po == -2) = !(po != -2) := by unfold bne; rw [Bool.not_not]
      rw [hb2] at hb3
      have HO := Lib.hid HO
      go_wp2_with fail
      go_region_held3 (Held w w.heap.size (.string (B V.sch)) (.string (B V.usr)) (.string (B V.pas)) (.int .i64 hk) (.string (B hn)) (.int .i64 ha) (.int .i64 po) (.slice A n c) (.string (B V.opq)) (.bool V.hq) (.string (B V.qry)) (.bool V.hf) (.string (B V.frg)))
       (first | (with_reducible assumption) | ((with_reducible refine Held.drew ?_); (with_reducible assumption)) | ((with_reducible refine Held.drew (Held.far13 ?_ hne hge)); (with_reducible assumption)) | ((with_reducible refine Held.far13 ?_ hne hge); (with_reducible assumption)))
       (fail)
     all_goals
      go_wp2
      refine bodyPost_ret (results_ct rfl _ _ g 27 _ (0, 0) _ rfl (Blk.below (Blk.put13 K49) (below_drew (Below.refl _ _))) Tryz.underlying27 rfl (by kernel_rfl)) rfl ?_
      exact ⟨⟨{ V with hk := hk, hn := hn, ha := ha, port := po }, by rw [HO.out]; rfl, HSU.out⟩, below_drew (below13 HB9.out hge)⟩
end Go.Proofs.YtopcpbokfngpeaaGreatDoor.H
/- spec.l3Hosted: what the call comes to. No condition. -/
set_option linter.unusedVariables false
namespace Go.Proofs.YtopcpbokfngpeaaGreatDoor.H
open Go.RowKit Go.Proofs.YtopcpbokfngpeaaGreatDoorW.PrintWords Go.Proofs.YtopcpbokfngpeaaGreatDoor.Base Go.Proofs.YtopcpbokfngpeaaGreatDoor.Pure
theorem ex_upA (S l : Bs) : (B l).extract 0 (ixS S l) = B (upA S l) := (B_take l _).trans (congrArg B (upA_take S l).symm)
theorem ex_upR (S l : Bs) : (B l).extract (ixS S l) l.length = B (upR S l) := by
 rw [B_extract, List.take_of_length_le (by simp)]; exact congrArg B (upR_drop S l).symm
theorem pathB_spec (l : Bs) : pathB pS l = pathB (setB 1) l := rfl
theorem q_of_R {w : World} {base : Nat} {v : Value} {ps : List Bs} (h : Kd.R Kd.string 9 w base (fun _ => True) v (ps.map B)) : QRow w base 9 1 v ps.length (strV ps) := by
 have := q_of_own (Kd.own_of_R h)
 have e : encs Value.string (ps.map B) = strV ps := by simp [encs, strV]
 rw [List.length_map, e] at this; exact this
theorem put13_all {w0 w : World} {g h : Nat} {zs : Array Value} {c0 c1 c2 c3 c4 c5 c6 c7 c8 c9 c10 c11 c12 : Value} (K : Blk w g #[c0, c1, c2, c3, c4, c5, c6, c7, c8, c9, c10, c11, c12]) (K' : Blk w h zs) (hne : h ≠ g) (hB : Below w0.heap.size w0 w) (hg : w0.heap.size ≤ g) (v0 v1 v2 v3 v4 v5 v6 v7 v8 v9 v10 v11 v12 : Value) :
  Blk (((((((((((((w.setCell ⟨g, 0, none⟩ v0).setCell ⟨g, 1, none⟩ v1).setCell ⟨g, 2, none⟩ v2).setCell ⟨g, 3, none⟩ v3).setCell ⟨g, 4, none⟩ v4).setCell ⟨g, 5, none⟩ v5).setCell ⟨g, 6, none⟩ v6).setCell ⟨g, 7, none⟩ v7).setCell ⟨g, 8, none⟩ v8).setCell ⟨g, 9, none⟩ v9).setCell ⟨g, 10, none⟩ v10).setCell ⟨g, 11, none⟩ v11).setCell ⟨g, 12, none⟩ v12) g #[v0, v1, v2, v3, v4, v5, v6, v7, v8, v9, v10, v11, v12] ∧ Blk (((((((((((((w.setCell ⟨g, 0, none⟩ v0).setCell ⟨g, 1, none⟩ v1).setCell ⟨g, 2, none⟩ v2).setCell ⟨g, 3, none⟩ v3).setCell ⟨g, 4, none⟩ v4).setCell ⟨g, 5, none⟩ v5).setCell ⟨g, 6, none⟩ v6).setCell ⟨g, 7, none⟩ v7).setCell ⟨g, 8, none⟩ v8).setCell ⟨g, 9, none⟩ v9).setCell ⟨g, 10, none⟩ v10).setCell ⟨g, 11, none⟩ v11).setCell ⟨g, 12, none⟩ v12) h zs ∧ Below w0.heap.size w0 (((((((((((((w.setCell ⟨g, 0, none⟩ v0).setCell ⟨g, 1, none⟩ v1).setCell ⟨g, 2, none⟩ v2).setCell ⟨g, 3, none⟩ v3).setCell ⟨g, 4, none⟩ v4).setCell ⟨g, 5, none⟩ v5).setCell ⟨g, 6, none⟩ v6).setCell ⟨g, 7, none⟩ v7).setCell ⟨g, 8, none⟩ v8).setCell ⟨g, 9, none⟩ v9).setCell ⟨g, 10, none⟩ v10).setCell ⟨g, 11, none⟩ v11).setCell ⟨g, 12, none⟩ v12) :=
 ⟨Blk.put13 K, K'.grown (grown13 (grown_b (Below.refl _ w))) hne, below13 hB hg⟩
set_option maxHeartbeats 2000000 in
set_option maxRecDepth 100000 in
theorem specHosted_walk (u : Ur) (pv : Value) (l : Bs) (w : World) (hl : l.length ≤ 200) (hp : u.pas = []) (hq : u.hq = false) (hy : u.qry = []) (hf : u.hf = false) (hr : u.frg = []) (hpv : ∃ A n c, pv = .slice A n c) :
  Calls Tryz.prog 108 #[.agg (uCells u pv), .string (B l)] w (UrlOut (if authOk u (upA [47, 92, 63, 35] l) = true then (setHosted u l, true) else (Ur.zero, false)) w) := by
 obtain ⟨A, n, c, rfl⟩ := hpv
 have l1 := up_len [47, 92, 63, 35] l
 have HA1 := Lib.hid fun w1 => specAt_walk [47, 92, 63, 35] l w1 (by simp) (by omega)
 have hix := ixS_le [47, 92, 63, 35] l
 have hex : (B l).extract 0 (ixS [47, 92, 63, 35] l) = B (upA [47, 92, 63, 35] l) := by rw [B_take]; congr 1; exact (upA_take _ _).symm
 have hey : (B l).extract (ixS [47, 92, 63, 35] l) l.length = B (upR [47, 92, 63, 35] l) := by
  rw [B_extract, List.take_of_length_le (by simp)]; congr 1; exact (upR_drop _ _).symm
 generalize ixS [47, 92, 63, 35] l = k at HA1 hix hex hey
 have HAU := Lib.hid fun w1 => specAuthority_walk u (.slice A n c) (upA [47, 92, 63, 35] l) w1 (by omega) hp ⟨A, n, c, rfl⟩
 unfold uCells at HAU
 have HU : Hid (setHosted u l = setTail { setAuth u (upA [47, 92, 63, 35] l) with path := pathB (setB 1) (upA [63, 35] (upR [47, 92, 63, 35] l)) } (upR [63, 35] (upR [47, 92, 63, 35] l))) := Lib.hid rfl
 obtain ⟨K2, K4, HB⟩ := two_new w (uCells u (.slice A n c))
 unfold zz at K2 K4 HB
 have hk0 : (k : Int) ≤ (l.length : Int) := by omega
 have hSA : ∀ a, (setAuth u a).hq = false ∧ (setAuth u a).qry = [] ∧ (setAuth u a).hf = false ∧ (setAuth u a).frg = [] := fun a => by
  rw [setAuth_eq]
  show (if 0 ≤ atN a then setWho u (ahAt a) else u).hq = false ∧ (if 0 ≤ atN a then setWho u (ahAt a) else u).qry = [] ∧ (if 0 ≤ atN a then setWho u (ahAt a) else u).hf = false ∧ (if 0 ≤ atN a then setWho u (ahAt a) else u).frg = []
  split <;> exact ⟨hq, hy, hf, hr⟩
 have HSF := Lib.hid (hSA (upA [47, 92, 63, 35] l))
 clear hSA hp hq hy hf hr
 generalize hres : (if authOk u (upA [47, 92, 63, 35] l) = true then (setHosted u l, true) else (Ur.zero, false)) = r
 have HRES := Lib.hid hres
 clear hres
 generalize authOk u (upA [47, 92, 63, 35] l) = ok at HAU HRES
 go_enter Tryz.func108, Tryz.ntmps108
 go_wp2_with fail
 generalize (w.alloc (.cells (uCells u (.slice A n c)) 27)).alloc (.cells #[.string ⟨#[]⟩, .string ⟨#[]⟩, .string ⟨#[]⟩, .int .i64 0, .string ⟨#[]⟩, .int .i64 0, .int .i64 0, .slice none 0 0, .string ⟨#[]⟩, .bool false, .string ⟨#[]⟩, .bool false, .string ⟨#[]⟩] 27) = w1 at K2 K4 HB ⊢
 have hne : w.heap.size + 1 ≠ w.heap.size := by omega
 have hge : w.heap.size ≤ w.heap.size + 1 := by omega
 have hlt : w.heap.size < w.heap.size + 1 := by omega
 generalize w.heap.size + 1 = g at K4 hne hge hlt ⊢
 refine (HA1.out _).mono ?_
 rintro e w2 ⟨rfl, hb2⟩
 have K22 := K2.below hb2
 have K42 := K4.below hb2
 have HB2 := Lib.hid (below_then HB HB.size hb2)
 clear K2 K4 HB hb2 HA1
 have kc := Blk.cells (w := w2.drew) (K22.below (below_drew (Below.refl _ _)))
 go_wp2_with fail
 go_region_with ((go_at_call 139; refine (HAU.out _).mono ?_; rintro e w3 ⟨⟨v, rfl, hv⟩, hb3⟩; have K23 := Blk.below (w := w2.drew) K22 hb3; have K43 := Blk.below (w := w2.drew) K42 hb3; have kc3 := Blk.cells K23))
 all_goals
  obtain ⟨K24, K44, hb4⟩ := put13_all K23 K43 hne (below_then (below_drew HB2.out) HB2.out.size hb3) (Nat.le_refl _) (.string (B v.sch)) (.string (B v.usr)) (.string (B v.pas)) (.int .i64 v.hk) (.string (B v.hn)) (.int .i64 v.ha) (.int .i64 v.port) (.slice A n c) (.string (B v.opq)) (.bool v.hq) (.string (B v.qry)) (.bool v.hf) (.string (B v.frg))
  have HB4 := Lib.hid hb4
  have HV := Lib.hid hv
  clear hb4 hb3 hv kc kc3 K22 K42 K23 K43 HB2 HAU
  cases ok with
  | false =>
   have HR : Hid (r = (Ur.zero, false)) := Lib.hid (by rw [← HRES.out]; rfl)
   have kz := K44.cells
   go_wp2
   refine bodyPost_ret (results_ct rfl _ _ g 27 _ (0, 0) _ rfl (Blk.put13 K44) Tryz.underlying27 rfl (by kernel_rfl)) rfl ?_
   exact ⟨.slice none 0 0, by rw [HR.out]; rfl, by rw [HR.out]; exact q_of_own (World.ownsRow_nil _ _ _ _), below13 HB4.out hge⟩
  | true =>
   have HR : Hid (r = (setHosted u l, true)) := Lib.hid (by rw [← HRES.out]; rfl)
   have HVE := Lib.hid (HV.out rfl)
   have HSFv : Hid (v.hq = false ∧ v.qry = [] ∧ v.hf = false ∧ v.frg = []) := Lib.hid (by rw [HVE.out]; exact HSF.out)
   have l2 := up_len [63, 35] (upR [47, 92, 63, 35] l)
   generalize upA [47, 92, 63, 35] l = a at *
   generalize upR [47, 92, 63, 35] l = b at *
   have HA2 := Lib.hid fun w1 => specAt_walk [63, 35] b w1 (by simp) (by omega)
   have hix2 := ixS_le [63, 35] b
   have hex2 := ex_upA [63, 35] b
   have hey2 := ex_upR [63, 35] b
   generalize ixS [63, 35] b = k2 at HA2 hix2 hex2 hey2
   have hk2 : (k2 : Int) ≤ (b.length : Int) := by omega
   generalize upA [63, 35] b = p at *
   generalize upR [63, 35] b = q at *
   go_wp2_with fail
   refine (HA2.out _).mono ?_
   rintro e w5 ⟨rfl, hb5⟩
   have K25 := K24.below hb5
   have K45 := K44.below hb5
   have HB5 := Lib.hid (below_then HB4.out HB4.out.size hb5)
   clear hb5 K24 K44 HB4 HA2
   have hglt := K45.lt
   go_wp2_with fail
   refine (specPathGet_walk p w5 (by omega)).mono ?_
   rintro e w6 ⟨pv, rfl, hR6, hb6⟩
   have hq6 := q_of_R hR6
   rw [pathB_spec] at hq6
   generalize pathB (setB 1) p = ps at hq6 HU
   obtain ⟨A2, c2, rfl, hAc⟩ := q_slice hq6
   have kc := (K25.below hb6).cells
   have K27 : Blk (w6.setCell ⟨w.heap.size, 7, none⟩ (.slice A2 ps.length c2)) w.heap.size (uCells { v with path := ps } (.slice A2 ps.length c2)) := (K25.below hb6).put 7 _
   have K47 := (K45.below hb6).far (p := ⟨w.heap.size, 7, none⟩) hne (.slice A2 ps.length c2)
   have HB7 := Lib.hid ((below_then HB5.out HB5.out.size hb6).setCell (p := ⟨w.heap.size, 7, none⟩) (Nat.le_refl _) (.slice A2 ps.length c2))
   have HQ7 := Lib.hid (q_grown hq6 (grown_put (g := w.heap.size) (grown_b (Below.refl _ w6)) 7 (.slice A2 ps.length c2)) (by omega))
   clear hR6 hq6 hb6 K25 K45 HB5
   go_upto_region 8 with fail
   generalize w6.setCell ⟨w.heap.size, 7, none⟩ (.slice A2 ps.length c2) = w7 at K27 K47 HB7 HQ7 ⊢
   clear kc
   have HTL := Lib.hid fun w1 => specTail_walk { v with path := ps } (.slice A2 ps.length c2) q w1 (by omega) HSFv.out.1 HSFv.out.2.1 HSFv.out.2.2.1 HSFv.out.2.2.2 ⟨A2, ps.length, c2, rfl⟩
   have HE : Hid (setHosted u l = setTail { v with path := ps } q) := Lib.hid (by rw [HU.out, HVE.out])
   unfold uCells at HTL
   have kc := Blk.cells (w := w7.drew) (K27.below (below_drew (Below.refl _ _)))
   go_region_with ((go_at_call 107; refine (HTL.out _).mono ?_; rintro e w8 ⟨rfl, hb8⟩; have K48 := Blk.below (w := w7.drew) K47 hb8; have kz := Blk.cells K48))
   all_goals
    go_wp2
    refine bodyPost_ret (results_ct rfl _ _ g 27 _ (0, 0) _ rfl (Blk.put13 K48) Tryz.underlying27 rfl (by kernel_rfl)) rfl ?_
    refine ⟨.slice A2 ps.length c2, by rw [HR.out, HE.out]; rfl, ?_, below13 (below_then (below_drew HB7.out) HB7.out.size hb8) hge⟩
    rw [HR.out, HE.out]
    show QRow _ _ _ _ _ ps.length (strV ps)
    exact q_lower (q_grown (q_below (w := w7.drew) HQ7.out hb8) (grown13 (g := g) (grown_b (Below.refl _ w8))) hglt) (by omega)
end Go.Proofs.YtopcpbokfngpeaaGreatDoor.H
/- spec.l3Read: what the call comes to. No condition. -/
set_option linter.unusedVariables false
namespace Go.Proofs.YtopcpbokfngpeaaGreatDoor.H
open Go.RowKit Go.Proofs.YtopcpbokfngpeaaGreatDoorW.PrintWords Go.Proofs.YtopcpbokfngpeaaGreatDoor.Base Go.Proofs.YtopcpbokfngpeaaGreatDoor.Pure
def readS (s r : Bs) : Ur × Bool := if ownP s < 0 then (opaqueU s r, true) else if authOk (baseU s) (upA [47, 92, 63, 35] (offSl r)) = true then (hostedU s r, true) else (Ur.zero, false)
theorem two_any (w : World) (cs ds : Array Value) : Blk ((w.alloc (.cells cs 27)).alloc (.cells ds 27)) w.heap.size cs ∧ Blk ((w.alloc (.cells cs 27)).alloc (.cells ds 27)) (w.heap.size + 1) ds ∧ Below w.heap.size w ((w.alloc (.cells cs 27)).alloc (.cells ds 27)) := by
 refine ⟨Blk.below (w := w.alloc (.cells cs 27)) (blk_new w (.cells cs 27 (0, 0))) (below_alloc (Below.refl _ _) _), ?_, ((Below.refl _ w).alloc (Nat.le_refl _) _).alloc (by simp) _⟩
 have := blk_new (w.alloc (.cells cs 27)) (.cells ds 27 (0, 0))
 have e : (w.alloc (.cells cs 27)).heap.size = w.heap.size + 1 := by simp
 rw [e] at this; exact this
set_option maxHeartbeats 2000000 in
set_option maxRecDepth 100000 in
theorem specRead_walk (s r : Bs) (w : World) (hl : s.length + r.length ≤ 200) :
  Calls Tryz.prog 71 #[.string (B s), .string (B r)] w (UrlOut (readS s r) w) := by
 by_cases ho : ownP s < 0
 ·have hb : decide (ownP s < 0) = true := decide_eq_true ho
  have HR : Hid (readS s r = (opaqueU s r, true)) := Lib.hid (by unfold readS; rw [if_pos ho])
  generalize readS s r = x at HR ⊢
  go_enter Tryz.func71, Tryz.ntmps71
  go_wp2_with fail
  obtain ⟨K4, K6, HB⟩ := two_any w #[.string ⟨#[]⟩, .string ⟨#[]⟩, .string ⟨#[]⟩, .int .i64 0, .string ⟨#[]⟩, .int .i64 0, .int .i64 0, .slice none 0 0, .string ⟨#[]⟩, .bool false, .string ⟨#[]⟩, .bool false, .string ⟨#[]⟩] #[.string (B s), .string ⟨#[]⟩, .string ⟨#[]⟩, .int .i64 0, .string ⟨#[]⟩, .int .i64 0, .int .i64 (-1), .slice none 0 0, .string ⟨#[]⟩, .bool false, .string ⟨#[]⟩, .bool false, .string ⟨#[]⟩]
  generalize (w.alloc (.cells #[.string ⟨#[]⟩, .string ⟨#[]⟩, .string ⟨#[]⟩, .int .i64 0, .string ⟨#[]⟩, .int .i64 0, .int .i64 0, .slice none 0 0, .string ⟨#[]⟩, .bool false, .string ⟨#[]⟩, .bool false, .string ⟨#[]⟩] 27)).alloc (.cells #[.string (B s), .string ⟨#[]⟩, .string ⟨#[]⟩, .int .i64 0, .string ⟨#[]⟩, .int .i64 0, .int .i64 (-1), .slice none 0 0, .string ⟨#[]⟩, .bool false, .string ⟨#[]⟩, .bool false, .string ⟨#[]⟩] 27) = w1 at K4 K6 HB ⊢
  have K6 : Blk w1 (w.heap.size + 1) (uCells (baseU s) (.slice none 0 0)) := K6
  have hne : w.heap.size ≠ w.heap.size + 1 := by omega
  have hge : w.heap.size ≤ w.heap.size + 1 := by omega
  generalize w.heap.size + 1 = g at K6 hne hge ⊢
  refine (specOwn_walk s w1).mono ?_
  rintro e w2 ⟨rfl, hw2⟩
  subst w2
  go_wp2_with fail
  refine (specAt_walk [63, 35] r w1 (by simp) (by omega)).mono ?_
  rintro e w2 ⟨rfl, hb2⟩
  have K42 := K4.below hb2
  have K62 := K6.below hb2
  have HB2 := Lib.hid (below_then HB HB.size hb2)
  clear K4 K6 HB hb2
  have hix := ixS_le [63, 35] r
  have hex := ex_upA [63, 35] r
  have hey := ex_upR [63, 35] r
  have hul := up_len [63, 35] r
  have HU : Hid (opaqueU s r = setTail { baseU s with opq := enc (setB 5) (upA [63, 35] r) } (upR [63, 35] r)) := Lib.hid rfl
  generalize ixS [63, 35] r = k at hix hex hey ⊢
  generalize upA [63, 35] r = a at hex hul HU
  generalize upR [63, 35] r = b at hey hul HU
  have hk : (k : Int) ≤ (r.length : Int) := by omega
  go_wp2_with fail
  refine (specEnc_walk 5 a _ (by omega)).mono ?_
  rintro e w3 ⟨rfl, hb3⟩
  have kc := (K62.below hb3).cells
  have K64 : Blk (w3.setCell ⟨g, 8, none⟩ (.string (B (enc (setB 5) a)))) g (uCells { baseU s with opq := enc (setB 5) a } (.slice none 0 0)) := (K62.below hb3).put 8 _
  have K44 := (K42.below hb3).far (p := ⟨g, 8, none⟩) hne (.string (B (enc (setB 5) a)))
  have HB4 := Lib.hid ((below_then HB2.out HB2.out.size hb3).setCell (p := ⟨g, 8, none⟩) hge (.string (B (enc (setB 5) a))))
  clear hb3 K62 K42 HB2
  go_upto_region 5 with fail
  generalize w3.setCell ⟨g, 8, none⟩ (.string (B (enc (setB 5) a))) = w4 at K64 K44 HB4 ⊢
  clear kc
  have HTL := Lib.hid fun w1 => specTail_walk { baseU s with opq := enc (setB 5) a } (.slice none 0 0) b w1 (by omega) rfl rfl rfl rfl ⟨none, 0, 0, rfl⟩
  unfold uCells at HTL
  have kc := Blk.cells (w := w4.drew) (K64.below (below_drew (Below.refl _ _)))
  go_region_with ((go_at_call 107; refine (HTL.out _).mono ?_; rintro e w5 ⟨rfl, hb5⟩; have K45 := Blk.below (w := w4.drew) K44 hb5; have kz := Blk.cells K45))
  all_goals
   go_wp2
   refine bodyPost_ret (results_ct rfl _ _ w.heap.size 27 _ (0, 0) _ rfl (Blk.put13 K45) Tryz.underlying27 rfl (by kernel_rfl)) rfl ?_
   refine ⟨.slice none 0 0, by rw [HR.out, HU.out]; rfl, ?_, below13 (below_then (below_drew HB4.out) HB4.out.size hb5) (Nat.le_refl _)⟩
   rw [HR.out, HU.out]
   exact q_of_own (World.ownsRow_nil _ _ _ _)
 ·have hb : decide (ownP s < 0) = false := decide_eq_false ho
  generalize hx : readS s r = x
  have HX : Hid (x = (if authOk (baseU s) (upA [47, 92, 63, 35] (offSl r)) = true then (setHosted (baseU s) (offSl r), true) else (Ur.zero, false))) := Lib.hid (by rw [← hx]; unfold readS; rw [if_neg ho]; rfl)
  clear hx
  have l0 : (offSl r).length ≤ r.length := (List.dropWhile_sublist _).length_le
  have HHO := Lib.hid fun w1 => specHosted_walk (baseU s) (.slice none 0 0) (offSl r) w1 (by omega) rfl rfl rfl rfl rfl ⟨none, 0, 0, rfl⟩
  rw [← HX.out] at HHO
  unfold uCells at HHO
  generalize hy0 : offSl r = y0 at HHO l0
  have HOff := Lib.hid hy0
  clear hy0 HX
  go_enter Tryz.func71, Tryz.ntmps71
  go_wp2_with fail
  obtain ⟨K4, K6, HB⟩ := two_any w #[.string ⟨#[]⟩, .string ⟨#[]⟩, .string ⟨#[]⟩, .int .i64 0, .string ⟨#[]⟩, .int .i64 0, .int .i64 0, .slice none 0 0, .string ⟨#[]⟩, .bool false, .string ⟨#[]⟩, .bool false, .string ⟨#[]⟩] #[.string (B s), .string ⟨#[]⟩, .string ⟨#[]⟩, .int .i64 0, .string ⟨#[]⟩, .int .i64 0, .int .i64 (-1), .slice none 0 0, .string ⟨#[]⟩, .bool false, .string ⟨#[]⟩, .bool false, .string ⟨#[]⟩]
  generalize (w.alloc (.cells #[.string ⟨#[]⟩, .string ⟨#[]⟩, .string ⟨#[]⟩, .int .i64 0, .string ⟨#[]⟩, .int .i64 0, .int .i64 0, .slice none 0 0, .string ⟨#[]⟩, .bool false, .string ⟨#[]⟩, .bool false, .string ⟨#[]⟩] 27)).alloc (.cells #[.string (B s), .string ⟨#[]⟩, .string ⟨#[]⟩, .int .i64 0, .string ⟨#[]⟩, .int .i64 0, .int .i64 (-1), .slice none 0 0, .string ⟨#[]⟩, .bool false, .string ⟨#[]⟩, .bool false, .string ⟨#[]⟩] 27) = w1 at K4 K6 HB ⊢
  have hne : w.heap.size ≠ w.heap.size + 1 := by omega
  generalize w.heap.size + 1 = g at K6 hne ⊢
  have kc := K6.cells
  refine (specOwn_walk s w1).mono ?_
  rintro e w2 ⟨rfl, hw2⟩
  subst w2
  go_upto_block 0 with fail
  go_cut [1] (fun v wc => v = .string (B y0) ∧ w1 = wc)
  case first =>
   go_wp2_with fail
   go_loop [1] (fun v => ∃ y : Bs, y.length ≤ 200 ∧ v = .string (B y) ∧ Hid (offSl y = y0)) vLen
   case atStart => exact ⟨r, by omega, rfl, HOff⟩
   case round =>
    obtain ⟨y, hy, rfl, HY⟩ := hrel
    cases y with
    | nil =>
     have HZ : Hid (([] : Bs) = y0) := Lib.hid HY.out
     go_wp2
     go_meet
     case rel => exact ⟨by rw [← HZ.out], rfl⟩
    | cons c t =>
     have hst := offSl_cons c t
     rw [HY.out] at hst
     have hex : (B (c :: t)).extract 1 (t.length + 1) = B t := by rw [B_extract, List.take_of_length_le (by simp)]; rfl
     by_cases h1 : c = 47
     ·have b1 : (((c.toNat : Nat) : Int) == 47) = true := by rw [h1]; rfl
      have HZ : Hid (offSl t = y0) := Lib.hid (by rw [hst, if_pos (by rw [h1]; rfl)])
      clear h1 hst
      go_wp2
      go_round
      case rel => exact ⟨t, by simp at hy; omega, rfl, HZ⟩
      case measure => simp [vLen]
     ·have b1 : (((c.toNat : Nat) : Int) == 47) = false := beq_eq_false_iff_ne.2 fun q => h1 (UInt8.toNat_inj.1 (by show c.toNat = 47; omega))
      by_cases h2 : c = 92
      ·have b2 : (((c.toNat : Nat) : Int) == 92) = true := by rw [h2]; rfl
       have HZ : Hid (offSl t = y0) := Lib.hid (by rw [hst, if_pos (by rw [h2]; rfl)])
       clear h1 h2 hst
       go_wp2
       go_round
       case rel => exact ⟨t, by simp at hy; omega, rfl, HZ⟩
       case measure => simp [vLen]
      ·have b2 : (((c.toNat : Nat) : Int) == 92) = false := beq_eq_false_iff_ne.2 fun q => h2 (UInt8.toNat_inj.1 (by show c.toNat = 92; omega))
       have HZ : Hid (c :: t = y0) := Lib.hid (by rw [hst, if_neg (by unfold isSl; simp [h1, h2])])
       clear h1 h2 hst
       go_wp2
       go_meet
       case rel => exact ⟨by rw [← HZ.out], rfl⟩
  case rest =>
   obtain ⟨rfl, rfl⟩ := hcut
   go_wp2_with fail
   refine (HHO.out _).mono ?_
   rintro e w2 ⟨pv, rfl, hq, hb2⟩
   have K42 := K4.below hb2
   have hlt4 := K4.lt
   have kz := K42.cells
   have HB2 := Lib.hid (below_then HB HB.size hb2)
   obtain ⟨A, c, rfl, hAc⟩ := q_slice hq
   have HQ := Lib.hid hq
   clear hq hb2
   unfold uCells
   go_wp2
   refine bodyPost_ret (results_ct rfl _ _ w.heap.size 27 _ (0, 0) _ rfl (Blk.put13 K42) Tryz.underlying27 rfl (by kernel_rfl)) rfl ?_
   exact ⟨_, rfl, q_lower (q_grown HQ.out (grown13 (g := w.heap.size) (grown_b (Below.refl _ w2))) hlt4) (Nat.le_of_lt hlt4), below13 HB2.out (Nat.le_refl _)⟩
end Go.Proofs.YtopcpbokfngpeaaGreatDoor.H
/- spec.l1Dec, spec.l3Put, spec.l3Fits, spec.UrlGet: what the calls come to. No condition. -/
set_option linter.unusedVariables false
namespace Go.Proofs.YtopcpbokfngpeaaGreatDoor.H
open Go.RowKit Go.Proofs.YtopcpbokfngpeaaGreatDoor.Lh Go.Proofs.YtopcpbokfngpeaaGreatDoorW.PrintWords Go.Proofs.YtopcpbokfngpeaaGreatDoorW.PrintLast Go.Proofs.YtopcpbokfngpeaaGreatDoor.Base Go.Proofs.YtopcpbokfngpeaaGreatDoor.Pure Go.Proofs.YtopcpbokfngpeaaGreatDoor.Lp
theorem spec_Dec63 (n : Nat) (hn : n ≤ 9223372036854775807) : Ev (fun k => spec_l1Dec.f k (n : Int)) (B (Lib.decDigits n)) := by
 induction n using Nat.strongRecOn with
 | _ n ih =>
  refine Ev.step (fun k => by rw [spec_l1Dec.f]) ?_
  simp only [if_neg (show ¬ (n : Int) < -9223372036854775807 by omega), if_neg (show ¬ (n : Int) < 0 by omega)]
  by_cases h : n < 10
  ·simp only [if_pos (show (n : Int) < 10 by omega)]
   rw [dec_small h, ← digit_str n h]
   exact Ev.now _
  ·have e1 : wrap64 (Int.tdiv (n : Int) 10) = ((n / 10 : Nat) : Int) := by
    rw [Int.tdiv_eq_ediv_of_nonneg (by omega), w64 (by omega) (by omega)]; rfl
   have e2 : Int.tmod (n : Int) 10 = ((n % 10 : Nat) : Int) := by rw [Int.tmod_eq_emod_of_nonneg (by omega)]; rfl
   have hl := dec_len (n / 10)
   simp only [if_neg (show ¬ (n : Int) < 10 by omega), e1, e2]
   refine ev_bind (ih (n / 10) (by omega) (by omega)) ?_
   simp only [Option.bind_some, digit_str (n % 10) (by omega), B_size, List.length_singleton]
   simp only [if_pos (show (Lib.decDigits (n / 10)).length + 1 ≤ 9223372036854775807 by omega), B_append]
   rw [dec_big h]
   exact Ev.now _
theorem specDec_walk (n : Int) (h0 : 0 ≤ n) (h1 : n ≤ 9223372036854775807) (w : World) : Calls Tryz.prog 58 #[.int .i64 n] w fun e w' => e = .returned (.string (B (Lib.decDigits n.toNat))) ∧ Below w.heap.size w w' := by
 have e : n = ((n.toNat : Nat) : Int) := by omega
 obtain ⟨k, hk⟩ := (spec_Dec63 n.toNat (by omega)).rounds
 rw [← e] at hk
 exact spec_l1Dec.calls k n _ w hk
theorem tot_put : ∀ ps : List Bs, tot (ps.map B) ≤ (pathPut ps).length
 | [] => Nat.le_refl _
 | s :: t => by
  have := tot_put t
  have e : pathPut (s :: t) = 47 :: s ++ pathPut t := by simp [pathPut]
  have e2 : tot ((s :: t).map B) = s.length + tot (t.map B) := by simp [tot]
  rw [e, e2]; simp; omega
theorem specPathPut_walk (pv : Value) (ps : List Bs) (w : World) (h : PathAt w pv ps) (h2 : (pathPut ps).length ≤ 1048576) :
  Calls Tryz.prog 73 #[pv] w fun e w' => e = .returned (.string (B (pathPut ps))) ∧ Below w.heap.size w w' := by
 obtain ⟨A, c, rfl, hc, hk⟩ := h
 have e : segs (ps.map B) = ps := by unfold segs; rw [List.map_map]; exact (List.map_congr_left fun s _ => B_data s).trans (List.map_id ps)
 have h1 := pathPut_ge ps
 have h3 := tot_put ps
 obtain ⟨k, hk2⟩ := (spec_Put (ps.map B) (by simp; omega) (by omega)).rounds
 rw [e] at hk2
 have := spec_PathPut.calls k A c (ps.map B) _ w hk (by simpa using hc) hk2
 rw [List.length_map] at this
 exact this.mono fun e w' hh => ⟨hh.1, hh.2.below⟩
end Go.Proofs.YtopcpbokfngpeaaGreatDoor.H
/- spec.l3Put: what the call comes to. No condition. -/
set_option linter.unusedVariables false
namespace Go.Proofs.YtopcpbokfngpeaaGreatDoor.H
open Go.RowKit Go.Proofs.YtopcpbokfngpeaaGreatDoorW.PrintWords Go.Proofs.YtopcpbokfngpeaaGreatDoor.Base Go.Proofs.YtopcpbokfngpeaaGreatDoor.Pure
set_option maxHeartbeats 4000000 in
set_option maxRecDepth 100000 in
theorem specPut_walk (u : Ur) (pv : Value) (w : World) (hu : Fit u) (hpp : (pathPut u.path).length ≤ 1048576) (hP : PathAt w pv u.path) :
    Calls Tryz.prog 37 #[.agg (uCells u pv)] w fun e w' => e = .returned (.string (B (putU u))) ∧ Below w.heap.size w w' := by
  have f7 := hostPV_len u.hk u.ha u.hn hu.hn
  have HPP := Lib.hid fun w1 (hb : Below w.heap.size w w1) => specPathPut_walk pv u.path w1 (hP.below hb) hpp
  have HHP := Lib.hid fun w1 => specHostPut_walk u.hk u.hn u.ha w1 hu.hn
  have HT : Hid (putU u = u.sch ++ [58] ++ (if ownP u.sch < 0 then u.opq else [47, 47] ++ userB u ++ hostPV u.hk u.hn u.ha ++ portB u.port ++ pathPut u.path) ++ tailB u) := Lib.hid rfl
  have HTL : Hid (tailB u = (if u.hq = true then 63 :: u.qry else []) ++ (if u.hf = true then 35 :: u.frg else [])) := Lib.hid rfl
  have HUB := Lib.hid (userB_e u)
  obtain ⟨hd, HHD⟩ : ∃ hd, Hid (hd = u.sch ++ [58] ++ (if ownP u.sch < 0 then u.opq else [47, 47] ++ userB u ++ hostPV u.hk u.hn u.ha ++ portB u.port ++ pathPut u.path)) := ⟨_, Lib.hid rfl⟩
  have HT2 : Hid (putU u = hd ++ tailB u) := Lib.hid (by rw [HT.out, HHD.out])
  have K0 : Blk (w.alloc (.cells (uCells u pv) 27)) w.heap.size (uCells u pv) := blk_new w _
  have HB0 := (Below.refl w.heap.size w).alloc (Nat.le_refl _) (.cells (uCells u pv) 27)
  have HOW := Lib.hid fun w1 => specOwn_walk u.sch w1
  have lu : (userB u).length ≤ 2097154 := by
    rw [HUB.out]
    have h1 := hu.us
    have h2 := hu.ps
    split
    · simp
    · split <;> simp <;> omega
  have lpo : (portB u.port).length ≤ 20 := by
    have := dec_len19 u.port hu.port.2
    unfold portB; split <;> simp; omega
  have lhd : hd.length ≤ 8000000 := by
    have h1 := hu.s
    have h2 := hu.o
    rw [HHD.out]
    split <;> simp <;> omega
  generalize putU u = x at HT2 ⊢
  generalize tailB u = tl at HT2 HTL
  obtain ⟨f1, f2, f3, f30, f4, f50, f51, f6, f60, f8⟩ := hu
  clear HT
  obtain ⟨sch, usr, pas, hk, hn, ha, port, path, opq, hq, qry, hf, frg⟩ := u
  unfold uCells at K0 HB0 ⊢
  dsimp only at *
  generalize userB _ = ub0 at HHD HUB lu
  generalize hostPV hk hn ha = hp at HHD HHP f7
  generalize pathPut path = pp at HHD HPP hpp f6
  have e58 : (⟨#[58]⟩ : ByteArray) = B [58] := rfl
  have e47 : (⟨#[47, 47]⟩ : ByteArray) = B [47, 47] := rfl
  have e64 : (⟨#[64]⟩ : ByteArray) = B [64] := rfl
  have e63 : (⟨#[63]⟩ : ByteArray) = B [63] := rfl
  have e35 : (⟨#[35]⟩ : ByteArray) = B [35] := rfl
  have e0 : (⟨#[]⟩ : ByteArray) = B [] := rfl
  have eap := bapp
  go_enter Tryz.func37, Tryz.ntmps37
  go_upto_region 1 with fail
  generalize w.alloc (.cells #[.string (B sch), .string (B usr), .string (B pas), .int .i64 hk, .string (B hn), .int .i64 ha, .int .i64 port, pv, .string (B opq), .bool hq, .string (B qry), .bool hf, .string (B frg)] 27) = w1 at K0 HB0 ⊢
  have kc := K0.cells
  go_wp2_with fail
  refine (HOW.out _).mono ?_
  rintro e w2 ⟨rfl, hw2⟩
  subst w2
  go_upto_if 10 with fail
  go_cut [3] (fun v wc => v = .string (B hd) ∧ ∃ w3, w3 = wc ∧ Blk w3 w.heap.size #[.string (B sch), .string (B usr), .string (B pas), .int .i64 hk, .string (B hn), .int .i64 ha, .int .i64 port, pv, .string (B opq), .bool hq, .string (B qry), .bool hf, .string (B frg)] ∧ Below w.heap.size w w3)
  case first =>
    by_cases ho : ownP sch < 0
    · have hb : decide (ownP sch < 0) = true := decide_eq_true ho
      have HX : Hid (hd = sch ++ [58] ++ opq) := Lib.hid (by rw [HHD.out, if_pos ho])
      have k1 : ¬ 9223372036854775807 < sch.length + 1 + opq.length := by omega
      go_wp2
      go_meet
      case rel => exact ⟨by rw [HX.out]; simp, _, rfl, K0, HB0⟩
    · have hb : decide (ownP sch < 0) = false := decide_eq_false ho
      have HX : Hid (hd = sch ++ [58] ++ ([47, 47] ++ ub0 ++ hp ++ portB port ++ pp)) := Lib.hid (by rw [HHD.out, if_neg ho])
      go_upto_region 5 with fail
      go_cut [24] (fun v wc => v = .bool (!(usr.isEmpty && pas.isEmpty)) ∧ w1 = wc)
      case first =>
        cases h1 : usr.isEmpty <;> cases h2 : pas.isEmpty
        all_goals
          go_wp2
          go_meet
          case rel => exact ⟨by simp [h1, h2], rfl⟩
      case rest =>
       obtain ⟨rfl, rfl⟩ := hcut
       go_upto_if 24 with fail
       go_cut [3] (fun v wc => v = .string (B (sch ++ [58, 47, 47] ++ ub0)) ∧ w1 = wc)
       case first =>
        cases h1 : usr.isEmpty <;> cases h2 : pas.isEmpty
        all_goals
          have HY := Lib.hid HUB.out
          rw [h1, h2] at HY
          go_wp2
          go_meet
          case rel => exact ⟨by rw [HY.out]; simp, rfl⟩
       case rest =>
        obtain ⟨rfl, rfl⟩ := hcut
        have f9 := dec_len19 port f8.2
        have HDE := Lib.hid fun h0 w1 => specDec_walk port h0 f8.2 w1
        have HPP1 : Hid (0 ≤ port → portB port = 58 :: Lib.decDigits port.toNat) := Lib.hid fun h => by unfold portB; rw [if_pos h]
        have HPN : Hid (¬ 0 ≤ port → portB port = []) := Lib.hid fun h => by unfold portB; rw [if_neg h]
        generalize Lib.decDigits port.toNat = dp at f9 HDE HPP1
        generalize portB port = pb at HX HHD lpo HPP1 HPN
        go_wp2_with fail
        refine (HHP.out _).mono ?_
        rintro e w2 ⟨rfl, hb2⟩
        have K2 := K0.below hb2
        have HB2 := Lib.hid (below_then HB0 HB0.size hb2)
        clear kc K0 HB0 hb2
        have kc := K2.cells
        obtain ⟨zz, HZ⟩ : ∃ zz, Hid (zz = sch ++ [58, 47, 47] ++ ub0 ++ hp ++ pb) := ⟨_, Lib.hid rfl⟩
        have lz : zz.length ≤ 6000000 := by rw [HZ.out]; simp; omega
        go_upto_if 46 with fail
        go_cut [3] (fun v wc => v = .string (B zz) ∧ ∃ w3, w3 = wc ∧ Blk w3 w.heap.size #[.string (B sch), .string (B usr), .string (B pas), .int .i64 hk, .string (B hn), .int .i64 ha, .int .i64 port, pv, .string (B opq), .bool hq, .string (B qry), .bool hf, .string (B frg)] ∧ Below w.heap.size w w3)
        case first =>
          by_cases h0 : 0 ≤ port
          · have h0b : decide (0 ≤ port) = true := decide_eq_true h0
            have HPB := Lib.hid (HPP1.out h0)
            go_wp2_with fail
            refine (HDE.out h0 _).mono ?_
            rintro e w3 ⟨rfl, hb3⟩
            have K3 := Lib.hid (K2.below hb3)
            have HB3 := Lib.hid (below_then HB2.out HB2.out.size hb3)
            clear hb3
            go_wp2
            go_meet
            case rel => exact ⟨by rw [HZ.out, HPB.out]; simp, _, rfl, K3.out, HB3.out⟩
          · have h0b : decide (0 ≤ port) = false := decide_eq_false h0
            have HPB := Lib.hid (HPN.out (by omega))
            go_wp2
            go_meet
            case rel => exact ⟨by rw [HZ.out, HPB.out]; simp, _, rfl, K2, HB2.out⟩
        case rest =>
          obtain ⟨rfl, w3, rfl, K3, hb3⟩ := hcut
          clear kc
          have kc := K3.cells
          go_wp2_with fail
          refine (HPP.out _ hb3).mono ?_
          rintro e w4 ⟨rfl, hb4⟩
          have K4 := Lib.hid (K3.below hb4)
          have HB4 := Lib.hid (below_then hb3 hb3.size hb4)
          clear hb3 hb4
          go_wp2
          go_meet
          case rel => exact ⟨by rw [HX.out, HZ.out]; simp, _, rfl, K4.out, HB4.out⟩
  case rest =>
    obtain ⟨rfl, w3, rfl, K3, hb3⟩ := hcut
    have HB3 := Lib.hid hb3
    clear hb3 kc K0 HB0
    have kc := K3.cells
    have k1 : ¬ 9223372036854775807 < hd.length + qry.length + 10 := by omega
    cases hq <;> cases hf
    all_goals
      have HX : Hid (x = hd ++ tl) := HT2
      go_wp2
      go_ret
      exact ⟨ret_str (by rw [HX.out, HTL.out]; simp), HB3.out⟩
end Go.Proofs.YtopcpbokfngpeaaGreatDoor.H
/- spec.l3Fits, spec.UrlGet: what the calls come to. No condition. -/
set_option linter.unusedVariables false
namespace Go.Proofs.YtopcpbokfngpeaaGreatDoor.H
open Go.RowKit Go.Proofs.YtopcpbokfngpeaaGreatDoorW.PrintWords Go.Proofs.YtopcpbokfngpeaaGreatDoor.Base Go.Proofs.YtopcpbokfngpeaaGreatDoor.Pure
def fitsU (u : Ur) : Bool := decide (u.path.length ≤ 12) && decide ((putU u).length ≤ 600)
set_option maxHeartbeats 2000000 in
set_option maxRecDepth 100000 in
theorem specFits_walk (u : Ur) (pv : Value) (w : World) (hu : Fit u) (hpp : (pathPut u.path).length ≤ 1048576) (hP : PathAt w pv u.path) :
  Calls Tryz.prog 72 #[.agg (uCells u pv)] w fun e w' => e = .returned (.bool (fitsU u)) ∧ Below w.heap.size w w' := by
 have HPT := Lib.hid fun w1 (hb : Below w.heap.size w w1) => specPut_walk u pv w1 hu hpp (hP.below hb)
 have HF : Hid (fitsU u = (decide (u.path.length ≤ 12) && decide ((putU u).length ≤ 600))) := Lib.hid rfl
 have K0 : Blk (w.alloc (.cells (uCells u pv) 27)) w.heap.size (uCells u pv) := blk_new w _
 have HB0 := (Below.refl w.heap.size w).alloc (Nat.le_refl _) (.cells (uCells u pv) 27)
 obtain ⟨A, c, rfl, hc, hk⟩ := hP
 clear hk
 have hpl := hu.pl
 generalize hn : u.path.length = n at *
 generalize putU u = x at HPT HF
 generalize fitsU u = b at HF ⊢
 unfold uCells at *
 by_cases h1 : n ≤ 12
 ·have b1 : decide ((n : Int) ≤ 12) = true := decide_eq_true (by omega)
  go_enter Tryz.func72, Tryz.ntmps72
  go_upto_region 1 with fail
  generalize w.alloc _ = w1 at K0 HB0 ⊢
  have kc := K0.cells
  go_wp2_with fail
  refine (HPT.out _ HB0).mono ?_
  rintro e w2 ⟨rfl, hb2⟩
  have HB2 := Lib.hid (below_then HB0 HB0.size hb2)
  clear hb2
  by_cases h2 : x.length ≤ 600
  ·have b2 : decide ((x.length : Int) ≤ 600) = true := decide_eq_true (by omega)
   go_wp2
   go_ret
   exact ⟨by rw [HF.out]; simp [h1, h2], HB2.out⟩
  ·have b2 : decide ((x.length : Int) ≤ 600) = false := decide_eq_false (by omega)
   go_wp2
   go_ret
   exact ⟨by rw [HF.out]; simp [h1, h2], HB2.out⟩
 ·have b1 : decide ((n : Int) ≤ 12) = false := decide_eq_false (by omega)
  go_enter Tryz.func72, Tryz.ntmps72
  go_upto_region 1 with fail
  generalize w.alloc _ = w1 at K0 HB0 ⊢
  have kc := K0.cells
  go_wp2
  go_ret
  exact ⟨by rw [HF.out]; simp [h1], HB0⟩
theorem path_hosted (s r : Bs) (hs : s.length + r.length ≤ 200) : (pathPut (hostedU s r).path).length ≤ 1048576 := by
 have l0 : (offSl r).length ≤ r.length := (List.dropWhile_sublist _).length_le
 have l1 := up_len [47, 92, 63, 35] (offSl r)
 have l2 := up_len [63, 35] (upR [47, 92, 63, 35] (offSl r))
 have h13 : (pathPut (pathB (setB 1) (upA [63, 35] (upR [47, 92, 63, 35] (offSl r))))).length ≤ 3 * (upA [63, 35] (upR [47, 92, 63, 35] (offSl r))).length + 1 := path_room _ (by omega)
 show (pathPut (pathB (setB 1) (upA [63, 35] (upR [47, 92, 63, 35] (offSl r))))).length ≤ _
 omega
theorem read_fits (s r : Bs) (hs : s.length + 1 + r.length ≤ 200) : readU s r = if (readS s r).2 = true then (if fitsU (readS s r).1 = true then ((readS s r).1, true) else (Ur.zero, false)) else (Ur.zero, false) := by
 unfold readU readS
 by_cases ho : ownP s < 0
 ·have h := opaque_put s r ho
  have h2 : fitsU (opaqueU s r) = true := by
   unfold fitsU
   rw [decide_eq_true (show (putU (opaqueU s r)).length ≤ 600 by omega), decide_eq_true (show (opaqueU s r).path.length ≤ 12 from Nat.zero_le _)]; rfl
  simp only [if_pos ho, if_true, h2]
 ·simp only [if_neg ho]
  unfold hostedOk
  cases ha : authOk (baseU s) (upA [47, 92, 63, 35] (offSl r))
  ·simp
  ·simp only [if_true, Bool.true_and]; rfl
theorem readS_fit (s r : Bs) (hs : s.length + 1 + r.length ≤ 200) (h : (readS s r).2 = true) : Fit (readS s r).1 ∧ (pathPut (readS s r).1.path).length ≤ 1048576 := by
 unfold readS at h ⊢
 by_cases ho : ownP s < 0
 ·simp only [if_pos ho]
  refine ⟨fit_opaque s r (by omega), ?_⟩
  show (pathPut []).length ≤ _
  simp [pathPut]
 ·simp only [if_neg ho] at h ⊢
  cases ha : authOk (baseU s) (upA [47, 92, 63, 35] (offSl r)) with
  | false => rw [ha] at h; simp at h
  | true => simp only [if_true]; exact ⟨fit_hosted s r (by omega), path_hosted s r (by omega)⟩
set_option maxHeartbeats 4000000 in
set_option maxRecDepth 100000 in
theorem specUrlGet_walk (l : Bs) (w : World) (hl : l.length ≤ 140737488355327) : Calls Tryz.prog 36 #[.string (B l)] w (UrlOut (urlG l) w) := by
 by_cases hg : 200 < l.length
 ·have HX : Hid (urlG l = (Ur.zero, false)) := Lib.hid (by unfold urlG; rw [if_neg (by omega)])
  generalize urlG l = x at HX ⊢
  have hb : decide (200 < (l.length : Int)) = true := decide_eq_true (by omega)
  have K0 : Blk (w.alloc (.cells #[.string ⟨#[]⟩, .string ⟨#[]⟩, .string ⟨#[]⟩, .int .i64 0, .string ⟨#[]⟩, .int .i64 0, .int .i64 0, .slice none 0 0, .string ⟨#[]⟩, .bool false, .string ⟨#[]⟩, .bool false, .string ⟨#[]⟩] 27)) w.heap.size #[.string ⟨#[]⟩, .string ⟨#[]⟩, .string ⟨#[]⟩, .int .i64 0, .string ⟨#[]⟩, .int .i64 0, .int .i64 0, .slice none 0 0, .string ⟨#[]⟩, .bool false, .string ⟨#[]⟩, .bool false, .string ⟨#[]⟩] := blk_new w _
  have HB0 := (Below.refl w.heap.size w).alloc (Nat.le_refl _) (.cells #[.string ⟨#[]⟩, .string ⟨#[]⟩, .string ⟨#[]⟩, .int .i64 0, .string ⟨#[]⟩, .int .i64 0, .int .i64 0, .slice none 0 0, .string ⟨#[]⟩, .bool false, .string ⟨#[]⟩, .bool false, .string ⟨#[]⟩] 27)
  go_enter Tryz.func36, Tryz.ntmps36
  go_wp2_with fail
  refine bodyPost_ret (results_ct rfl _ _ w.heap.size 27 _ (0, 0) _ rfl K0 Tryz.underlying27 rfl (by kernel_rfl)) rfl ?_
  rw [HX.out]
  exact ⟨_, rfl, q_of_own (World.ownsRow_nil _ _ _ _), HB0⟩
 ·have hn : decide (200 < (l.length : Int)) = false := decide_eq_false (by omega)
  have htl := trimU_len l
  have HTr := Lib.hid fun w1 => specTrim_walk l w1 (by omega)
  have HU : Hid (urlG l = match schemeV (trimU l) with | none => (Ur.zero, false) | some (s, r) => readU s r) := Lib.hid (by unfold urlG; rw [if_pos (by omega)]; cases schemeV (trimU l) <;> rfl)
  generalize urlG l = x at HU ⊢
  generalize trimU l = t at htl HTr HU
  have HS := Lib.hid fun w1 => specScheme_walk t w1 (by omega)
  have hA : schemeA t = match schemeV t with | none => ([], [], false) | some (s, r) => (s, r, true) := rfl
  have K0 : Blk (w.alloc (.cells #[.string ⟨#[]⟩, .string ⟨#[]⟩, .string ⟨#[]⟩, .int .i64 0, .string ⟨#[]⟩, .int .i64 0, .int .i64 0, .slice none 0 0, .string ⟨#[]⟩, .bool false, .string ⟨#[]⟩, .bool false, .string ⟨#[]⟩] 27)) w.heap.size #[.string ⟨#[]⟩, .string ⟨#[]⟩, .string ⟨#[]⟩, .int .i64 0, .string ⟨#[]⟩, .int .i64 0, .int .i64 0, .slice none 0 0, .string ⟨#[]⟩, .bool false, .string ⟨#[]⟩, .bool false, .string ⟨#[]⟩] := blk_new w _
  have HB0 := (Below.refl w.heap.size w).alloc (Nat.le_refl _) (.cells #[.string ⟨#[]⟩, .string ⟨#[]⟩, .string ⟨#[]⟩, .int .i64 0, .string ⟨#[]⟩, .int .i64 0, .int .i64 0, .slice none 0 0, .string ⟨#[]⟩, .bool false, .string ⟨#[]⟩, .bool false, .string ⟨#[]⟩] 27)
  cases hs : schemeV t with
  | none =>
   rw [hs] at hA HU
   rw [hA] at HS
   clear hA hs
   go_enter Tryz.func36, Tryz.ntmps36
   go_upto_region 3 with fail
   generalize w.alloc _ = w0 at K0 HB0 ⊢
   go_wp2_with fail
   refine (HTr.out _).mono ?_
   rintro e w1 ⟨rfl, hb1⟩
   go_wp2_with fail
   refine (HS.out _).mono ?_
   rintro e w2 ⟨rfl, hb2⟩
   have HB2 := Lib.hid (below_then (below_then HB0 HB0.size hb1) (below_then HB0 HB0.size hb1).size hb2)
   have K2 := (K0.below hb1).below hb2
   have kc := K2.cells
   clear hb1 hb2 K0 HB0
   go_wp2
   refine bodyPost_ret (results_ct rfl _ _ w.heap.size 27 _ (0, 0) _ rfl (Blk.put13 K2) Tryz.underlying27 rfl (by kernel_rfl)) rfl ?_
   rw [HU.out]
   exact ⟨_, rfl, q_of_own (World.ownsRow_nil _ _ _ _), below13 HB2.out (Nat.le_refl _)⟩
  | some sr =>
   obtain ⟨s, r⟩ := sr
   have hlen := (scheme_some t s r hs).2.2
   rw [hs] at hA HU
   rw [hA] at HS
   have HF := readS_fit s r (by omega)
   have HV : Hid (x = if (readS s r).2 = true then (if fitsU (readS s r).1 = true then ((readS s r).1, true) else (Ur.zero, false)) else (Ur.zero, false)) := Lib.hid (HU.out.trans (read_fits s r (by omega)))
   have HR := Lib.hid fun w1 => specRead_walk s r w1 (by omega)
   clear hA hs HU
   generalize readS s r = y at HF HV HR
   obtain ⟨u, ok⟩ := y
   dsimp only at HF HV HR
   go_enter Tryz.func36, Tryz.ntmps36
   go_upto_region 3 with fail
   generalize w.alloc _ = w0 at K0 HB0 ⊢
   go_wp2_with fail
   refine (HTr.out _).mono ?_
   rintro e w1 ⟨rfl, hb1⟩
   go_wp2_with fail
   refine (HS.out _).mono ?_
   rintro e w2 ⟨rfl, hb2⟩
   have HB2 := below_then (below_then HB0 HB0.size hb1) (below_then HB0 HB0.size hb1).size hb2
   have K2 := (K0.below hb1).below hb2
   clear hb1 hb2 K0 HB0
   go_wp2_with fail
   refine (HR.out _).mono ?_
   rintro e w3 ⟨pv, rfl, hq, hb3⟩
   have hlt : w.heap.size < w2.heap.size := K2.lt
   have hsz3 := hb3.size
   have HB3 := below_then HB2 HB2.size hb3
   have K3 := K2.below hb3
   clear hb3 K2 HB2
   obtain ⟨A, c, rfl, hAc⟩ := q_slice hq
   have K7 : Blk (w3.alloc (.cells (uCells u (.slice A u.path.length c)) 27)) w3.heap.size (uCells u (.slice A u.path.length c)) := blk_new w3 _
   have K4 := K3.below (below_alloc (Below.refl w3.heap.size w3) (.cells (uCells u (.slice A u.path.length c)) 27))
   have HB4 := HB3.alloc HB3.size (.cells (uCells u (.slice A u.path.length c)) 27)
   have hq4 := q_below hq (below_alloc (Below.refl w3.heap.size w3) (.cells (uCells u (.slice A u.path.length c)) 27))
   have hne : w.heap.size ≠ w3.heap.size := by omega
   clear hq K3 HB3
   have HFW := Lib.hid fun (h : ok = true) w1 (hP : PathAt w1 (.slice A u.path.length c) u.path) => specFits_walk u (.slice A u.path.length c) w1 (HF h).1 (HF h).2 hP
   have HPA := Lib.hid (pathAt_q hq4)
   clear HF
   unfold uCells at K7 K4 HB4 hq4 HPA HFW ⊢
   have HQ4 := Lib.hid hq4
   clear hq4
   go_upto_region 7 with fail
   generalize w3.alloc _ = w4 at K7 K4 HB4 HQ4 HPA ⊢
   generalize w3.heap.size = g at K7 hne ⊢
   cases ok with
   | false =>
    have kc := K4.cells
    have HB5 := Lib.hid HB4
    clear HB4
    go_wp2
    refine bodyPost_ret (results_ct rfl _ _ w.heap.size 27 _ (0, 0) _ rfl (Blk.put13 K4) Tryz.underlying27 rfl (by kernel_rfl)) rfl ?_
    have e : x = (Ur.zero, false) := HV.out
    rw [e]
    exact ⟨_, rfl, q_of_own (World.ownsRow_nil _ _ _ _), below13 HB5.out (Nat.le_refl _)⟩
   | true =>
    have kc7 := K7.cells
    go_wp2_with fail
    refine (HFW.out (by trivial) _ HPA.out).mono ?_
    rintro e w5 ⟨rfl, hb5⟩
    have K45 := K4.below hb5
    have K75 := K7.below hb5
    have HB5 := Lib.hid (below_then HB4 HB4.size hb5)
    have HQ5 := Lib.hid (q_below HQ4.out hb5)
    clear hb5 K4 K7 HB4 kc7 HQ4
    have kc := K45.cells
    have kc7 := K75.cells
    cases hf : fitsU u with
    | false =>
     have e : x = (Ur.zero, false) := by rw [HV.out, hf]; rfl
     have HX := Lib.hid e
     clear e
     go_wp2
     refine bodyPost_ret (results_ct rfl _ _ w.heap.size 27 _ (0, 0) _ rfl (Blk.put13 K45) Tryz.underlying27 rfl (by kernel_rfl)) rfl ?_
     rw [HX.out]
     exact ⟨_, rfl, q_of_own (World.ownsRow_nil _ _ _ _), below13 HB5.out (Nat.le_refl _)⟩
    | true =>
     have e : x = (u, true) := by rw [HV.out, hf]; rfl
     have HX := Lib.hid e
     clear e
     go_wp2
     refine bodyPost_ret (results_ct rfl _ _ w.heap.size 27 _ (0, 0) _ rfl (Blk.put13 K45) Tryz.underlying27 rfl (by kernel_rfl)) rfl ?_
     rw [HX.out]
     exact ⟨_, rfl, q_lower (q_grown HQ5.out (grown13 (g := w.heap.size) (grown_b (Below.refl _ w5))) (by omega)) (by omega), below13 HB5.out (Nat.le_refl _)⟩
end Go.Proofs.YtopcpbokfngpeaaGreatDoor.H
/- spec.l3Equal: two addresses held against each other. No condition. -/
set_option linter.unusedVariables false
namespace Go.Proofs.YtopcpbokfngpeaaGreatDoor.H
open Go.RowKit Go.Proofs.YtopcpbokfngpeaaGreatDoorW.PrintWords Go.Proofs.YtopcpbokfngpeaaGreatDoor.Base Go.Proofs.YtopcpbokfngpeaaGreatDoor.Pure
theorem eqU_row2 (u v : Ur) : eqU u v = ((u.sch == v.sch && (u.usr == v.usr && (u.pas == v.pas && ((u.hk == v.hk && (u.hn == v.hn && u.ha == v.ha)) && (u.port == v.port && (u.opq == v.opq && (u.hq == v.hq && (u.qry == v.qry && (u.hf == v.hf && u.frg == v.frg))))))))) && u.path == v.path) := by
 rw [eqU_row]
 cases u.path == v.path <;> simp
theorem dec1i (a b : Int) : a = b ∨ ((a == b) = false ∧ (a != b) = true) := by
 rcases dec1 a b with h | h
 ·exact .inl h
 ·exact .inr ⟨h, by simp [bne, h]⟩
attribute [local go_sem high] eqA_host
set_option maxHeartbeats 8000000 in
set_option maxRecDepth 100000 in
theorem specEqual_walk (u v : Ur) (pv qv : Value) (w : World) (hP : PathAt w pv u.path) (hQ : PathAt w qv v.path) (hm : u.path.length ≤ 1048576) :
  Calls Tryz.prog 38 #[.agg (uCells u pv), .agg (uCells v qv)] w fun e w' => e = .returned (.bool (eqU u v)) ∧ Below w.heap.size w w' := by
 obtain ⟨k2, k3, HB⟩ := two_cells w (uCells u pv) (uCells v qv) 27
 have K2 : Blk _ w.heap.size (uCells u pv) := k2
 have K3 : Blk _ (w.heap.size + 1) (uCells v qv) := k3
 clear k2 k3
 obtain ⟨A, c, rfl, hc, hk1⟩ := hP
 obtain ⟨A', c', rfl, hc', hk2⟩ := hQ
 have HP := Lib.hid hk1
 have HQ := Lib.hid hk2
 clear hk1 hk2
 rw [eqU_row2 u v]
 obtain ⟨sch, usr, pas, hk, hn, ha, port, path, opq, hq, qry, hf, frg⟩ := u
 obtain ⟨sch', usr', pas', hk', hn', ha', port', path', opq', hq', qry', hf', frg'⟩ := v
 unfold uCells at *
 dsimp only at *
 rcases dec1 (path.length : Int) (path'.length : Int) with hl | h
 ·have hl2 : path.length = path'.length := by omega
  have HL := Lib.hid hl2
  rw [← hl2] at K2 K3 HB ⊢
  clear hl hl2
  rcases dec1 sch sch' with rfl | h
  rcases dec1 usr usr' with rfl | h
  rcases dec1 pas pas' with rfl | h
  rcases dec3 hk hk' hn hn' ha ha' with ⟨rfl, rfl, rfl⟩ | h
  rcases dec1i port port' with rfl | ⟨h, h2⟩
  rcases dec1 opq opq' with rfl | h
  rcases dec1 hq hq' with rfl | h
  rcases dec1 qry qry' with rfl | h
  rcases dec1 hf hf' with rfl | h
  rcases dec1 frg frg' with rfl | h
  ·simp only [beq_self_eq_true, Bool.and_self, Bool.true_and]
   go_enter Tryz.func38, Tryz.ntmps38
   go_upto_region 1 with fail
   generalize (w.alloc _).alloc _ = w1 at K2 K3 HB ⊢
   generalize w.heap.size + 1 = g at K3 ⊢
   have kc2 := K2.cells.1
   have kc3 := K3.cells.1
   go_wp2
   clear kc2 kc3
   go_loopw [5] (fun i wr => ∃ k : Nat, k ≤ path.length ∧ i = .int .i64 k ∧ path.take k = path'.take k ∧ Blk wr w.heap.size #[.string (B sch), .string (B usr), .string (B pas), .int .i64 hk, .string (B hn), .int .i64 ha, .int .i64 port, .slice A path.length c, .string (B opq), .bool hq, .string (B qry), .bool hf, .string (B frg)] ∧ Blk wr g #[.string (B sch), .string (B usr), .string (B pas), .int .i64 hk, .string (B hn), .int .i64 ha, .int .i64 port, .slice A' path.length c', .string (B opq), .bool hq, .string (B qry), .bool hf, .string (B frg)] ∧ Below w.heap.size w wr) (fun i _ => path.length - (intOf i).toNat)
   case atStart => exact ⟨0, by omega, rfl, rfl, K2, K3, HB⟩
   case round =>
    clear K2 K3 HB
    obtain ⟨k, hk, rfl, ht, K2, K3, hb⟩ := hrel
    by_cases hlt : k < path.length
    ·have hlt2 : k < path'.length := by rw [← HL.out]; exact hlt
     obtain ⟨ad, e0, hcell⟩ := kd_at (Kd.C_below HP.out hb) k hlt
     obtain ⟨ad', e0', hcell'⟩ := kd_at (Kd.C_below HQ.out hb) k hlt2
     subst e0 e0'
     have i1 : ((k : Int) < (path.length : Int)) := by omega
     have it : ((k : Int)).toNat = k := rfl
     have HT := Lib.hid fun h => take_eq k hlt hlt2 ht h
     have HN := Lib.hid fun h => take_ne k hlt hlt2 h
     have HK2 := Lib.hid K2
     have HK3 := Lib.hid K3
     have kc2 := K2.cells.1
     have kc3 := K3.cells.1
     clear ht K2 K3
     by_cases he : path[k] = path'[k]
     ·have HE := Lib.hid (HT.out he)
      have hne : (path[k] != path'[k]) = false := by simp [he]
      have hee : (path[k] == path'[k]) = true := by simp [he]
      clear he HT HN
      generalize path[k] = x at *
      generalize path'[k] = y at *
      go_wp2_with fail
      go_quiet (fail)
      go_wp2
      go_roundw
      case rel => exact ⟨k + 1, by omega, by go_num, HE.out, HK2.out.below (below_drewN (Below.refl _ _) _), HK3.out.below (below_drewN (Below.refl _ _) _), below_drewN hb _⟩
      case measure => simp only [intOf]; omega
     ·have HE := Lib.hid (HN.out he)
      have hne : (path[k] != path'[k]) = true := by simp [he]
      have hee : (path[k] == path'[k]) = false := by simp [he]
      clear he HT HN
      generalize path[k] = x at *
      generalize path'[k] = y at *
      go_wp2_with fail
      go_quiet (fail)
      go_wp2
      go_ret
      exact ⟨by rw [HE.out]; rfl, below_drewN hb _⟩
    ·have HE : Hid (path = path') := Lib.hid (by rw [List.take_of_length_le (by omega), List.take_of_length_le (by rw [← HL.out]; omega)] at ht; exact ht)
     have hn : decide ((k : Int) < (path.length : Int)) = false := decide_eq_false (by omega)
     have kc2 := K2.cells.1
     clear ht
     go_wp2
     go_ret
     exact ⟨by rw [HE.out]; simp, hb⟩
  all_goals
   simp only [h, beq_self_eq_true, Bool.true_and, Bool.false_and, Bool.and_false]
   go_enter Tryz.func38, Tryz.ntmps38
   go_upto_region 1 with fail
   generalize (w.alloc _).alloc _ = w1 at K2 K3 HB ⊢
   generalize w.heap.size + 1 = g at K3 ⊢
   have kc2 := K2.cells.1
   have kc3 := K3.cells.1
   go_wp2
   go_ret
   exact ⟨rfl, HB⟩
 ·have hp : (path == path') = false := by
   rw [beq_eq_false_iff_ne] at h ⊢
   intro e; rw [e] at h; exact h rfl
  have h2 : ((path.length : Int) != (path'.length : Int)) = true := by simp [bne, h]
  rw [hp, Bool.and_false]
  clear hp
  generalize path.length = m at *
  generalize path'.length = n at *
  go_enter Tryz.func38, Tryz.ntmps38
  go_upto_region 1 with fail
  generalize (w.alloc _).alloc _ = w1 at K2 K3 HB ⊢
  generalize w.heap.size + 1 = g at K3 ⊢
  have kc2 := K2.cells.1
  have kc3 := K3.cells.1
  go_wp2
  go_ret
  exact ⟨rfl, HB⟩
end Go.Proofs.YtopcpbokfngpeaaGreatDoor.H
/- UrlOk, UrlPut, PortOf of both sides: what the calls come to; the package-level variables read as their tables. -/
set_option linter.unusedVariables false
namespace Go.Proofs.YtopcpbokfngpeaaGreatDoor.H
open Go.RowKit Go.Proofs.YtopcpbokfngpeaaGreatDoorW.PrintWords Go.Proofs.YtopcpbokfngpeaaGreatDoor.Base Go.Proofs.YtopcpbokfngpeaaGreatDoor.Pure
structure Tabs (w : World) : Prop where
 s : TabS w
 m : TabM w
 i : TabI w
theorem Tabs.below {w w1 : World} (h : Tabs w) (hb : Below w.heap.size w w1) : Tabs w1 := ⟨h.s.below hb, h.m.below hb, h.i.below hb⟩
structure FitP (u : Ur) : Prop where
 fit : Fit u
 pp : (pathPut u.path).length ≤ 1048576
theorem putU_len (u : Ur) (h : FitP u) : (putU u).length ≤ 20000000 := by
 have h1 := h.fit.s
 have h2 := h.fit.us
 have h3 := h.fit.ps
 have h4 := h.fit.o
 have h5 := tailB_len u h.fit
 have h6 := h.pp
 have h7 := hostPV_len u.hk u.ha u.hn h.fit.hn
 have h8 := dec_len19 u.port h.fit.port.2
 have h9 : (userB u).length ≤ 2097154 := by
  rw [userB_e]
  split
  ·simp
  ·split <;> simp <;> omega
 have h10 : (portB u.port).length ≤ 20 := by unfold portB; split <;> simp; omega
 unfold putU
 rw [List.length_append, List.length_append]
 split <;> simp <;> omega
theorem urlG_12 (l : Bs) : (urlG l).1.path.length ≤ 12 := by
 unfold urlG
 split
 ·cases schemeV (trimU l) with
  | none => exact Nat.zero_le _
  | some sr =>
   obtain ⟨s, r⟩ := sr
   show (readU s r).1.path.length ≤ 12
   unfold readU
   split
   ·exact Nat.zero_le _
   ·split
    ·rename_i h
     unfold hostedOk at h
     simp only [Bool.and_eq_true, decide_eq_true_eq] at h
     exact h.2.1
    ·exact Nat.zero_le _
 ·exact Nat.zero_le _
def urlPutV (u : Ur) : Bs := if okU u = true then putU u else []
def portU (u : Ur) : Int := if 0 ≤ u.port then u.port else ownP u.sch
def portOfV (u : Ur) : Int := if okU u = true then portU u else -1
set_option maxHeartbeats 2000000 in
set_option maxRecDepth 100000 in
theorem specUrlOk_walk (u : Ur) (pv : Value) (w : World) (hu : FitP u) (hP : PathAt w pv u.path) :
  Calls Tryz.prog 11 #[.agg (uCells u pv)] w fun e w' => e = .returned (.bool (okU u)) ∧ Below w.heap.size w w' := by
 have HPT := Lib.hid fun w1 (hb : Below w.heap.size w w1) => specPut_walk u pv w1 hu.fit hu.pp (hP.below hb)
 have HPA := Lib.hid fun w1 (hb : Below w.heap.size w w1) => hP.below hb
 have HUG := Lib.hid fun w1 => specUrlGet_walk (putU u) w1 (by have := putU_len u hu; omega)
 have K0 : Blk (w.alloc (.cells (uCells u pv) 27)) w.heap.size (uCells u pv) := blk_new w _
 have HB0 := (Below.refl w.heap.size w).alloc (Nat.le_refl _) (.cells (uCells u pv) 27)
 have HO : Hid (okU u = ((urlG (putU u)).2 && eqU (urlG (putU u)).1 u)) := Lib.hid rfl
 have h12 := urlG_12 (putU u)
 generalize okU u = b at HO ⊢
 generalize urlG (putU u) = y at HO HUG h12
 obtain ⟨x, ok⟩ := y
 dsimp only at HO HUG h12
 have HEQ := Lib.hid fun xv w1 (hX : PathAt w1 xv x.path) (hb : Below w.heap.size w w1) => specEqual_walk x u xv pv w1 hX (hP.below hb) (by omega)
 clear hP
 unfold uCells at HPT HEQ K0 HB0 ⊢
 go_enter Tryz.func11, Tryz.ntmps11
 go_upto_region 1 with fail
 generalize w.alloc _ = w1 at K0 HB0 ⊢
 have kc := K0.cells.1
 go_wp2_with fail
 refine (HPT.out _ HB0).mono ?_
 rintro e w2 ⟨rfl, hb2⟩
 have K2 := K0.below hb2
 have HB2 := below_then HB0 HB0.size hb2
 clear kc hb2 K0 HB0
 go_wp2_with fail
 refine (HUG.out _).mono ?_
 rintro e w3 ⟨qv, rfl, hq, hb3⟩
 have K3 := K2.below hb3
 have HB3 := below_then HB2 HB2.size hb3
 clear hb3 K2 HB2
 obtain ⟨A, c, rfl, hAc⟩ := q_slice hq
 have K7 : Blk (w3.alloc (.cells (uCells x (.slice A x.path.length c)) 27)) w3.heap.size (uCells x (.slice A x.path.length c)) := blk_new w3 _
 have K4 := K3.below (below_alloc (Below.refl w3.heap.size w3) (.cells (uCells x (.slice A x.path.length c)) 27))
 have HB4 := HB3.alloc HB3.size (.cells (uCells x (.slice A x.path.length c)) 27)
 have HQ4 := Lib.hid (pathAt_q (q_below hq (below_alloc (Below.refl w3.heap.size w3) (.cells (uCells x (.slice A x.path.length c)) 27))))
 clear hq K3 HB3
 unfold uCells at K7 K4 HB4 HQ4 ⊢
 go_upto_region 2 with fail
 generalize w3.alloc _ = w4 at K7 K4 HB4 HQ4 ⊢
 generalize w3.heap.size = g at K7 ⊢
 cases ok with
 | false =>
  go_wp2
  go_ret
  exact ⟨by rw [HO.out]; rfl, HB4⟩
 | true =>
  have kc := K4.cells.1
  have kc7 := K7.cells.1
  go_wp2_with fail
  refine (HEQ.out _ _ HQ4.out HB4).mono ?_
  rintro e w5 ⟨rfl, hb5⟩
  have HB5 := Lib.hid (below_then HB4 HB4.size hb5)
  clear hb5 kc kc7 K4 K7 HB4
  go_wp2
  go_ret
  exact ⟨by rw [HO.out]; rfl, HB5.out⟩
set_option maxHeartbeats 2000000 in
set_option maxRecDepth 100000 in
theorem implUrlOk_walk (u : Ur) (pv : Value) (w : World) (hu : FitP u) (hP : PathAt w pv u.path) (hT : Tabs w) :
  Calls Tryz.prog 16 #[.agg (uCells u pv)] w fun e w' => e = .returned (.bool (okU u)) ∧ Below w.heap.size w w' := by
 have HPT := Lib.hid fun w1 (hb : Below w.heap.size w w1) => text_walk u pv w1 hu.fit (hT.m.below hb) (hT.i.below hb) (hP.below hb)
 have HUG := Lib.hid fun w1 (hb : Below w.heap.size w w1) => implUrlGet_walk (putU u) w1 (by have := putU_len u hu; omega) (hT.s.below hb) (hT.m.below hb) (hT.i.below hb)
 have K0 : Blk (w.alloc (.cells (uCells u pv) 27)) w.heap.size (uCells u pv) := blk_new w _
 have HB0 := (Below.refl w.heap.size w).alloc (Nat.le_refl _) (.cells (uCells u pv) 27)
 have HO : Hid (okU u = ((urlG (putU u)).2 && eqU (urlG (putU u)).1 u)) := Lib.hid rfl
 have h12 := urlG_12 (putU u)
 generalize okU u = b at HO ⊢
 generalize urlG (putU u) = y at HO HUG h12
 obtain ⟨x, ok⟩ := y
 dsimp only at HO HUG h12
 have HEQ := Lib.hid fun xv w1 (hX : PathAt w1 xv x.path) (hb : Below w.heap.size w w1) => same_walk x u xv pv w1 hX (hP.below hb) (by omega)
 clear hP hT
 unfold uCells at HPT HEQ K0 HB0 ⊢
 go_enter Tryz.func16, Tryz.ntmps16
 go_upto_region 1 with fail
 generalize w.alloc _ = w1 at K0 HB0 ⊢
 have kc := K0.cells.1
 go_wp2_with fail
 refine (HPT.out _ HB0).mono ?_
 rintro e w2 ⟨rfl, hb2⟩
 have K2 := K0.below hb2
 have HB2 := below_then HB0 HB0.size hb2
 clear kc hb2 K0 HB0
 go_wp2_with fail
 refine (HUG.out _ HB2).mono ?_
 rintro e w3 ⟨qv, rfl, hq, hb3⟩
 have K3 := K2.below hb3
 have HB3 := below_then HB2 HB2.size hb3
 clear hb3 K2 HB2
 obtain ⟨A, c, rfl, hAc⟩ := q_slice hq
 have K7 : Blk (w3.alloc (.cells (uCells x (.slice A x.path.length c)) 27)) w3.heap.size (uCells x (.slice A x.path.length c)) := blk_new w3 _
 have K4 := K3.below (below_alloc (Below.refl w3.heap.size w3) (.cells (uCells x (.slice A x.path.length c)) 27))
 have HB4 := HB3.alloc HB3.size (.cells (uCells x (.slice A x.path.length c)) 27)
 have HQ4 := Lib.hid (pathAt_q (q_below hq (below_alloc (Below.refl w3.heap.size w3) (.cells (uCells x (.slice A x.path.length c)) 27))))
 clear hq K3 HB3
 unfold uCells at K7 K4 HB4 HQ4 ⊢
 go_upto_region 2 with fail
 generalize w3.alloc _ = w4 at K7 K4 HB4 HQ4 ⊢
 generalize w3.heap.size = g at K7 ⊢
 cases ok with
 | false =>
  go_wp2
  go_ret
  exact ⟨by rw [HO.out]; rfl, HB4⟩
 | true =>
  have kc := K4.cells.1
  have kc7 := K7.cells.1
  go_wp2_with fail
  refine (HEQ.out _ _ HQ4.out HB4).mono ?_
  rintro e w5 ⟨rfl, hb5⟩
  have HB5 := Lib.hid (below_then HB4 HB4.size hb5)
  clear hb5 kc kc7 K4 K7 HB4
  go_wp2
  go_ret
  exact ⟨by rw [HO.out]; rfl, HB5.out⟩
end Go.Proofs.YtopcpbokfngpeaaGreatDoor.H
