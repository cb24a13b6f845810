/- Of no program: a path's pieces, walked from the first: a piece is taken, or it stands for its own place, or for one back. No condition. · impl.dots, and impl.walk from no segments: the calls come to the path's segments, for texts of at most 200 bytes; impl.sets reads as its table, internal/bytealg.MaxLen holds some integer. · impl.isSlash, impl.PathGet: the calls come to the path's segments, for every text; impl.sets reads as its table, internal/bytealg.MaxLen holds some integer. -/
import Derived.Test.YtekeimhhffnjpaaDoorHM
import Derived.Test.YtekeimhhffnjpaaDoorHImp
import Derived.Test.YtekeimhhffnjpaaDoorHLib
import Derived.Tactics
import Derived.KernelRfl
import Derived.RowKit3
import Derived.Deep.LoopGhost
import Derived.Laws.Slices
import Derived.Laws.Rows
import Derived.RowKit
import Derived.Outline
import Derived.Lib.Hide
import Derived.WalkSmall
namespace Go.Proofs.YtekeimhhffnjpaaDoor.H
open Go.RowKit Go.Proofs.YtekeimhhffnjpaaDoorW.PrintWords Go.Proofs.YtekeimhhffnjpaaDoor.Base
/-- A piece in small letters, each %2e in it as a point. -/
def dotText (s : Bs) : Bs := replA [37, 50, 101] [46] (lower s)
/-- How many points a piece stands for: 1 or 2, or 0. -/
def dotsN (s : Bs) : Int := if dotText s = [46] then 1 else if dotText s = [46, 46] then 2 else 0
/-- What a piece makes of the segments so far; whether it is the last one. -/
def walkS (any : Bs) (out : List Bs) (s : Bs) (last : Bool) : List Bs :=
  if dotsN s = 0 then out ++ [enc any s] else (if dotsN s = 2 ∧ 0 < out.length then out.dropLast else out) ++ (if last then [[]] else [])
def walkL (any : Bs) : List Bs → List Bs → List Bs
  | out, [] => out
  | out, s :: t => walkL any (walkS any out s t.isEmpty) t
theorem walkL_at (any : Bs) (out ps : List Bs) (k : Nat) (h : k < ps.length) : walkL any out (ps.drop k) = walkL any (walkS any out ps[k] (decide (k + 1 = ps.length))) (ps.drop (k + 1)) := by
  rw [List.drop_eq_getElem_cons h, walkL]
  congr 2
  apply bool_eq
  rw [List.isEmpty_iff, List.drop_eq_nil_iff]
  simp; omega
theorem walkS_len (any : Bs) (out : List Bs) (s : Bs) (b : Bool) : (walkS any out s b).length ≤ out.length + 1 := by
  unfold walkS
  split
  · simp
  · split
    · cases b <;> simp <;> omega
    · cases b <;> simp
theorem walkS_last (any : Bs) (out : List Bs) (s : Bs) : 0 < (walkS any out s true).length := by
  unfold walkS
  split <;> simp
theorem walkL_pos (any : Bs) : ∀ (ps out : List Bs), ps ≠ [] → walkL any out ps ≠ []
  | [], _, h => absurd rfl h
  | [s], out, _ => by
    rw [walkL, walkL]
    have := walkS_last any out s
    intro q
    have e : ([] : List Bs).isEmpty = true := rfl
    rw [e] at q
    rw [q] at this; simp at this
  | s :: a :: t, out, _ => by rw [walkL]; exact walkL_pos any (a :: t) _ (by simp)
def isSl (c : UInt8) : Bool := c == 47 || c == 92
/-- A text without a slash, of either kind, at its front. -/
def offSlash (l : Bs) : Bs := match l with
  | [] => []
  | c :: t => if isSl c = true then t else c :: t
theorem offSlash_len (l : Bs) : (offSlash l).length ≤ l.length := by
  cases l with
  | nil => exact Nat.le_refl _
  | cons c t =>
    show (if isSl c = true then t else c :: t).length ≤ t.length + 1
    split <;> simp
/-- The pieces between slashes, of either kind. -/
def pieces (l : Bs) : List Bs := splitC 47 (swapC 92 47 l)
/-- What PathGet answers. -/
def pathB (any l : Bs) : List Bs := if l.length ≤ 200 then walkL any [] (pieces (offSlash l)) else []
end Go.Proofs.YtekeimhhffnjpaaDoor.H
set_option linter.unusedVariables false
namespace Go.Proofs.YtekeimhhffnjpaaDoor.H
open Go.RowKit Go.Proofs.YtekeimhhffnjpaaDoorW.PrintWords Go.Proofs.YtekeimhhffnjpaaDoor.Base
theorem repl_walk (a b l : Bs) (w : World) (hT : TabM w) (hl : l.length < 4294967281) (ha : 1 ≤ a.length) (hb : b.length ≤ a.length) :
    Calls Tryd.prog 60 #[.string (B l), .string (B a), .string (B b)] w fun e w' => e = .returned (.string (B (replA a b l))) ∧ Below w.heap.size w w' := by
  refine strings_ReplaceAll.calls (B l) (B a) (B b) _ w hT ?_
  unfold strings_ReplaceAll.f
  rw [if_pos ⟨by simpa using hl, by simpa using ha, by simpa using hb⟩, B_data, B_data, B_data]
theorem str_ne {a b : Bs} (h : a ≠ b) : (a == b) = false := by simpa using h
set_option maxHeartbeats 1000000 in
set_option maxRecDepth 100000 in
theorem dots_walk (s : Bs) (w : World) (hT : TabM w) (hs : s.length ≤ 1000000) :
    Calls Tryd.prog 105 #[.string (B s)] w fun e w' => e = .returned (.int .i64 (dotsN s)) ∧ Below w.heap.size w w' := by
  have hll : (lower s).length = s.length := by simp [lower]
  have hd : dotsN s = if dotText s = [46] then 1 else if dotText s = [46, 46] then 2 else 0 := rfl
  have H1 := Lib.hid (lower_walk s w (by omega))
  have H2 : Hid (∀ w1 : World, TabM w1 → Calls Tryd.prog 60 #[.string (B (lower s)), .string (B [37, 50, 101]), .string (B [46])] w1 fun e w' => e = .returned (.string (B (dotText s))) ∧ Below w1.heap.size w1 w') := Lib.hid fun w1 h => repl_walk [37, 50, 101] [46] (lower s) w1 h (by omega) (by decide) (by decide)
  clear hll
  go_enter Tryd.func105, Tryd.ntmps105
  go_wp2_with fail
  refine H1.out.mono ?_
  rintro e w1 ⟨rfl, hb1⟩
  go_wp2_with fail
  refine (H2.out _ (hT.below hb1)).mono ?_
  rintro e w2 ⟨rfl, hb2⟩
  have hb := below_then hb1 hb1.size hb2
  have HB := Lib.hid hb
  clear hb hb1 hb2 H1 H2 hT
  generalize dotText s = x at hd ⊢
  by_cases c1 : x = [46]
  · rw [if_pos c1] at hd
    have HD := Lib.hid hd
    clear hd
    subst c1
    go_wp2
    go_ret
    exact ⟨by rw [HD.out]; rfl, HB.out⟩
  · rw [if_neg c1] at hd
    have c1b := str_ne c1
    by_cases c2 : x = [46, 46]
    · rw [if_pos c2] at hd
      have HD := Lib.hid hd
      clear hd c1 c1b
      subst c2
      go_wp2
      go_ret
      exact ⟨by rw [HD.out]; rfl, HB.out⟩
    · rw [if_neg c2] at hd
      have c2b := str_ne c2
      have HD := Lib.hid hd
      clear hd c1 c2
      go_wp2
      go_ret
      exact ⟨by rw [HD.out]; rfl, HB.out⟩
theorem infoStr : (Tryd.prog.info? 9).map (fun i => (i.zero, i.size, i.bytes)) = some (some (.string ⟨#[]⟩), 1, 16) := by kernel_rfl
theorem own_form {w : World} {base : Nat} {e : TypeId} {size : Nat} {v : Value} {n : Nat} {xs : List Value} (h : w.ownsRow base e size v n xs) : ∃ A cap, v = .slice A n cap ∧ n ≤ cap := by
  rcases h.2 with ⟨rfl, rfl⟩ | ⟨g, cap, cur, rfl, _, _, hn, _⟩
  · exact ⟨none, 0, rfl, Nat.le_refl _⟩
  · exact ⟨_, cap, rfl, hn⟩
theorem strV_snoc (ps : List Bs) (s : Bs) : strV (ps ++ [s]) = strV ps ++ [.string (B s)] := by simp [strV]
set_option maxHeartbeats 4000000 in
set_option maxRecDepth 100000 in
theorem walk_walk (l : Bs) (w : World) (hS : TabS w) (hM : TabM w) (hl : l.length ≤ 200) :
    Calls Tryd.prog 73 #[.slice none 0 0, .string (B l)] w fun e w' => ∃ v', e = .returned v' ∧ QRow w' w.heap.size 9 1 v' (walkL (setI 1) [] (pieces l)).length (strV (walkL (setI 1) [] (pieces l))) ∧ Below w.heap.size w w' := by
  obtain ⟨i0, hi, hz0, hz1, hz2⟩ := info_parts infoStr
  have H1 : Hid (∀ w1 : World, TabM w1 → Calls Tryd.prog 60 #[.string (B l), .string (B [92]), .string (B [47])] w1 fun e w' => e = .returned (.string (B (swapC 92 47 l))) ∧ Below w1.heap.size w1 w') := Lib.hid fun w1 h => by
    have := repl_walk [92] [47] l w1 h (by omega) (by decide) (by decide)
    rw [replA_one] at this; exact this
  have H2 : Hid (∀ w1 : World, TabM w1 → Calls Tryd.prog 58 #[.string (B (swapC 92 47 l)), .string (B [47])] w1 fun e w' => e = .returned (.slice (some ⟨w1.heap.size, 0, none⟩) (pieces l).length (pieces l).length) ∧
      (∀ j (h : j < (pieces l).length), w'.cell? ⟨w1.heap.size, j, none⟩ = some (.string (B (pieces l)[j]))) ∧ w1.heap.size < w'.heap.size ∧ Below w1.heap.size w1 w') := Lib.hid fun w1 h => splitCells 47 (swapC 92 47 l) w1 h (by rw [swapC_length]; omega)
  have hpl : ∀ s ∈ pieces l, s.length ≤ 200 := fun s hs => by
    have := splitC_each 47 (swapC 92 47 l) s hs
    rw [swapC_length] at this; omega
  have hpn : (pieces l).length ≤ 201 := by
    have h1 := splitC_length 47 (swapC 92 47 l)
    have h2 := List.count_le_length (a := (47 : UInt8)) (l := swapC 92 47 l)
    rw [swapC_length] at h2
    unfold pieces; omega
  have hpz : pieces l ≠ [] := splitC_ne _ _
  generalize pieces l = ps at H2 hpl hpn hpz ⊢
  have hres := walkL_pos (setI 1) ps [] hpz
  generalize hany : setI 1 = any at hres ⊢
  go_enter Tryd.func73, Tryd.ntmps73
  go_wp2_with fail
  refine (clone_nil_walk _).mono ?_
  rintro e w1 ⟨rfl, hw1⟩
  subst w1
  go_wp2_with fail
  refine (H1.out _ hM).mono ?_
  rintro e w2 ⟨rfl, hb2⟩
  go_wp2_with fail
  refine (H2.out _ (hM.below hb2)).mono ?_
  rintro e w3 ⟨rfl, hcells, hlt3, hb3⟩
  have hb03 : Below w.heap.size w w3 := below_then hb2 hb2.size hb3
  have hS3 := hS.below hb03
  have hM3 := hM.below hb03
  have hw3 : w.heap.size ≤ w3.heap.size := hb03.size
  have HC := Lib.hid hcells
  have HRES := Lib.hid hres
  have HANY := Lib.hid hany
  clear hcells H1 H2 hS hM hb2 hb3 hres hpz hany
  generalize w2.heap.size = b2 at HC hlt3 ⊢
  go_wp2
  go_loopw [5, 17] (fun v i wr => ∃ (k : Nat) (out : List Bs), k ≤ ps.length ∧ i = .int .i64 k ∧ out.length ≤ k ∧ Hid (walkL any out (ps.drop k) = walkL any [] ps) ∧ wr.ownsRow w3.heap.size 9 1 v out.length (strV out) ∧ Below w3.heap.size w3 wr) (fun _ i _ => ps.length - (intOf i).toNat)
  case atStart => exact ⟨0, [], by omega, rfl, by simp, Lib.hid (by simp), World.ownsRow_nil _ _ _ _, Below.refl _ _⟩
  case round =>
    obtain ⟨k, out, hk, rfl, ho, HE, hown, hb⟩ := hrel
    obtain ⟨A0, cap, rfl, hcap⟩ := own_form hown
    by_cases hlt : k < ps.length
    · have hc : wr.cell? ⟨b2, k, none⟩ = some (.string (B ps[k])) := (hb.cell (p := ⟨b2, k, none⟩) hlt3).trans (HC.out k hlt)
      have hsl := hpl ps[k] (List.getElem_mem hlt)
      have hstep := walkL_at any out ps k hlt
      have HS := Lib.hid hstep
      clear hstep
      go_wp2_with fail
      refine (dots_walk ps[k] wr (hM3.below hb) (by omega)).mono ?_
      rintro e w4 ⟨rfl, hb4⟩
      have hb5 : Below w3.heap.size w3 w4 := below_then hb hb.size hb4
      have hown4 := own_below hown hb4
      have hw4 : w3.heap.size ≤ w4.heap.size := hb5.size
      clear hb hown hb4 hc
      have hdef : walkS any out ps[k] (decide (k + 1 = ps.length)) = if dotsN ps[k] = 0 then out ++ [enc any ps[k]] else (if dotsN ps[k] = 2 ∧ 0 < out.length then out.dropLast else out) ++ (if decide (k + 1 = ps.length) = true then [[]] else []) := rfl
      by_cases c0 : dotsN ps[k] = 0
      · rw [if_pos c0] at hdef
        have HW := Lib.hid hdef
        clear hdef
        rw [c0]
        clear c0
        go_wp2_with fail
        refine (encode_walk 1 ps[k] w4 (hS3.below hb5) (by have := (enc_len (setI 1) ps[k]).2; omega)).mono ?_
        rintro e w5 ⟨rfl, hb6⟩
        have hb7 : Below w3.heap.size w3 w5 := below_then hb5 hw4 hb6
        have hown5 := own_below hown4 hb6
        have hw5 : w3.heap.size ≤ w5.heap.size := hb7.size
        clear hb5 hown4 hb6 hw4
        rw [HANY.out]
        go_wp2_with (at_builtin; refine wpList_append_own _ rfl _ _ 37 rfl w3.heap.size 9 i0 (.string ⟨#[]⟩) 1 16 Tryd.underlying37 hi hz0 hz1 hz2 rfl (by decide) _ _ _ rfl (hown5.alloc _) ⟨w5.heap.size, 0, none⟩ 1 1 [.string (B (enc any ps[k]))] rfl rfl ?c1 ?c2 ?c3 ?c4 ?c5 ?_)
        case c1 =>
          intro j u hj
          match j, hj with
          | 0, hj => simp at hj; subst hj; simp [Addr.add]
        case c2 => intro u hu; simp at hu; subst hu; rfl
        case c3 => unfold maxLen; omega
        case c4 => omega
        case c5 => have := hb7.size; simp; omega
        intro v' w6 hown' hgrow _
        go_wp2
        go_roundw
        case rel =>
          refine ⟨k + 1, out ++ [enc any ps[k]], by omega, by go_num, by simp; omega, Lib.hid ?_, ?_, (hb7.alloc (by have := hb7.size; omega) _).grown hgrow (by have := hb7.size; simp; omega) (fun k hk => (hown5.lt k hk).1)⟩
          · rw [← HE.out, HS.out, HW.out]
          · rw [strV_snoc, show (out ++ [enc any ps[k]] : List Bs).length = out.length + 1 by simp]; exact hown'
        case measure => simp [intOf]; omega
      · rw [if_neg c0] at hdef
        have c0b : (dotsN ps[k] == 0) = false := by simpa using c0
        by_cases c2 : dotsN ps[k] = 2
        · by_cases cp : 0 < out.length
          · rw [if_pos ⟨c2, cp⟩] at hdef
            have HW0 := Lib.hid hdef
            clear hdef
            rw [c2]
            clear c0 c0b c2
            obtain ⟨z, hz⟩ : ∃ z, out = out.dropLast ++ [z] := ⟨out.getLast (by intro q; rw [q] at cp; simp at cp), (List.dropLast_concat_getLast _).symm⟩
            obtain ⟨o, hoe⟩ : ∃ o, o = out.dropLast := ⟨_, rfl⟩
            rw [← hoe] at hz HW0
            have hol : out.length = o.length + 1 := by rw [hz]; simp
            obtain ⟨g, cg, hv⟩ := Go.Joins.ownsRow_form hown4 cp
            obtain ⟨rfl, rfl⟩ : A0 = some ⟨g, 0, none⟩ ∧ cap = cg := by injection hv with h1 h2 h3; exact ⟨h1, h3⟩
            have hpop : w4.ownsRow w3.heap.size 9 1 (.slice (some ⟨g, 0, none⟩) o.length cap) o.length (strV o) := by
              have h1 : w4.ownsRow w3.heap.size 9 1 (.slice (some ⟨g, 0, none⟩) (o.length + 1) cap) (o.length + 1) (strV o ++ [.string (B z)]) := by
                rw [← strV_snoc, ← hz, ← hol]; exact hown4
              exact ownsRow_pop (by rw [strV_len, Nat.mul_one]) h1
            have HZ := Lib.hid hz
            have HOE := Lib.hid hoe
            clear hz hoe hown4 hv
            have cpb : decide (0 < (out.length : Int)) = true := decide_eq_true (by omega)
            have hwl : IntKind.i64.wrap ((out.length : Int) - 1) = ((o.length : Nat) : Int) := by rw [i64wrap, w64 (by omega) (by omega)]; omega
            have hle : ((o.length : Nat) : Int) ≤ (cap : Int) := by omega
            by_cases cl : k + 1 = ps.length
            · have clb : ((k : Int) == IntKind.i64.wrap ((ps.length : Int) - 1)) = true := by rw [i64wrap, w64 (by omega) (by omega), beq_iff_eq]; omega
              have clc : ((k : Int) == (ps.length : Int) - 1) = true := by rw [beq_iff_eq]; omega
              have HW : Hid (walkS any out ps[k] (decide (k + 1 = ps.length)) = o ++ [[]]) := Lib.hid (by rw [HW0.out, if_pos (decide_eq_true cl)])
              go_wp2_with (at_builtin; refine wpList_append_own _ rfl _ _ 37 rfl w3.heap.size 9 i0 (.string ⟨#[]⟩) 1 16 Tryd.underlying37 hi hz0 hz1 hz2 rfl (by decide) _ _ _ rfl (hpop.alloc _) ⟨w4.heap.size, 0, none⟩ 1 1 [.string ⟨#[]⟩] rfl rfl ?c1 ?c2 ?c3 ?c4 ?c5 ?_)
              case c1 =>
                intro j u hj
                match j, hj with
                | 0, hj => simp at hj; subst hj; simp [Addr.add]
              case c2 => intro u hu; simp at hu; subst hu; rfl
              case c3 => unfold maxLen; omega
              case c4 => omega
              case c5 => have := hb5.size; simp; omega
              intro v' w6 hown' hgrow _
              go_wp2
              go_roundw
              case rel =>
                refine ⟨k + 1, o ++ [[]], by omega, by go_num, by simp; omega, Lib.hid ?_, ?_, (hb5.alloc (by have := hb5.size; omega) _).grown hgrow (by have := hb5.size; simp; omega) (fun k hk => (hpop.lt k hk).1)⟩
                · rw [← HE.out, HS.out, HW.out]
                · rw [strV_snoc, show (o ++ [[]] : List Bs).length = o.length + 1 by simp]; exact hown'
              case measure => simp [intOf]; omega
            · have clb : ((k : Int) == IntKind.i64.wrap ((ps.length : Int) - 1)) = false := by rw [i64wrap, w64 (by omega) (by omega), beq_eq_false_iff_ne]; omega
              have clc : ((k : Int) == (ps.length : Int) - 1) = false := by rw [beq_eq_false_iff_ne]; omega
              have HW : Hid (walkS any out ps[k] (decide (k + 1 = ps.length)) = o) := Lib.hid (by rw [HW0.out, if_neg (by simpa using cl), List.append_nil])
              go_wp2
              go_roundw
              case rel =>
                refine ⟨k + 1, o, by omega, by go_num, by omega, Lib.hid ?_, hpop, hb5⟩
                rw [← HE.out, HS.out, HW.out]
              case measure => simp [intOf]; omega
          · rw [if_neg (fun q => cp q.2)] at hdef
            have HW0 := Lib.hid hdef
            clear hdef
            rw [c2]
            clear c0 c0b c2
            have cpb : decide (0 < (out.length : Int)) = false := decide_eq_false (by omega)
            by_cases cl : k + 1 = ps.length
            · have clb : ((k : Int) == IntKind.i64.wrap ((ps.length : Int) - 1)) = true := by rw [i64wrap, w64 (by omega) (by omega), beq_iff_eq]; omega
              have clc : ((k : Int) == (ps.length : Int) - 1) = true := by rw [beq_iff_eq]; omega
              have HW : Hid (walkS any out ps[k] (decide (k + 1 = ps.length)) = out ++ [[]]) := Lib.hid (by rw [HW0.out, if_pos (decide_eq_true cl)])
              go_wp2_with (at_builtin; refine wpList_append_own _ rfl _ _ 37 rfl w3.heap.size 9 i0 (.string ⟨#[]⟩) 1 16 Tryd.underlying37 hi hz0 hz1 hz2 rfl (by decide) _ _ _ rfl (hown4.alloc _) ⟨w4.heap.size, 0, none⟩ 1 1 [.string ⟨#[]⟩] rfl rfl ?c1 ?c2 ?c3 ?c4 ?c5 ?_)
              case c1 =>
                intro j u hj
                match j, hj with
                | 0, hj => simp at hj; subst hj; simp [Addr.add]
              case c2 => intro u hu; simp at hu; subst hu; rfl
              case c3 => unfold maxLen; omega
              case c4 => omega
              case c5 => have := hb5.size; simp; omega
              intro v' w6 hown' hgrow _
              go_wp2
              go_roundw
              case rel =>
                refine ⟨k + 1, out ++ [[]], by omega, by go_num, by simp; omega, Lib.hid ?_, ?_, (hb5.alloc (by have := hb5.size; omega) _).grown hgrow (by have := hb5.size; simp; omega) (fun k hk => (hown4.lt k hk).1)⟩
                · rw [← HE.out, HS.out, HW.out]
                · rw [strV_snoc, show (out ++ [[]] : List Bs).length = out.length + 1 by simp]; exact hown'
              case measure => simp [intOf]; omega
            · have clb : ((k : Int) == IntKind.i64.wrap ((ps.length : Int) - 1)) = false := by rw [i64wrap, w64 (by omega) (by omega), beq_eq_false_iff_ne]; omega
              have clc : ((k : Int) == (ps.length : Int) - 1) = false := by rw [beq_eq_false_iff_ne]; omega
              have HW : Hid (walkS any out ps[k] (decide (k + 1 = ps.length)) = out) := Lib.hid (by rw [HW0.out, if_neg (by simpa using cl), List.append_nil])
              go_wp2
              go_roundw
              case rel =>
                refine ⟨k + 1, out, by omega, by go_num, by omega, Lib.hid ?_, hown4, hb5⟩
                rw [← HE.out, HS.out, HW.out]
              case measure => simp [intOf]; omega
        · rw [if_neg (fun q => c2 q.1)] at hdef
          have c2b : (dotsN ps[k] == 2) = false := by simpa using c2
          have HW0 := Lib.hid hdef
          clear hdef c0 c2
          by_cases cl : k + 1 = ps.length
          · have clb : ((k : Int) == IntKind.i64.wrap ((ps.length : Int) - 1)) = true := by rw [i64wrap, w64 (by omega) (by omega), beq_iff_eq]; omega
            have clc : ((k : Int) == (ps.length : Int) - 1) = true := by rw [beq_iff_eq]; omega
            have HW : Hid (walkS any out ps[k] (decide (k + 1 = ps.length)) = out ++ [[]]) := Lib.hid (by rw [HW0.out, if_pos (decide_eq_true cl)])
            go_wp2_with (at_builtin; refine wpList_append_own _ rfl _ _ 37 rfl w3.heap.size 9 i0 (.string ⟨#[]⟩) 1 16 Tryd.underlying37 hi hz0 hz1 hz2 rfl (by decide) _ _ _ rfl (hown4.alloc _) ⟨w4.heap.size, 0, none⟩ 1 1 [.string ⟨#[]⟩] rfl rfl ?c1 ?c2 ?c3 ?c4 ?c5 ?_)
            case c1 =>
              intro j u hj
              match j, hj with
              | 0, hj => simp at hj; subst hj; simp [Addr.add]
            case c2 => intro u hu; simp at hu; subst hu; rfl
            case c3 => unfold maxLen; omega
            case c4 => omega
            case c5 => have := hb5.size; simp; omega
            intro v' w6 hown' hgrow _
            go_wp2
            go_roundw
            case rel =>
              refine ⟨k + 1, out ++ [[]], by omega, by go_num, by simp; omega, Lib.hid ?_, ?_, (hb5.alloc (by have := hb5.size; omega) _).grown hgrow (by have := hb5.size; simp; omega) (fun k hk => (hown4.lt k hk).1)⟩
              · rw [← HE.out, HS.out, HW.out]
              · rw [strV_snoc, show (out ++ [[]] : List Bs).length = out.length + 1 by simp]; exact hown'
            case measure => simp [intOf]; omega
          · have clb : ((k : Int) == IntKind.i64.wrap ((ps.length : Int) - 1)) = false := by rw [i64wrap, w64 (by omega) (by omega), beq_eq_false_iff_ne]; omega
            have clc : ((k : Int) == (ps.length : Int) - 1) = false := by rw [beq_eq_false_iff_ne]; omega
            have HW : Hid (walkS any out ps[k] (decide (k + 1 = ps.length)) = out) := Lib.hid (by rw [HW0.out, if_neg (by simpa using cl), List.append_nil])
            go_wp2
            go_roundw
            case rel =>
              refine ⟨k + 1, out, by omega, by go_num, by omega, Lib.hid ?_, hown4, hb5⟩
              rw [← HE.out, HS.out, HW.out]
            case measure => simp [intOf]; omega
    · obtain rfl : k = ps.length := by omega
      have hout : out = walkL any [] ps := by have := HE.out; rw [List.drop_length, walkL] at this; exact this
      have hpos : 0 < out.length := by
        have := HRES.out
        rw [← hout] at this
        exact List.length_pos_iff.2 this
      have HO := Lib.hid hout
      clear hout
      have hwr : w.heap.size ≤ wr.heap.size := Nat.le_trans hw3 hb.size
      have hbw : Below w.heap.size w wr := hb03.trans (hb.mono hw3)
      go_wp2_with fail
      refine (clone_walk w3.heap.size _ out wr hown hpos (by omega)).mono ?_
      rintro e w4 ⟨v', rfl, hq, hb4⟩
      go_wp2
      go_ret
      refine ⟨v', rfl, ?_, below_then hbw hwr hb4⟩
      rw [HO.out] at hq
      exact q_lower hq hwr
end Go.Proofs.YtekeimhhffnjpaaDoor.H
set_option linter.unusedVariables false
namespace Go.Proofs.YtekeimhhffnjpaaDoor.H
open Go.RowKit Go.Proofs.YtekeimhhffnjpaaDoorW.PrintWords Go.Proofs.YtekeimhhffnjpaaDoor.Base
def impl_PathGet.f (a0 : ByteArray) : Option (List ByteArray) := some ((pathB (setI 1) a0.data.toList).map B)
set_option maxHeartbeats 1000000 in
set_option maxRecDepth 100000 in
theorem isSlash_walk (c : UInt8) (w : World) : Calls Tryd.prog 72 #[.int .u8 ((c.toNat : Nat) : Int)] w fun e w' => e = .returned (.bool (isSl c)) ∧ w' = w := by
  by_cases h1 : c = 47
  · have d1 : (((c.toNat : Nat) : Int) == 47) = true := by rw [h1]; rfl
    have hr : isSl c = true := by rw [h1]; rfl
    rw [hr]; clear hr h1
    go_enter Tryd.func72, Tryd.ntmps72
    go_wp2
    go_ret
    exact ⟨rfl, rfl⟩
  · have d1 : (((c.toNat : Nat) : Int) == 47) = false := by
      rw [beq_eq_false_iff_ne]; intro e; exact h1 ((byte_eq _ 47 (by decide)).1 e)
    have e1 : (c == 47) = false := by simpa using h1
    by_cases h2 : c = 92
    · have d2 : (((c.toNat : Nat) : Int) == 92) = true := by rw [h2]; rfl
      have hr : isSl c = true := by rw [h2]; rfl
      rw [hr]; clear hr h1 h2 e1
      go_enter Tryd.func72, Tryd.ntmps72
      go_wp2
      go_ret
      exact ⟨rfl, rfl⟩
    · have d2 : (((c.toNat : Nat) : Int) == 92) = false := by
        rw [beq_eq_false_iff_ne]; intro e; exact h2 ((byte_eq _ 92 (by decide)).1 e)
      have hr : isSl c = false := by unfold isSl; rw [e1]; simpa using h2
      rw [hr]; clear hr h1 h2 e1
      go_enter Tryd.func72, Tryd.ntmps72
      go_wp2
      go_ret
      exact ⟨rfl, rfl⟩
set_option maxHeartbeats 2000000 in
set_option maxRecDepth 100000 in
theorem pathGet_walk (l : Bs) (w : World) (hS : TabS w) (hM : TabM w) :
    Calls Tryd.prog 30 #[.string (B l)] w fun e w' => ∃ v', e = .returned v' ∧ QRow w' w.heap.size 9 1 v' (pathB (setI 1) l).length (strV (pathB (setI 1) l)) ∧ Below w.heap.size w w' := by
  by_cases hl : l.length ≤ 200
  · have hp : pathB (setI 1) l = walkL (setI 1) [] (pieces (offSlash l)) := by unfold pathB; rw [if_pos hl]
    rw [hp]; clear hp
    have hol := offSlash_len l
    have hW := walk_walk (offSlash l) w hS hM (by omega)
    generalize walkL (setI 1) [] (pieces (offSlash l)) = r at hW ⊢
    have HW := Lib.hid hW
    clear hW hS hM hol
    have g0 : decide (200 < (l.length : Int)) = false := decide_eq_false (by omega)
    by_cases hz : l = []
    · subst hz
      have e0 : offSlash [] = [] := rfl
      rw [e0] at HW
      go_enter Tryd.func30, Tryd.ntmps30
      go_wp2_with fail
      refine HW.out.mono ?_
      rintro e w1 ⟨v', rfl, h1, h2⟩
      go_wp2
      go_ret
      exact ⟨v', rfl, h1, h2⟩
    · have hlt : 0 < l.length := List.length_pos_iff.2 hz
      have hoff : offSlash l = if isSl l[0] = true then l.drop 1 else l := by
        cases l with
        | nil => exact absurd rfl hz
        | cons c t => rfl
      have hs := isSlash_walk l[0]
      have hne : (l != []) = true := by simpa using hz
      have hne3 : l.isEmpty = false := by cases l with
        | nil => exact absurd rfl hz
        | cons c t => rfl
      have HO := Lib.hid hoff
      clear hoff
      go_enter Tryd.func30, Tryd.ntmps30
      go_wp2_with fail
      refine (hs _).mono ?_
      rintro e w1 ⟨rfl, hw1⟩
      subst w1
      cases hc : isSl l[0] with
      | true =>
        have e0 : offSlash l = l.tail := by rw [HO.out, if_pos hc, List.drop_one]
        rw [e0] at HW
        have hx : (B l).extract 1 (B l).size = B (l.drop 1) := by rw [B_extract, B_size, List.take_of_length_le (by simp)]
        have hx2 : (B l).extract 1 l.length = B (l.drop 1) := by rw [B_extract, List.take_of_length_le (by simp)]
        have h1l : (1 : Int) ≤ (l.length : Int) := by omega
        clear hs hc e0
        go_wp2_with fail
        refine HW.out.mono ?_
        rintro e w1 ⟨v', rfl, h1, h2⟩
        go_wp2
        go_ret
        exact ⟨v', rfl, h1, h2⟩
      | false =>
        have e0 : offSlash l = l := by rw [HO.out, if_neg (by rw [hc]; simp)]
        rw [e0] at HW
        clear hs hc e0
        go_wp2_with fail
        refine HW.out.mono ?_
        rintro e w1 ⟨v', rfl, h1, h2⟩
        go_wp2
        go_ret
        exact ⟨v', rfl, h1, h2⟩
  · have hp : pathB (setI 1) l = [] := by unfold pathB; rw [if_neg hl]
    rw [hp]
    have g0 : decide (200 < (l.length : Int)) = true := decide_eq_true (by omega)
    go_enter Tryd.func30, Tryd.ntmps30
    go_wp2
    go_ret
    exact ⟨_, rfl, q_of_own (World.ownsRow_nil _ _ _ _), Below.refl _ _⟩
theorem impl_PathGet.calls (a0 : ByteArray) (r : List ByteArray) (w : World) (hT : TabSM w) (h : impl_PathGet.f a0 = some r) :
    Calls Tryd.prog 30 #[.string a0] w fun e w' => ∃ v0_ : Value, e = .returned (v0_) ∧ Kd.Q Kd.string 9 w' w.heap.size (fun _ => True) v0_ r ∧ Below w.heap.size w w' := by
  obtain ⟨l, rfl⟩ := exB a0
  unfold impl_PathGet.f at h
  rw [B_data] at h
  obtain rfl := Option.some.inj h
  refine (pathGet_walk l w hT.1 hT.2).mono ?_
  rintro e w' ⟨v, rfl, h1, h2⟩
  exact ⟨v, rfl, Q_of_strs h1, h2⟩
end Go.Proofs.YtekeimhhffnjpaaDoor.H
