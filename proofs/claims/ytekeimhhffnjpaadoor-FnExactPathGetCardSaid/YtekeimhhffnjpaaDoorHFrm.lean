/- Of no program: form data's pieces between ampersands, each cut at its first equals sign, decoded. No condition. · impl.FormGet: the call comes to the pairs, for every text; internal/bytealg.MaxLen holds some integer. -/
import Derived.Test.YtekeimhhffnjpaaDoorHM
import Derived.Test.YtekeimhhffnjpaaDoorHLib
import Derived.Test.YtekeimhhffnjpaaDoorHImp
import Derived.Tactics
import Derived.KernelRfl
import Derived.RowKit3
import Derived.Deep.LoopGhost
import Derived.Laws.Slices
import Derived.Laws.Rows
import Derived.RowKit
import Derived.Outline
import Derived.Lib.Hide
namespace Go.Proofs.YtekeimhhffnjpaaDoor.H
open Go.RowKit Go.Proofs.YtekeimhhffnjpaaDoorW.PrintWords Go.Proofs.YtekeimhhffnjpaaDoor.Base
/-- A piece as a pair. -/
def pairOf (s : Bs) : Bs × Bs := (decodeMax (cutAh 61 (swapC 43 32 s)), decodeMax (cutBe 61 (swapC 43 32 s)))
def pairsOf (ps : List Bs) : List (Bs × Bs) := (ps.filter fun s => !s.isEmpty).map pairOf
theorem pairsOf_take (ps : List Bs) (k : Nat) (h : k < ps.length) : pairsOf (ps.take (k + 1)) = pairsOf (ps.take k) ++ (if ps[k] = [] then [] else [pairOf ps[k]]) := by
  unfold pairsOf
  rw [List.take_succ_eq_append_getElem h, List.filter_append, List.map_append]
  congr 1
  cases hp : ps[k] with
  | nil => simp
  | cons c t => simp
theorem pairsOf_len (ps : List Bs) : (pairsOf ps).length ≤ ps.length := by
  unfold pairsOf; rw [List.length_map]; exact List.length_filter_le _ _
/-- What FormGet answers. -/
def formGet (l : Bs) : List (Bs × Bs) := if l.length ≤ 600 then pairsOf (splitC 38 l) else []
/-- The pairs as values. -/
def pairV (ps : List (Bs × Bs)) : List Value := ps.flatMap fun p => [.string (B p.1), .string (B p.2)]
theorem pairV_len (ps : List (Bs × Bs)) : (pairV ps).length = ps.length * 2 := by
  induction ps with
  | nil => rfl
  | cons a t ih => simp [pairV] at ih ⊢; omega
theorem pairV_snoc (ps : List (Bs × Bs)) (p : Bs × Bs) : pairV (ps ++ [p]) = pairV ps ++ [.string (B p.1), .string (B p.2)] := by simp [pairV]
end Go.Proofs.YtekeimhhffnjpaaDoor.H
set_option linter.unusedVariables false
namespace Go.Proofs.YtekeimhhffnjpaaDoor.H
open Go.RowKit Go.Proofs.YtekeimhhffnjpaaDoorW.PrintWords Go.Proofs.YtekeimhhffnjpaaDoor.Base
theorem infoPair : (Tryd.prog.info? 71).map (fun i => (i.zero, i.size, i.bytes)) = some (some (.agg #[.string ⟨#[]⟩, .string ⟨#[]⟩]), 2, 32) := by kernel_rfl
set_option maxRecDepth 100000 in
theorem clipP_walk (A : Option Addr) (n c : Nat) (w : World) (hn : n ≤ c) (hm : c ≤ maxLen) (hA : A = none → c = 0) (hz : ∀ a, A = some a → a.off = 0) :
    Calls Tryd.prog 61 #[.slice A n c] w fun e w' => e = .returned (.slice A n n) ∧ w' = w := by
  have h0 : (0 : Int) ≤ (n : Int) := by omega
  have h1 : (n : Int) ≤ (n : Int) := by omega
  have h2 : (n : Int) ≤ (c : Int) := by omega
  go_enter Tryd.func61, Tryd.ntmps61
  go_wp2
  go_ret
  exact ⟨rfl, rfl⟩
theorem q_clip {w : World} {base : Nat} {e : TypeId} {size n cap : Nat} {A : Option Addr} {xs : List Value} (h : w.ownsRow base e size (.slice A n cap) n xs) : QRow w base e size (.slice A n n) n xs := by
  obtain ⟨hx, h2⟩ := h
  refine ⟨hx, ?_⟩
  rcases h2 with ⟨h0, rfl⟩ | ⟨g, c, cur, hv, hg, hh, h1, h3, hsz, htk⟩
  · injection h0 with ha _ _
    subst ha
    exact .inl ⟨rfl, none, rfl, fun a ha => by cases ha⟩
  · injection hv with ha _ hc
    subst ha; subst hc
    exact .inr ⟨g, 0, n, cur, by rw [Nat.zero_mul], hg, hh, Nat.le_refl _, by omega, by rw [hsz, Nat.zero_add]; exact Nat.mul_le_mul_right _ h1, by rw [Nat.zero_mul, List.drop_zero]; exact htk⟩
theorem cut_walk (c : UInt8) (l : Bs) (w : World) (hT : TabM w) (hl : l.length < 4294967281) :
    Calls Tryd.prog 59 #[.string (B l), .string (B [c])] w fun e w' => e = .returned (.tuple #[.string (B (cutAh c l)), .string (B (cutBe c l)), .bool (l.contains c)]) ∧ Below w.heap.size w w' := by
  refine strings_Cut.calls (B l) (B [c]) (B (cutAh c l), B (cutBe c l), l.contains c) w hT ?_
  unfold strings_Cut.f
  rw [if_pos (by simpa using hl), B_data, B_data]
theorem decodeAny_walk (l : Bs) (w : World) : Calls Tryd.prog 18 #[.string (B l)] w fun e w' => e = .returned (.string (B (decodeMax l))) ∧ Below w.heap.size w w' :=
  impl_Decode.calls (B l) _ w (by unfold impl_Decode.f; rw [B_data])
theorem replP_walk (l : Bs) (w : World) (hT : TabM w) (hl : l.length < 4294967281) :
    Calls Tryd.prog 60 #[.string (B l), .string (B [43]), .string (B [32])] w fun e w' => e = .returned (.string (B (swapC 43 32 l))) ∧ Below w.heap.size w w' := by
  refine strings_ReplaceAll.calls (B l) (B [43]) (B [32]) _ w hT ?_
  unfold strings_ReplaceAll.f
  rw [if_pos ⟨by simpa using hl, by simp, by simp⟩, B_data, B_data, B_data, replA_one]
theorem own_formP {w : World} {base : Nat} {e : TypeId} {size : Nat} {v : Value} {n : Nat} {xs : List Value} (h : w.ownsRow base e size v n xs) : ∃ A cap, v = .slice A n cap ∧ n ≤ cap ∧ cap ≤ maxLen ∧ (A = none → cap = 0) ∧ (∀ a, A = some a → a.off = 0) := by
  rcases h.2 with ⟨rfl, rfl⟩ | ⟨g, cap, cur, rfl, _, _, hn, hm, _, _⟩
  · exact ⟨none, 0, rfl, Nat.le_refl _, by unfold maxLen; omega, fun _ => rfl, fun a ha => by cases ha⟩
  · exact ⟨some ⟨g, 0, none⟩, cap, rfl, hn, hm, (fun q => nomatch q), (fun a ha => by obtain rfl := Option.some.inj ha; rfl)⟩
set_option maxHeartbeats 4000000 in
set_option maxRecDepth 100000 in
theorem formGet_walk (l : Bs) (w : World) (hM : TabM w) (hl : l.length ≤ 600) :
    Calls Tryd.prog 20 #[.string (B l)] w fun e w' => ∃ v', e = .returned v' ∧ QRow w' w.heap.size 71 2 v' (pairsOf (splitC 38 l)).length (pairV (pairsOf (splitC 38 l))) ∧ Below w.heap.size w w' := by
  obtain ⟨i0, hi, hz0, hz1, hz2⟩ := info_parts infoPair
  have H2 : Hid (Calls Tryd.prog 58 #[.string (B l), .string (B [38])] w fun e w' => e = .returned (.slice (some ⟨w.heap.size, 0, none⟩) (splitC 38 l).length (splitC 38 l).length) ∧
      (∀ j (h : j < (splitC 38 l).length), w'.cell? ⟨w.heap.size, j, none⟩ = some (.string (B (splitC 38 l)[j]))) ∧ w.heap.size < w'.heap.size ∧ Below w.heap.size w w') := Lib.hid (splitCells 38 l w hM (by omega))
  have hpl : ∀ s ∈ splitC 38 l, s.length ≤ 600 := fun s hs => by
    have := splitC_each 38 l s hs; omega
  have hpn : (splitC 38 l).length ≤ 601 := by
    have h1 := splitC_length 38 l
    have h2 := List.count_le_length (a := (38 : UInt8)) (l := l)
    omega
  have g0 : decide (600 < (l.length : Int)) = false := decide_eq_false (by omega)
  generalize splitC 38 l = ps at H2 hpl hpn ⊢
  go_enter Tryd.func20, Tryd.ntmps20
  go_wp2_with fail
  refine H2.out.mono ?_
  rintro e w3 ⟨rfl, hcells, hlt3, hb03⟩
  have hM3 := hM.below hb03
  have hw3 : w.heap.size ≤ w3.heap.size := hb03.size
  have HC := Lib.hid hcells
  have HB0 := Lib.hid hb03
  clear hcells H2 hM hb03 g0
  obtain ⟨b2, hb2⟩ : ∃ b2, b2 = w.heap.size := ⟨_, rfl⟩
  rw [← hb2] at HC hlt3 ⊢
  have HB2 := Lib.hid hb2
  clear hb2
  go_wp2
  go_loopw [3, 15] (fun v i wr => ∃ k : Nat, k ≤ ps.length ∧ i = .int .i64 k ∧ wr.ownsRow w3.heap.size 71 2 v (pairsOf (ps.take k)).length (pairV (pairsOf (ps.take k))) ∧ Below w3.heap.size w3 wr) (fun _ i _ => ps.length - (intOf i).toNat)
  case atStart => exact ⟨0, by omega, rfl, World.ownsRow_nil _ _ _ _, Below.refl _ _⟩
  case round =>
    obtain ⟨k, hk, rfl, hown, hb⟩ := hrel
    by_cases hlt : k < ps.length
    · have hc : wr.cell? ⟨b2, k, none⟩ = some (.string (B ps[k])) := (hb.cell (p := ⟨b2, k, none⟩) hlt3).trans (HC.out k hlt)
      have hsl := hpl ps[k] (List.getElem_mem hlt)
      have hstep := pairsOf_take ps k hlt
      have hol := pairsOf_len (ps.take k)
      have hol2 : (ps.take k).length ≤ 601 := by simp; omega
      by_cases he : ps[k] = []
      · have hee : ps[k].isEmpty = true := by rw [he]; rfl
        have heb : (ps[k] == []) = true := by rw [he]; rfl
        rw [if_pos he, List.append_nil] at hstep
        have HS := Lib.hid hstep
        rw [he] at hc
        clear hstep he hsl
        go_wp2
        go_roundw
        case rel => exact ⟨k + 1, by omega, by go_num, by rw [HS.out]; exact hown, hb⟩
        case measure => simp [intOf]; omega
      · have hee : ps[k].isEmpty = false := by cases hp : ps[k] with
          | nil => exact absurd hp he
          | cons c t => rfl
        have heb : (ps[k] == []) = false := by simpa using he
        rw [if_neg he] at hstep
        have HS := Lib.hid hstep
        clear hstep
        trace_state
        go_wp2_with fail
        refine (replP_walk ps[k] wr (hM3.below hb) (by omega)).mono ?_
        rintro e w4 ⟨rfl, hb4⟩
        have hb5 : Below w3.heap.size w3 w4 := below_then hb hb.size hb4
        have hown4 := own_below hown hb4
        have hw4 : w3.heap.size ≤ w4.heap.size := hb5.size
        clear hb hown hb4 hc
        go_wp2_with fail
        refine (cut_walk 61 (swapC 43 32 ps[k]) w4 (hM3.below hb5) (by rw [swapC_length]; omega)).mono ?_
        rintro e w5 ⟨rfl, hb6⟩
        have hb7 : Below w3.heap.size w3 w5 := below_then hb5 hw4 hb6
        have hown5 := own_below hown4 hb6
        have hw5 : w3.heap.size ≤ w5.heap.size := hb7.size
        clear hb5 hown4 hb6 hw4
        go_wp2_with fail
        refine (decodeAny_walk (cutAh 61 (swapC 43 32 ps[k])) w5).mono ?_
        rintro e w6 ⟨rfl, hb8⟩
        have hb9 : Below w3.heap.size w3 w6 := below_then hb7 hw5 hb8
        have hown6 := own_below hown5 hb8
        have hw6 : w3.heap.size ≤ w6.heap.size := hb9.size
        clear hb7 hown5 hb8 hw5
        go_wp2_with fail
        refine (decodeAny_walk (cutBe 61 (swapC 43 32 ps[k])) w6).mono ?_
        rintro e w7 ⟨rfl, hb10⟩
        have hb11 : Below w3.heap.size w3 w7 := below_then hb9 hw6 hb10
        have hown7 := own_below hown6 hb10
        have hw7 : w3.heap.size ≤ w7.heap.size := hb11.size
        clear hb9 hown6 hb10 hw6
        have hpo : pairOf ps[k] = (decodeMax (cutAh 61 (swapC 43 32 ps[k])), decodeMax (cutBe 61 (swapC 43 32 ps[k]))) := rfl
        generalize decodeMax (cutAh 61 (swapC 43 32 ps[k])) = x1 at hpo ⊢
        generalize decodeMax (cutBe 61 (swapC 43 32 ps[k])) = x2 at hpo ⊢
        have HP := Lib.hid hpo
        clear hpo
        go_wp2_with (at_builtin; refine wpList_append_own _ rfl _ _ 30 rfl w3.heap.size 71 i0 (.agg #[.string ⟨#[]⟩, .string ⟨#[]⟩]) 2 32 Tryd.underlying30 hi hz0 hz1 hz2 rfl (by decide) _ _ _ rfl (hown7.alloc _) ⟨w7.heap.size, 0, none⟩ 1 1 [.string (B x1), .string (B x2)] rfl rfl ?c1 ?c2 ?c3 ?c4 ?c5 ?_)
        case c1 =>
          intro j u hj
          match j, hj with
          | 0, hj => simp at hj; subst hj; simp [Addr.add]
          | 1, hj => simp at hj; subst hj; simp [Addr.add]
        case c2 => intro u hu; simp at hu; rcases hu with rfl | rfl <;> rfl
        case c3 => unfold maxLen; omega
        case c4 => omega
        case c5 => have := hb11.size; simp; omega
        intro v' w8 hown' hgrow _
        go_wp2
        go_roundw
        case rel =>
          refine ⟨k + 1, by omega, by go_num, ?_, (hb11.alloc (by have := hb11.size; omega) _).grown hgrow (by have := hb11.size; simp; omega) (fun k hk => (hown7.lt k hk).1)⟩
          rw [HS.out, HP.out, pairV_snoc, List.length_append]; exact hown'
        case measure => simp [intOf]; omega
    · obtain rfl : k = ps.length := by omega
      rw [List.take_of_length_le (Nat.le_refl _)] at hown
      obtain ⟨A, cap, rfl, hc1, hc2, hc3, hc4⟩ := own_formP hown
      have hq := q_clip hown
      have HQ := Lib.hid hq
      have hbw : Below w.heap.size w wr := HB0.out.trans (hb.mono (by rw [← HB2.out]; omega))
      have HBW := Lib.hid hbw
      have hww : w.heap.size ≤ w3.heap.size := by rw [← HB2.out]; omega
      clear hown hq hb hbw
      go_wp2_with fail
      refine (clipP_walk A _ cap wr hc1 hc2 hc3 hc4).mono ?_
      rintro e w4 ⟨rfl, hw4⟩
      subst w4
      go_wp2
      go_ret
      exact ⟨_, rfl, q_lower HQ.out hww, HBW.out⟩
theorem formGet_any (l : Bs) (w : World) (hM : TabM w) :
    Calls Tryd.prog 20 #[.string (B l)] w fun e w' => ∃ v', e = .returned v' ∧ QRow w' w.heap.size 71 2 v' (formGet l).length (pairV (formGet l)) ∧ Below w.heap.size w w' := by
  unfold formGet
  by_cases hl : l.length ≤ 600
  · rw [if_pos hl]; exact formGet_walk l w hM hl
  · rw [if_neg hl]
    have g0 : decide (600 < (l.length : Int)) = true := decide_eq_true (by omega)
    go_enter Tryd.func20, Tryd.ntmps20
    go_wp2
    go_ret
    exact ⟨.slice none 0 0, rfl, q_of_own (World.ownsRow_nil _ _ _ _), Below.refl _ _⟩
end Go.Proofs.YtekeimhhffnjpaaDoor.H
