/- Texts of this claim, joined: HDraw, UrlM, UrlW, DUrlA, HUrlS, SUrlA. Conditions: each theorem's own. -/
import Derived.Test.YtopcpbokfngpeaaGreatDoorB10
import Derived.Test.YtopcpbokfngpeaaGreatDoorB02
import Derived.Test.YtopcpbokfngpeaaGreatDoorB11
import Derived.Test.YtopcpbokfngpeaaGreatDoorB04
import Derived.Test.YtopcpbokfngpeaaGreatDoorB03
import Derived.Test.YtopcpbokfngpeaaGreatDoorB05
import Derived.Lib.IndexAny
import Derived.Lib.LastIndexByte
import Derived.Test.YtopcpbokfngpeaaGreatDoorProg
import Derived.Tactics
import Derived.Deep.RegionHeld3
import Derived.KernelRfl
import Derived.RowKit3
import Derived.Deep.LoopGhost
import Derived.Deep.DeepCutAuto
import Derived.Deep.CutBlock
import Derived.Laws.Slices
import Derived.Laws.Rows
import Derived.RowKit
import Derived.Outline
import Derived.Lib.Hide
import Derived.WalkSmall
/- The pure side of the functions of hosts, paths and texts: what the printed functions tell, as plain lists of bytes. Conditions: each theorem's own. -/
set_option linter.unusedVariables false
set_option linter.unusedSimpArgs false
namespace Go.Proofs.YtopcpbokfngpeaaGreatDoor.Pure
open Go.RowKit Go.Proofs.YtopcpbokfngpeaaGreatDoor.H Go.Proofs.YtopcpbokfngpeaaGreatDoor.Lh Go.Proofs.YtopcpbokfngpeaaGreatDoorW.PrintWords Go.Proofs.YtopcpbokfngpeaaGreatDoorW.PrintLast Go.Proofs.YtopcpbokfngpeaaGreatDoor.Base Go.Proofs.YtopcpbokfngpeaaGreatDoor.Lp

def RdOk (s : List Int) (p : Int) (n : Nat) : Prop := (∀ x ∈ s, 0 ≤ x ∧ x ≤ 255) ∧ s.length ≤ 2000 ∧ 0 ≤ p ∧ p + n ≤ 1000000000
theorem xor_nn (a b : Int) (ha : 0 ≤ a) (ha' : a < 4611686018427387904) (hb : 0 ≤ b) (hb' : b < 4611686018427387904) : 0 ≤ Go.bits .xor .i64 a b ∧ Go.bits .xor .i64 a b < 4611686018427387904 := by
 obtain ⟨a, rfl⟩ := Int.eq_ofNat_of_zero_le ha
 obtain ⟨b, rfl⟩ := Int.eq_ofNat_of_zero_le hb
 have hx : a ^^^ b < 2 ^ 62 := Nat.xor_lt_two_pow (by omega) (by omega)
 have h1 : (BitVec.ofInt 64 (a : Int)).toNat = a := by
  rw [BitVec.ofInt_natCast, BitVec.toNat_ofNat]; exact Nat.mod_eq_of_lt (by omega)
 have h2 : (BitVec.ofInt 64 (b : Int)).toNat = b := by
  rw [BitVec.ofInt_natCast, BitVec.toNat_ofNat]; exact Nat.mod_eq_of_lt (by omega)
 have e : Go.bits .xor .i64 (a : Int) (b : Int) = ((a ^^^ b : Nat) : Int) := by
  show IntKind.i64.wrap ((BitVec.ofInt 64 (a : Int) ^^^ BitVec.ofInt 64 (b : Int)).toNat : Int) = _
  rw [BitVec.toNat_xor, h1, h2, i64_w]
  exact w64 (by omega) (by omega)
 rw [e]; omega
theorem tmod_rng (a n : Int) (ha : 0 ≤ a) (hn : 0 < n) : 0 ≤ Int.tmod a n ∧ Int.tmod a n < n := by
 rw [Int.tmod_eq_emod_of_nonneg ha]; exact ⟨Int.emod_nonneg _ (by omega), Int.emod_lt_of_pos _ hn⟩
theorem tdiv_rng (a n : Int) (ha : 0 ≤ a) (hn : 0 < n) : 0 ≤ Int.tdiv a n ∧ Int.tdiv a n ≤ a := by
 rw [Int.tdiv_eq_ediv_of_nonneg ha]; exact ⟨Int.ediv_nonneg ha (by omega), Int.ediv_le_self _ ha⟩
theorem rd_rng {s : List Int} (h : ∀ x ∈ s, 0 ≤ x ∧ x ≤ 255) (i : Int) : 0 ≤ rd s i ∧ rd s i ≤ 255 := by
 unfold rd
 by_cases hi : i.toNat < s.length
 ·rw [List.getD_eq_getElem?_getD, List.getElem?_eq_getElem hi]; exact h _ (List.getElem_mem hi)
 ·rw [List.getD_eq_getElem?_getD, List.getElem?_eq_none (by omega)]; simp
theorem pick_some (k : Nat) (s : List Int) (p n : Int) {m : Nat} (h : RdOk s p (m + 1)) (hn : 1 ≤ n) (hn' : n ≤ 1000000) : ∃ r, spec_l1Rd_pick.f (k + 1) s p n = some (r, p + 1) ∧ 0 ≤ r ∧ r < n := by
 obtain ⟨hs, hl, hp, hp'⟩ := h
 unfold spec_l1Rd_pick.f
 rw [if_neg (by omega), w64 (n := p + 1) (by omega) (by omega)]
 simp only [spec_l1Rd_pick.j0]
 by_cases hz : s.length = 0
 ·rw [if_pos (by simp [hz])]; exact ⟨0, rfl, by omega, by omega⟩
 ·rw [if_neg (by simp; exact fun e => hz (by simp [e])), w64 (n := p + 1 - 1) (by omega) (by omega)]
  have e1 : p + 1 - 1 = p := by omega
  rw [e1]
  have hlen : (0 : Int) < s.length := by omega
  by_cases hlt : p < s.length
  ·rw [if_pos hlt, if_pos hp, if_neg (by omega)]
   have hr := rd_rng hs p
   rw [w64 (n := rd s p) (by omega) (by omega)]
   obtain ⟨h1, h2⟩ := tmod_rng (rd s p) n hr.1 (by omega)
   exact ⟨_, rfl, h1, h2⟩
  ·rw [if_neg hlt, if_neg (by omega)]
   rw [w64 (n := p * 7) (by omega) (by omega), w64 (n := p * 7 + 3) (by omega) (by omega)]
   obtain ⟨a1, a2⟩ := tmod_rng p s.length hp hlen
   obtain ⟨b1, b2⟩ := tmod_rng (p * 7 + 3) s.length (by omega) hlen
   rw [if_pos a1, if_pos a2, if_pos b1, if_pos b2, if_neg (by omega)]
   have ra := rd_rng hs (Int.tmod p s.length)
   have rb := rd_rng hs (Int.tmod (p * 7 + 3) s.length)
   generalize rd s (Int.tmod p s.length) = x at ra ⊢
   generalize rd s (Int.tmod (p * 7 + 3) s.length) = y at rb ⊢
   obtain ⟨d1, d2⟩ := tdiv_rng p s.length hp hlen
   generalize Int.tdiv p s.length = q at d1 d2 ⊢
   rw [w64 (n := x) (by omega) (by omega), w64 (n := y) (by omega) (by omega), w64 (n := x * 131) (by omega) (by omega), w64 (n := y * 1117) (by omega) (by omega), w64 (n := q) (by omega) (by omega), w64 (n := q * 53) (by omega) (by omega), w64 (n := p * 29) (by omega) (by omega),
    w64 (n := x * 131 + y * 1117) (by omega) (by omega), w64 (n := x * 131 + y * 1117 + p * 29) (by omega) (by omega), w64 (n := x * 131 + y * 1117 + p * 29 + q * 53) (by omega) (by omega)]
   have hz0 : 0 ≤ x * 131 + y * 1117 + p * 29 + q * 53 := by omega
   have hz1 : x * 131 + y * 1117 + p * 29 + q * 53 < 4611686018427387904 := by omega
   generalize x * 131 + y * 1117 + p * 29 + q * 53 = z at hz0 hz1 ⊢
   obtain ⟨t1, t2⟩ := tdiv_rng z 64 hz0 (by omega)
   rw [w64 (n := Int.tdiv z 64) (by omega) (by omega)]
   obtain ⟨x1, x2⟩ := xor_nn z (Int.tdiv z 64) hz0 hz1 t1 (by omega)
   obtain ⟨h1, h2⟩ := tmod_rng _ n x1 (by omega)
   exact ⟨_, rfl, h1, h2⟩
theorem RdOk.step {s : List Int} {p : Int} {m : Nat} (h : RdOk s p (m + 1)) : RdOk s (p + 1) m := ⟨h.1, h.2.1, by have := h.2.2.1; omega, by have := h.2.2.2; omega⟩
theorem l1Open_ok (l0 : List Int) (h : ∀ x ∈ l0, (Lit.int .u8 x).wf = true) (m : Nat) (hm : m ≤ 1000000000) : ∃ s, spec_l1Open.f l0 = some (s, 0) ∧ RdOk s 0 m := by
 have h' : ∀ x ∈ l0, 0 ≤ x ∧ x ≤ 255 := by
  intro x hx
  have := h x hx
  simp [Lit.wf, IntKind.min, IntKind.max, IntKind.bits, IntKind.signed] at this
  omega
 unfold spec_l1Open.f
 by_cases hl : (l0.length : Int) > 2000
 ·rw [if_pos hl, if_pos (by omega)]
  exact ⟨_, rfl, fun x hx => h' x (List.mem_of_mem_take hx), by simp; omega, by omega, by omega⟩
 ·rw [if_neg hl]
  exact ⟨_, rfl, h', by omega, by omega, by omega⟩
theorem pick_ev (s : List Int) (p n : Int) {m : Nat} (h : RdOk s p (m + 1)) (hn : 1 ≤ n) (hn' : n ≤ 1000000) : ∃ r, Ev (fun k => spec_l1Rd_pick.f k s p n) (r, p + 1) ∧ 0 ≤ r ∧ r < n := by
 obtain ⟨r, hr, h0, h1⟩ := pick_some 0 s p n h hn hn'
 exact ⟨r, Ev.of (fun k => spec_l1Rd_pick.mono _ _ _ k) hr, h0, h1⟩
theorem RdOk.less {s : List Int} {p : Int} {m n : Nat} (h : RdOk s p n) (hm : m ≤ n) : RdOk s p m := ⟨h.1, h.2.1, h.2.2.1, by have := h.2.2.2; omega⟩
theorem RdOk.skip {s : List Int} {p : Int} {m n : Nat} (h : RdOk s p (n + m)) : RdOk s (p + n) m := ⟨h.1, h.2.1, by have := h.2.2.1; omega, by have := h.2.2.2; omega⟩

theorem of_some (k : Nat) (s : List Int) (p : Int) {m : Nat} (h : RdOk s p (m + 1)) (l : List ByteArray) (hl : l ≠ []) (hl' : l.length ≤ 1000000) : ∃ x ∈ l, spec_l1Rd_of.f (k + 1) s p l = some (x, p + 1) := by
 have hpos : 0 < l.length := List.length_pos_iff.2 hl
 obtain ⟨r, hr, h0, h1⟩ := pick_some k s p l.length h (by omega) (by omega)
 refine ⟨rdOf ByteArray.empty l r, ?_, ?_⟩
 ·unfold rdOf
  rw [List.getD_eq_getElem?_getD, List.getElem?_eq_getElem (show r.toNat < l.length by omega)]
  exact List.getElem_mem _
 ·unfold spec_l1Rd_of.f
  rw [hr]
  simp only [Option.bind_some]
  rw [if_pos h0, if_pos h1]
theorem of_ev (s : List Int) (p : Int) {m : Nat} (h : RdOk s p (m + 1)) (l : List ByteArray) (hl : l ≠ []) (hl' : l.length ≤ 1000000) : ∃ x ∈ l, Ev (fun k => spec_l1Rd_of.f k s p l) (x, p + 1) := by
 obtain ⟨x, hx, e⟩ := of_some 0 s p h l hl hl'
 exact ⟨x, hx, Ev.of (fun k => spec_l1Rd_of.mono _ _ _ k) e⟩

theorem one_ev (s : List Int) (p : Int) {m : Nat} (h : RdOk s p (m + 1)) (l : List Int) (hl : l ≠ []) (hl' : l.length ≤ 1000000) : ∃ x ∈ l, Ev (fun k => spec_l1Rd_one.f k s p l) (x, p + 1) := by
 have hpos : 0 < l.length := List.length_pos_iff.2 hl
 obtain ⟨r, hr, h0, h1⟩ := pick_ev s p l.length h (by omega) (by omega)
 refine ⟨rd l r, ?_, ?_⟩
 ·unfold rd
  rw [List.getD_eq_getElem?_getD, List.getElem?_eq_getElem (show r.toNat < l.length by omega)]
  exact List.getElem_mem _
 ·unfold spec_l1Rd_one.f
  refine ev_bind hr ?_
  simp only [if_pos h0, if_pos h1]
  exact Ev.now _

theorem hostGV_len (t : Bs) : ∃ (n0 : Int) (l : Bs) (n2 : Int) (b : Bool), hostGV t = (n0, B l, n2, b) ∧ l.length ≤ 1000 := by
 rcases hostGV_shape t with h | ⟨l, hp, h⟩ | ⟨a, _, h⟩
 ·exact ⟨0, [], 0, false, h, by simp⟩
 ·exact ⟨1, l, 0, true, h, by have := (plain_len l hp).2; omega⟩
 ·exact ⟨2, [], _, true, h, by simp⟩
theorem many_l0 : ∀ (d : Nat) (s out : Bs) (n : Nat), n < 2 ^ d → d ≤ 8 → s.length * 2 ^ d ≤ 512 → out.length ≤ 512 * (8 - d) → ∃ b : Bs, b.length ≤ 5000 ∧ Ev (fun k => spec_l1Many.l0 k (B s) (n : Int) (B out)) (B b) := by
 intro d
 induction d with
 | zero =>
  intro s out n hn hd hs ho
  refine ⟨out, by omega, ev_1 fun k => ?_⟩
  have h0 : n = 0 := by simpa using hn
  simp only [spec_l1Many.l0]
  rw [if_neg (by omega)]
 | succ d ih =>
  intro s out n hn hd hs ho
  by_cases h0 : n = 0
  ·refine ⟨out, by omega, ev_1 fun k => ?_⟩
   simp only [spec_l1Many.l0]
   rw [if_neg (by omega)]
  ·have hsl : s.length ≤ 512 := Nat.le_trans (Nat.le_mul_of_pos_right _ (Nat.two_pow_pos _)) hs
   have hs' : (s ++ s).length * 2 ^ d ≤ 512 := by
    rw [List.length_append]
    rw [Nat.pow_succ, Nat.mul_comm (2 ^ d) 2, ← Nat.mul_assoc, Nat.mul_two] at hs
    exact hs
   have hn' : n / 2 < 2 ^ d := by rw [Nat.pow_succ] at hn; omega
   have hq : wrap64 (Int.tdiv (n : Int) 2) = ((n / 2 : Nat) : Int) := by
    have e : Int.tdiv (n : Int) 2 = ((n / 2 : Nat) : Int) := rfl
    have : n < 2 ^ 8 := Nat.lt_of_lt_of_le hn (Nat.pow_le_pow_right (by decide) hd)
    rw [e, w64 (by omega) (by omega)]
   have hm : Int.tmod (n : Int) 2 = ((n % 2 : Nat) : Int) := rfl
   by_cases h1 : n % 2 = 1
   ·obtain ⟨b, hb, e⟩ := ih (s ++ s) (out ++ s) (n / 2) hn' (by omega) hs' (by rw [List.length_append]; omega)
    refine ⟨b, hb, ?_⟩
    refine Ev.step (fun k => by rw [spec_l1Many.l0]) ?_
    simp only [if_pos (show (n : Int) > 0 by omega), hm, h1, if_pos (show ((1 : Nat) : Int) = 1 from rfl), B_size, B_append, if_pos (show out.length + s.length ≤ 9223372036854775807 by omega), if_pos (show s.length + s.length ≤ 9223372036854775807 by omega), hq]
    exact e
   ·obtain ⟨b, hb, e⟩ := ih (s ++ s) out (n / 2) hn' (by omega) hs' (by omega)
    refine ⟨b, hb, ?_⟩
    refine Ev.step (fun k => by rw [spec_l1Many.l0]) ?_
    simp only [if_pos (show (n : Int) > 0 by omega), hm, if_neg (show ¬ ((n % 2 : Nat) : Int) = 1 by omega), B_size, B_append, if_pos (show s.length + s.length ≤ 9223372036854775807 by omega), hq]
    exact e
theorem many_ev (s : Bs) (n : Int) (hs : s.length ≤ 2) (h0 : 0 ≤ n) (h1 : n ≤ 200) : ∃ b : Bs, b.length ≤ 5000 ∧ Ev (fun k => spec_l1Many.f k (B s) n) (B b) := by
 obtain ⟨m, rfl⟩ := Int.eq_ofNat_of_zero_le h0
 exact many_l0 8 s [] m (by omega) (by omega) (by omega) (by simp)

end Go.Proofs.YtopcpbokfngpeaaGreatDoor.Pure
/- Of no program: how an address is read and written; plain lists of bytes. No condition. -/
namespace Go.Proofs.YtopcpbokfngpeaaGreatDoor.H
open Go.RowKit Go.Proofs.YtopcpbokfngpeaaGreatDoorW.PrintWords Go.Proofs.YtopcpbokfngpeaaGreatDoor.Base Go.Proofs.YtopcpbokfngpeaaGreatDoor.Pure

/-! What cannot be seen is taken away at both ends; line ends and tabs anywhere. -/
def low (c : UInt8) : Bool := decide (c.toNat ≤ 32)
def lend (c : UInt8) : Bool := c == 9 || c == 10 || c == 13
def ltrim (l : Bs) : Bs := l.dropWhile low
def rtrim (l : Bs) : Bs := (l.reverse.dropWhile low).reverse
def noEnds (l : Bs) : Bs := l.filter fun c => !lend c
def trimU (l : Bs) : Bs := noEnds (rtrim (ltrim l))
theorem rtrim_snoc (l : Bs) (c : UInt8) : rtrim (l ++ [c]) = if low c = true then rtrim l else l ++ [c] := by
  unfold rtrim
  rw [List.reverse_append]
  simp only [List.reverse_cons, List.reverse_nil, List.nil_append, List.singleton_append, List.dropWhile_cons]
  split <;> simp
theorem ltrim_cons (l : Bs) (c : UInt8) : ltrim (c :: l) = if low c = true then ltrim l else c :: l := by
  unfold ltrim; rw [List.dropWhile_cons]
theorem ltrim_at (l : Bs) (i : Nat) (h : i < l.length) : ltrim (l.drop i) = if low l[i] = true then ltrim (l.drop (i + 1)) else l.drop i := by
  rw [List.drop_eq_getElem_cons h, ltrim_cons]
theorem rtrim_at (l : Bs) (i : Nat) (h : i < l.length) : rtrim (l.take (i + 1)) = if low l[i] = true then rtrim (l.take i) else l.take (i + 1) := by
  rw [List.take_succ_eq_append_getElem h, rtrim_snoc]
theorem ltrim_len (l : Bs) : (ltrim l).length ≤ l.length := (List.dropWhile_sublist _).length_le
theorem rtrim_len (l : Bs) : (rtrim l).length ≤ l.length := by
  unfold rtrim; rw [List.length_reverse]
  exact Nat.le_trans ((List.dropWhile_sublist _).length_le) (by simp)
theorem noEnds_len (l : Bs) : (noEnds l).length ≤ l.length := List.length_filter_le _ _
theorem trimU_len (l : Bs) : (trimU l).length ≤ l.length := Nat.le_trans (noEnds_len _) (Nat.le_trans (rtrim_len _) (ltrim_len _))
theorem noEnds_take (l : Bs) (i : Nat) (h : i < l.length) : noEnds (l.take (i + 1)) = noEnds (l.take i) ++ (if lend l[i] = true then [] else [l[i]]) := by
  rw [List.take_succ_eq_append_getElem h]
  unfold noEnds
  rw [List.filter_append]
  congr 1
  cases h : lend l[i] <;> simp [h]

/-! The scheme ahead of a colon, and what is behind it. -/
def schC (c : UInt8) : Bool := isLet c || isDig c || c == 43 || c == 45 || c == 46
def schOk (s : Bs) : Bool := !s.isEmpty && isLet (s.headD 0) && s.all schC
def schemeV (l : Bs) : Option (Bs × Bs) := if l.contains 58 && schOk (cutAh 58 l) then some (lower (cutAh 58 l), cutBe 58 l) else none
theorem schC_58 : schC 58 = false := by decide
theorem scheme_at (l : Bs) (i : Nat) (h : i < l.length) (hp : (l.take i).all schC = true) (h0 : 0 < i → isLet (l.headD 0) = true) :
    (l[i] = 58 → 0 < i → schemeV l = some (lower (l.take i), l.drop (i + 1))) ∧
    (l[i] = 58 → i = 0 → schemeV l = none) ∧
    (l[i] ≠ 58 → schC l[i] = false → schemeV l = none) ∧
    (i = 0 → isLet l[i] = false → schemeV l = none) := by
  have hne : ∀ x ∈ l.take i, x ≠ 58 := fun x hx q => by
    have := List.all_eq_true.1 hp x hx
    rw [q, schC_58] at this; cases this
  have hs : l = l.take i ++ l[i] :: l.drop (i + 1) := by
    conv => lhs; rw [← List.take_append_drop i l]
    rw [List.drop_eq_getElem_cons h]
  have hhead : 0 < i → (l.take i).headD 0 = l.headD 0 := fun hi => by
    obtain ⟨j, rfl⟩ : ∃ j, i = j + 1 := ⟨i - 1, by omega⟩
    cases l with
    | nil => simp at h
    | cons a t => rfl
  refine ⟨fun e hi => ?_, fun e hi => ?_, fun e hc => ?_, fun hi hc => ?_⟩
  · have e1 : cutAh 58 l = l.take i := by conv => lhs; rw [hs, e]
                                          exact cutAh_cut 58 _ _ hne
    have e2 : cutBe 58 l = l.drop (i + 1) := by conv => lhs; rw [hs, e]
                                                exact cutBe_cut 58 _ _ hne
    have e3 : l.contains 58 = true := by
      rw [List.contains_eq_mem]; exact decide_eq_true (by rw [← e]; exact List.getElem_mem h)
    have e4 : schOk (l.take i) = true := by
      unfold schOk
      rw [hhead hi, h0 hi, hp]
      have : (l.take i).isEmpty = false := by
        cases hh : l.take i with
        | nil => have := congrArg List.length hh; rw [List.length_take, List.length_nil] at this; omega
        | cons _ _ => rfl
      rw [this]; rfl
    unfold schemeV
    rw [e1, e2, e3, e4]; rfl
  · subst hi
    have e1 : cutAh 58 l = [] := by
      cases l with
      | nil => simp at h
      | cons a t => exact if_pos e
    unfold schemeV
    rw [e1]
    have : schOk [] = false := by decide
    rw [this, Bool.and_false]; rfl
  · have hm : schOk (cutAh 58 l) = true → False := fun q => by
      unfold schOk at q
      have h3 := (Bool.and_eq_true_iff.1 q).2
      have hin : l[i] ∈ cutAh 58 l := by
        have e1 : cutAh 58 l = l.take i ++ l[i] :: cutAh 58 (l.drop (i + 1)) := by
          conv => lhs; rw [hs]
          generalize l.take i = a at hne
          clear hs hhead hp h0 q h3
          induction a with
          | nil => exact if_neg e
          | cons x t ih => rw [List.cons_append, cutAh, if_neg (hne x (by simp)), ih (fun y hy => hne y (by simp [hy]))]; rfl
        rw [e1]; simp
      have := List.all_eq_true.1 h3 _ hin
      rw [hc] at this; cases this
    unfold schemeV
    rw [if_neg]
    intro q
    exact hm (Bool.and_eq_true_iff.1 q).2
  · subst hi
    by_cases e : l[0] = 58
    · have e1 : cutAh 58 l = [] := by
        cases l with
        | nil => simp at h
        | cons a t => exact if_pos e
      unfold schemeV
      rw [e1]
      have : schOk [] = false := by decide
      rw [this, Bool.and_false]; rfl
    · have e1 : (cutAh 58 l).headD 0 = l[0] := by
        cases l with
        | nil => simp at h
        | cons a t => show (if a = 58 then [] else a :: cutAh 58 t).headD 0 = a; rw [if_neg (show ¬ a = 58 from e)]; rfl
      unfold schemeV schOk
      rw [e1, hc]; simp
theorem scheme_end (l : Bs) (hp : l.all schC = true) : schemeV l = none := by
  unfold schemeV
  have : l.contains 58 = false := by
    rw [List.contains_eq_mem]
    refine decide_eq_false fun q => ?_
    have := List.all_eq_true.1 hp _ q
    rw [schC_58] at this; cases this
  rw [this]; rfl
theorem all_take (p : UInt8 → Bool) (l : Bs) (i : Nat) (h : i < l.length) : (l.take (i + 1)).all p = ((l.take i).all p && p l[i]) := by
  rw [List.take_succ_eq_append_getElem h, List.all_append]; simp

/-! Up to the first of some bytes, and from there on. -/
def upA (S l : Bs) : Bs := l.takeWhile fun c => !S.contains c
def upR (S l : Bs) : Bs := l.dropWhile fun c => !S.contains c
theorem up_len (S l : Bs) : (upA S l).length + (upR S l).length = l.length := by
  have := congrArg List.length (List.takeWhile_append_dropWhile (p := fun c => !S.contains c) (l := l))
  rw [List.length_append] at this; exact this
theorem upA_take (S l : Bs) : upA S l = l.take (upA S l).length := (List.prefix_iff_eq_take.1 (List.takeWhile_prefix _))
theorem upR_drop (S l : Bs) : upR S l = l.drop (upA S l).length := by
  have h : upA S l ++ upR S l = l := List.takeWhile_append_dropWhile
  have e : (upA S l ++ upR S l).drop (upA S l).length = upR S l := List.drop_left ..
  rw [h] at e; exact e.symm
def ixS (S l : Bs) : Nat := (upA S l).length
theorem ixS_le (S l : Bs) : ixS S l ≤ l.length := by have := up_len S l; unfold ixS; omega
theorem ixS_cons (S : Bs) (c : UInt8) (l : Bs) : ixS S (c :: l) = if S.contains c = true then 0 else ixS S l + 1 := by
  unfold ixS upA
  rw [List.takeWhile_cons]
  cases h : S.contains c <;> simp
theorem ixS_at (S l : Bs) (i : Nat) (h : i < l.length) : ixS S (l.drop i) = if S.contains l[i] = true then 0 else ixS S (l.drop (i + 1)) + 1 := by
  rw [List.drop_eq_getElem_cons h, ixS_cons]

/-! A port: of figures alone, at most 65535; that of the scheme is not told. -/
def ownP (s : Bs) : Int := if s = [104, 116, 116, 112] then 80 else if s = [104, 116, 116, 112, 115] then 443 else -1
def portV (l : Bs) (own : Int) : Option Int := match dig 10 0 l with
  | none => none
  | some n => if 65535 < n then none else if l = [] ∨ n = own then some (-1) else some n
theorem dg_isDig (c : UInt8) : dg c = isDig c := by unfold dg isDig; rw [Bool.decide_and]
def capN : Int → Bs → Option Int
  | n, [] => some n
  | n, c :: t => if dg c = true then capN (min 65536 (10 * n + ((c.toNat : Int) - 48))) t else none
def capOk : Option Int → Option Int → Prop
  | none, none => True
  | some a, some b => a = min 65536 b
  | some a, none => a = 65536
  | none, some _ => False
theorem hexI_dg (c : UInt8) : (dg c = true → hexI c = (c.toNat : Int) - 48 ∧ 0 ≤ hexI c ∧ hexI c < 10) ∧ (dg c = false → hexI c < 0 ∨ hexI c ≥ 10) := by
  constructor
  · intro h
    have h1 := (dg_iff c).1 h
    unfold hexI
    rw [if_pos (by omega)]; omega
  · intro h
    have h1 : ¬ (48 ≤ c.toNat ∧ c.toNat ≤ 57) := fun q => by rw [(dg_iff c).2 q] at h; cases h
    unfold hexI
    rw [if_neg (by omega)]
    split
    · omega
    · split <;> omega
theorem capN_full : ∀ (l : Bs), capN 65536 l = none ∨ capN 65536 l = some 65536
  | [] => .inr rfl
  | c :: t => by
    unfold capN
    by_cases h : dg c = true
    · rw [if_pos h]
      have h1 := (dg_iff c).1 h
      have e : min 65536 (10 * 65536 + ((c.toNat : Int) - 48)) = 65536 := by omega
      rw [e]; exact capN_full t
    · rw [if_neg h]; exact .inl rfl
theorem cap_dig : ∀ (l : Bs) (n m : Int), 0 ≤ m → n = min 65536 m → (capN n l).isSome = l.all dg ∧ ((dig 10 m l).isSome = true → l.all dg = true) ∧ (∀ a, capN n l = some a → match dig 10 m l with | some b => a = min 65536 b | none => a = 65536)
  | [], n, m, hm, h => ⟨rfl, fun _ => rfl, fun a ha => by
      have : n = a := Option.some.inj ha
      show a = min 65536 m
      omega⟩
  | c :: t, n, m, hm, h => by
    unfold capN dig
    by_cases hd : dg c = true
    · obtain ⟨h1, h2⟩ := hexI_dg c
      obtain ⟨e1, e2, e3⟩ := h1 hd
      rw [if_pos hd]
      have hl : (c :: t).all dg = t.all dg := by simp [hd]
      rw [hl]
      by_cases hbig : m > 4294967295
      · rw [if_pos (Or.inr (Or.inr hbig))]
        have hn : n = 65536 := by omega
        have e : min 65536 (10 * n + ((c.toNat : Int) - 48)) = 65536 := by omega
        rw [e]
        obtain ⟨i1, i2, i3⟩ := cap_dig t 65536 65536 (by omega) (by omega)
        refine ⟨i1, fun q => absurd q (by simp), fun a ha => ?_⟩
        rcases capN_full t with q | q
        · rw [q] at ha; cases ha
        · rw [q] at ha; exact (Option.some.inj ha).symm
      · rw [if_neg (by omega)]
        exact cap_dig t _ _ (by omega) (by omega)
    · have hd' : dg c = false := by simpa using hd
      obtain ⟨h1, h2⟩ := hexI_dg c
      have h3 := h2 hd'
      rw [if_neg hd, if_pos (by omega)]
      refine ⟨by simp [hd'], fun q => by simp at q, fun a ha => by cases ha⟩
theorem cap_port (l : Bs) (own : Int) : (match capN 0 l with | none => none | some n => if 65535 < n then none else if l = [] ∨ n = own then some (-1) else some n) = portV l own := by
  obtain ⟨h1, h2, h3⟩ := cap_dig l 0 0 (by omega) (by omega)
  unfold portV
  cases hc : capN 0 l with
  | none =>
    rw [hc] at h1
    cases hd : dig 10 0 l with
    | none => rfl
    | some b => rw [hd] at h2; rw [← h1] at h2; simp at h2
  | some a =>
    have := h3 a hc
    cases hd : dig 10 0 l with
    | none => rw [hd] at this; subst this; rfl
    | some b =>
      rw [hd] at this
      show (if 65535 < a then none else if l = [] ∨ a = own then some (-1) else some a) = (if 65535 < b then none else if l = [] ∨ b = own then some (-1) else some b)
      have : a = min 65536 b := this
      by_cases q : 65535 < b
      · rw [if_pos q, if_pos (by omega)]
      · have e : a = b := by omega
        rw [e]
theorem capN_take (l : Bs) (i : Nat) (h : i < l.length) : capN 0 (l.take (i + 1)) = (capN 0 (l.take i)).bind fun n => if dg l[i] = true then some (min 65536 (10 * n + ((l[i].toNat : Int) - 48))) else none := by
  rw [List.take_succ_eq_append_getElem h]
  generalize l.take i = a
  generalize l[i] = c
  generalize (0 : Int) = z
  induction a generalizing z with
  | nil =>
    show capN z [c] = _
    unfold capN
    rfl
  | cons x t ih =>
    rw [List.cons_append, capN, capN]
    split
    · exact ih _
    · rfl

theorem capN_append : ∀ (a b : Bs) (z : Int), capN z (a ++ b) = (capN z a).bind fun n => capN n b
  | [], _, _ => rfl
  | x :: t, b, z => by
    rw [List.cons_append, capN, capN]
    split
    · exact capN_append t b _
    · rfl
theorem capN_none (l : Bs) (i : Nat) (h : i < l.length) (hd : dg l[i] = false) : capN 0 l = none := by
  have e : l = l.take (i + 1) ++ l.drop (i + 1) := (List.take_append_drop _ _).symm
  rw [e, capN_append, capN_take l i h, hd]
  cases capN 0 (l.take i) <;> rfl
/-! Who is ahead of the last at sign. -/
def lastAt : Nat → Int → Bs → Int
  | _, a, [] => a
  | i, a, c :: t => lastAt (i + 1) (if c = 64 then (i : Int) else a) t
def atN (l : Bs) : Int := lastAt 0 (-1) l
theorem lastAt_drop (l : Bs) (i : Nat) (h : i < l.length) (a : Int) : lastAt i a (l.drop i) = lastAt (i + 1) (if l[i] = 64 then (i : Int) else a) (l.drop (i + 1)) := by
  rw [List.drop_eq_getElem_cons h, lastAt]
theorem lastAt_none : ∀ (l : Bs) (i : Nat) (a : Int), (∀ x ∈ l, x ≠ 64) → lastAt i a l = a
  | [], _, _, _ => rfl
  | c :: t, i, a, h => by rw [lastAt, if_neg (h c (by simp)), lastAt_none t _ _ fun x hx => h x (by simp [hx])]
theorem lastAt_app : ∀ (a : Bs) (b : Bs) (i : Nat) (n : Int), lastAt i n (a ++ b) = lastAt (i + a.length) (lastAt i n a) b
  | [], _, _, _ => rfl
  | c :: t, b, i, n => by rw [List.cons_append, lastAt, lastAt_app t b, lastAt, List.length_cons, show i + 1 + t.length = i + (t.length + 1) by omega]
theorem atN_none (l : Bs) (h : ∀ x ∈ l, x ≠ 64) : atN l = -1 := lastAt_none l 0 _ h
theorem atN_cut (a b : Bs) (h : ∀ x ∈ b, x ≠ 64) : atN (a ++ 64 :: b) = a.length := by
  unfold atN
  rw [lastAt_app, lastAt, if_pos rfl, lastAt_none b _ _ h, Nat.zero_add]
theorem atN_cases : ∀ l : Bs, (atN l = -1 ∧ ∀ x ∈ l, x ≠ 64) ∨ ∃ a b, l = a ++ 64 :: b ∧ (∀ x ∈ b, x ≠ 64) ∧ atN l = a.length := fun l => by
  by_cases h : (64 : UInt8) ∈ l
  · have hr : ∃ a b, l = a ++ 64 :: b ∧ ∀ x ∈ b, x ≠ 64 := by
      induction l with
      | nil => cases h
      | cons c t ih =>
        by_cases q : (64 : UInt8) ∈ t
        · obtain ⟨a, b, e, hb⟩ := ih q
          exact ⟨c :: a, b, by rw [e]; rfl, hb⟩
        · rcases List.mem_cons.1 h with e | e
          · exact ⟨[], t, by rw [e]; rfl, fun x hx e => q (e ▸ hx)⟩
          · exact absurd e q
    obtain ⟨a, b, e, hb⟩ := hr
    exact .inr ⟨a, b, e, hb, by rw [e]; exact atN_cut a b hb⟩
  · have := fun x (hx : x ∈ l) (e : x = 64) => h (e ▸ hx)
    exact .inl ⟨atN_none l this, this⟩
theorem atN_lib (l : Bs) : Lib.lastIndexByte (B l) 64 = atN l := by
  have hget : ∀ j (hj : j < l.length), ((B l).data[j]!) = l[j] := fun j hj => by simp [B, hj]
  have hs := Lib.lastIndexByte_spec (B l) 64
  rw [B_size] at hs
  rcases atN_cases l with ⟨e, hn⟩ | ⟨a, b, e, hb, ha⟩
  · rw [e]
    rcases hs with ⟨h1, _⟩ | ⟨i, hi, h1, h2, _⟩
    · exact h1
    · rw [hget i hi] at h2
      exact absurd (UInt8.toNat_inj.1 (show l[i].toNat = (64 : UInt8).toNat by simp; omega)) (hn _ (List.getElem_mem hi))
  · rw [ha]
    have hlt : a.length < l.length := by rw [e]; simp
    have hat : l[a.length] = 64 := by simp [e]
    rcases hs with ⟨_, h2⟩ | ⟨i, hi, h1, h2, h3⟩
    · have := h2 a.length hlt
      rw [hget _ hlt, hat] at this
      exact absurd rfl this
    · rw [h1]
      rw [hget i hi] at h2
      rcases Nat.lt_trichotomy i a.length with q | q | q
      · have := h3 a.length q hlt
        rw [hget _ hlt, hat] at this
        exact absurd rfl this
      · rw [q]
      · have hm : l[i] ∈ b := by
          have h64 : l[i]? = some l[i] := List.getElem?_eq_getElem hi
          conv at h64 => lhs; rw [e]
          rw [List.getElem?_append_right (by omega), List.getElem?_cons, if_neg (by omega)] at h64
          exact List.mem_of_getElem? h64
        exact absurd (UInt8.toNat_inj.1 (show l[i].toNat = (64 : UInt8).toNat by simp; omega)) (hb _ hm)
theorem atN_rng (l : Bs) : -1 ≤ atN l ∧ atN l < l.length := by
  rcases atN_cases l with ⟨e, _⟩ | ⟨a, b, e, _, ha⟩
  · rw [e]; omega
  · rw [ha, e]; simp; omega
def ahAt (l : Bs) : Bs := l.take (atN l).toNat
def behAt (l : Bs) : Bs := l.drop (atN l + 1).toNat
theorem behAt_len (l : Bs) : (behAt l).length ≤ l.length := by unfold behAt; simp
theorem ahAt_len (l : Bs) : (ahAt l).length ≤ l.length := by unfold ahAt; simp; omega

/-! The first of some bytes, as the library tells it. -/
theorem idx_any (S : Bs) : ∀ l : Bs, Lib.indexAny l S = if ixS S l < l.length then (ixS S l : Int) else -1
  | [] => rfl
  | c :: t => by
    rw [Lib.indexAny, idx_any S t, ixS_cons]
    by_cases h : S.contains c = true
    · rw [if_pos h, if_pos h, if_pos (by simp)]; rfl
    · rw [if_neg h, if_neg h]
      by_cases q : ixS S t < t.length
      · rw [if_pos q, if_pos (show ixS S t + 1 < (c :: t).length by rw [List.length_cons]; omega)]
        have : ((ixS S t : Int) == -1) = false := by rw [beq_eq_false_iff_ne]; omega
        rw [this]; rfl
      · rw [if_neg q, if_neg (show ¬ ixS S t + 1 < (c :: t).length by rw [List.length_cons]; omega)]; rfl
theorem ixS_all (S l : Bs) (h : ¬ ixS S l < l.length) : upA S l = l ∧ upR S l = [] := by
  have h1 := up_len S l
  have h2 : (upR S l).length = 0 := by unfold ixS at h; omega
  have h3 : upR S l = [] := List.eq_nil_of_length_eq_zero h2
  refine ⟨?_, h3⟩
  rw [upA_take, List.take_of_length_le (by unfold ixS at h; omega)]

/-! An address. -/
structure Ur where
  sch : Bs
  usr : Bs
  pas : Bs
  hk : Int
  hn : Bs
  ha : Int
  port : Int
  path : List Bs
  opq : Bs
  hq : Bool
  qry : Bs
  hf : Bool
  frg : Bs
def Ur.zero : Ur := ⟨[], [], [], 0, [], 0, 0, [], [], false, [], false, []⟩
def eqU (u v : Ur) : Bool := u.sch == v.sch && u.usr == v.usr && u.pas == v.pas && (u.hk == v.hk && u.hn == v.hn && u.ha == v.ha) && u.port == v.port && u.path == v.path && u.opq == v.opq && u.hq == v.hq && u.qry == v.qry && u.hf == v.hf && u.frg == v.frg
def userB (u : Ur) : Bs := if u.usr ≠ [] ∨ u.pas ≠ [] then u.usr ++ (if u.pas ≠ [] then 58 :: u.pas else []) ++ [64] else []
def portB (n : Int) : Bs := if 0 ≤ n then 58 :: Lib.decDigits n.toNat else []
def tailB (u : Ur) : Bs := (if u.hq = true then 63 :: u.qry else []) ++ (if u.hf = true then 35 :: u.frg else [])
def putU (u : Ur) : Bs := u.sch ++ [58] ++ (if ownP u.sch < 0 then u.opq else [47, 47] ++ userB u ++ hostPV u.hk u.hn u.ha ++ portB u.port ++ pathPut u.path) ++ tailB u
def setTail (u : Ur) (l : Bs) : Ur := { u with hq := !(cutAh 35 l).isEmpty, qry := enc (setB 2) ((cutAh 35 l).drop 1), hf := l.contains 35, frg := enc (setB 3) (cutBe 35 l) }
def setWho (u : Ur) (l : Bs) : Ur := { u with usr := enc (setB 4) (cutAh 58 l), pas := enc (setB 4) (cutBe 58 l) }
def setAuth (u : Ur) (l : Bs) : Ur :=
  let v := if 0 ≤ atN l then setWho u (ahAt l) else u
  let h := hostGV (cutAh 58 (behAt l))
  { v with hk := h.1, hn := h.2.1.data.toList, ha := h.2.2.1, port := (portV (cutBe 58 (behAt l)) (ownP u.sch)).getD 0 }
def authOk (u : Ur) (l : Bs) : Bool := (hostGV (cutAh 58 (behAt l))).2.2.2 && (portV (cutBe 58 (behAt l)) (ownP u.sch)).isSome
def offSl (l : Bs) : Bs := l.dropWhile isSl
def setHosted (u : Ur) (l : Bs) : Ur :=
  setTail { setAuth u (upA [47, 92, 63, 35] l) with path := pathB (setB 1) (upA [63, 35] (upR [47, 92, 63, 35] l)) } (upR [63, 35] (upR [47, 92, 63, 35] l))
def baseU (s : Bs) : Ur := { Ur.zero with sch := s, port := -1 }
def opaqueU (s r : Bs) : Ur := setTail { baseU s with opq := enc (setB 5) (upA [63, 35] r) } (upR [63, 35] r)
def hostedU (s r : Bs) : Ur := setHosted (baseU s) (offSl r)
def hostedOk (s r : Bs) : Bool := authOk (baseU s) (upA [47, 92, 63, 35] (offSl r)) && (decide ((hostedU s r).path.length ≤ 12) && decide ((putU (hostedU s r)).length ≤ 600))
def readU (s r : Bs) : Ur × Bool := if ownP s < 0 then (opaqueU s r, true) else if hostedOk s r = true then (hostedU s r, true) else (Ur.zero, false)
def urlG (l : Bs) : Ur × Bool := if l.length ≤ 200 then (match schemeV (trimU l) with | none => (Ur.zero, false) | some (s, r) => readU s r) else (Ur.zero, false)
def okU (u : Ur) : Bool := (urlG (putU u)).2 && eqU (urlG (putU u)).1 u
end Go.Proofs.YtopcpbokfngpeaaGreatDoor.H
/- How an address lies in memory: its cells, and what stays of them. No condition. -/
namespace Go.Proofs.YtopcpbokfngpeaaGreatDoor.H
open Go.RowKit Go.Proofs.YtopcpbokfngpeaaGreatDoorW.PrintWords Go.Proofs.YtopcpbokfngpeaaGreatDoor.Base Go.Proofs.YtopcpbokfngpeaaGreatDoor.Pure
def uCells (u : Ur) (pv : Value) : Array Value := #[.string (B u.sch), .string (B u.usr), .string (B u.pas), .int .i64 u.hk, .string (B u.hn), .int .i64 u.ha, .int .i64 u.port, pv, .string (B u.opq), .bool u.hq, .string (B u.qry), .bool u.hf, .string (B u.frg)]
def Blk (w : World) (g : Nat) (cs : Array Value) : Prop := w.heap[g]? = some (.cells cs 27 (0, 0))
theorem Blk.lt {w : World} {g : Nat} {cs : Array Value} (h : Blk w g cs) : g < w.heap.size := (Array.getElem?_eq_some_iff.1 h).1
theorem Blk.below {w w1 : World} {g : Nat} {cs : Array Value} (h : Blk w g cs) (hb : Below w.heap.size w w1) : Blk w1 g cs := blk_below h hb
theorem Blk.put {w : World} {g : Nat} {cs : Array Value} (h : Blk w g cs) (i : Nat) (v : Value) : Blk (w.setCell ⟨g, i, none⟩ v) g (cs.setIfInBounds i v) := blk_set h i v
theorem Blk.cells {w : World} {g : Nat} {c0 c1 c2 c3 c4 c5 c6 c7 c8 c9 c10 c11 c12 : Value} (h : Blk w g #[c0, c1, c2, c3, c4, c5, c6, c7, c8, c9, c10, c11, c12]) :
    (w.cell? ⟨g, 0, none⟩ = some c0 ∧ w.cell? ⟨g, 1, none⟩ = some c1 ∧ w.cell? ⟨g, 2, none⟩ = some c2 ∧ w.cell? ⟨g, 3, none⟩ = some c3 ∧ w.cell? ⟨g, 4, none⟩ = some c4 ∧ w.cell? ⟨g, 5, none⟩ = some c5 ∧ w.cell? ⟨g, 6, none⟩ = some c6 ∧ w.cell? ⟨g, 7, none⟩ = some c7 ∧ w.cell? ⟨g, 8, none⟩ = some c8 ∧ w.cell? ⟨g, 9, none⟩ = some c9 ∧ w.cell? ⟨g, 10, none⟩ = some c10 ∧ w.cell? ⟨g, 11, none⟩ = some c11 ∧ w.cell? ⟨g, 12, none⟩ = some c12) ∧
    (w.frozen? ⟨g, 0, none⟩ = false ∧ w.frozen? ⟨g, 1, none⟩ = false ∧ w.frozen? ⟨g, 2, none⟩ = false ∧ w.frozen? ⟨g, 3, none⟩ = false ∧ w.frozen? ⟨g, 4, none⟩ = false ∧ w.frozen? ⟨g, 5, none⟩ = false ∧ w.frozen? ⟨g, 6, none⟩ = false ∧ w.frozen? ⟨g, 7, none⟩ = false ∧ w.frozen? ⟨g, 8, none⟩ = false ∧ w.frozen? ⟨g, 9, none⟩ = false ∧ w.frozen? ⟨g, 10, none⟩ = false ∧ w.frozen? ⟨g, 11, none⟩ = false ∧ w.frozen? ⟨g, 12, none⟩ = false) :=
  ⟨⟨(blk_cell h 0).trans rfl, (blk_cell h 1).trans rfl, (blk_cell h 2).trans rfl, (blk_cell h 3).trans rfl, (blk_cell h 4).trans rfl, (blk_cell h 5).trans rfl, (blk_cell h 6).trans rfl, (blk_cell h 7).trans rfl, (blk_cell h 8).trans rfl, (blk_cell h 9).trans rfl, (blk_cell h 10).trans rfl, (blk_cell h 11).trans rfl, (blk_cell h 12).trans rfl⟩,
   ⟨blk_frozen h 0, blk_frozen h 1, blk_frozen h 2, blk_frozen h 3, blk_frozen h 4, blk_frozen h 5, blk_frozen h 6, blk_frozen h 7, blk_frozen h 8, blk_frozen h 9, blk_frozen h 10, blk_frozen h 11, blk_frozen h 12⟩⟩
abbrev C13 (w : World) (g : Nat) (c0 c1 c2 c3 c4 c5 c6 c7 c8 c9 c10 c11 c12 : Value) : Prop :=
  w.cell? ⟨g, 0, none⟩ = some c0 ∧ w.cell? ⟨g, 1, none⟩ = some c1 ∧ w.cell? ⟨g, 2, none⟩ = some c2 ∧ w.cell? ⟨g, 3, none⟩ = some c3 ∧ w.cell? ⟨g, 4, none⟩ = some c4 ∧ w.cell? ⟨g, 5, none⟩ = some c5 ∧ w.cell? ⟨g, 6, none⟩ = some c6 ∧ w.cell? ⟨g, 7, none⟩ = some c7 ∧ w.cell? ⟨g, 8, none⟩ = some c8 ∧ w.cell? ⟨g, 9, none⟩ = some c9 ∧ w.cell? ⟨g, 10, none⟩ = some c10 ∧ w.cell? ⟨g, 11, none⟩ = some c11 ∧ w.cell? ⟨g, 12, none⟩ = some c12
theorem C13.below {w w1 : World} {g : Nat} {c0 c1 c2 c3 c4 c5 c6 c7 c8 c9 c10 c11 c12 : Value} (h : C13 w g c0 c1 c2 c3 c4 c5 c6 c7 c8 c9 c10 c11 c12) (hb : Below w.heap.size w w1) : C13 w1 g c0 c1 c2 c3 c4 c5 c6 c7 c8 c9 c10 c11 c12 := by
  obtain ⟨h0, h1, h2, h3, h4, h5, h6, h7, h8, h9, h10, h11, h12⟩ := h
  exact ⟨pw_cell_below hb h0, pw_cell_below hb h1, pw_cell_below hb h2, pw_cell_below hb h3, pw_cell_below hb h4, pw_cell_below hb h5, pw_cell_below hb h6, pw_cell_below hb h7, pw_cell_below hb h8, pw_cell_below hb h9, pw_cell_below hb h10, pw_cell_below hb h11, pw_cell_below hb h12⟩
abbrev Held (w0 : World) (g : Nat) (c0 c1 c2 c3 c4 c5 c6 c7 c8 c9 c10 c11 c12 : Value) (w : World) : Prop := C13 w g c0 c1 c2 c3 c4 c5 c6 c7 c8 c9 c10 c11 c12 ∧ Below w0.heap.size w0 w
theorem Held.go {w0 w w1 : World} {g : Nat} {c0 c1 c2 c3 c4 c5 c6 c7 c8 c9 c10 c11 c12 : Value} (h : Held w0 g c0 c1 c2 c3 c4 c5 c6 c7 c8 c9 c10 c11 c12 w) (hb : Below w.heap.size w w1) : Held w0 g c0 c1 c2 c3 c4 c5 c6 c7 c8 c9 c10 c11 c12 w1 := ⟨h.1.below hb, below_then h.2 h.2.size hb⟩
theorem Held.drew {w0 w : World} {g : Nat} {c0 c1 c2 c3 c4 c5 c6 c7 c8 c9 c10 c11 c12 : Value} (h : Held w0 g c0 c1 c2 c3 c4 c5 c6 c7 c8 c9 c10 c11 c12 w) : Held w0 g c0 c1 c2 c3 c4 c5 c6 c7 c8 c9 c10 c11 c12 w.drew := h.go (below_drew (Below.refl _ _))
def PathAt (w : World) (pv : Value) (ps : List Bs) : Prop := ∃ A c, pv = .slice A ps.length c ∧ ps.length ≤ c ∧ Kd.C Kd.string w A (ps.map B).length (ps.map B)
theorem PathAt.below {w w1 : World} {pv : Value} {ps : List Bs} (h : PathAt w pv ps) (hb : Below w.heap.size w w1) : PathAt w1 pv ps := by
  obtain ⟨A, c, h1, h2, h3⟩ := h
  exact ⟨A, c, h1, h2, Kd.C_below h3 hb⟩
theorem grown_b {w w1 : World} {row : Option Nat} (h : Below w.heap.size w w1) : w.grownBy w1 row := grown_of_below h row
theorem grown_put {w w1 : World} {g : Nat} (h : w.grownBy w1 (some g)) (i : Nat) (v : Value) : w.grownBy (w1.setCell ⟨g, i, none⟩ v) (some g) :=
  h.trans ⟨rfl, rfl, rfl, ((Below.refl 0 w1).setCell (p := ⟨g, i, none⟩) (Nat.zero_le _) v).size, fun k hk hn => Below.heap_setCell w1 _ v k fun q => hn (by rw [q])⟩
theorem below_by {w w1 w2 : World} {g : Nat} (h : Below w.heap.size w w1) (hg : w.heap.size ≤ g) (k : w1.grownBy w2 (some g)) : Below w.heap.size w w2 := h.grown k h.size (fun j hj => by obtain rfl := Option.some.inj hj; exact hg)
theorem Blk.put13 {w : World} {g : Nat} {c0 c1 c2 c3 c4 c5 c6 c7 c8 c9 c10 c11 c12 v0 v1 v2 v3 v4 v5 v6 v7 v8 v9 v10 v11 v12 : Value} (h : Blk w g #[c0, c1, c2, c3, c4, c5, c6, c7, c8, c9, c10, c11, c12]) : Blk (((((((((((((w.setCell ⟨g, 0, none⟩ v0).setCell ⟨g, 1, none⟩ v1).setCell ⟨g, 2, none⟩ v2).setCell ⟨g, 3, none⟩ v3).setCell ⟨g, 4, none⟩ v4).setCell ⟨g, 5, none⟩ v5).setCell ⟨g, 6, none⟩ v6).setCell ⟨g, 7, none⟩ v7).setCell ⟨g, 8, none⟩ v8).setCell ⟨g, 9, none⟩ v9).setCell ⟨g, 10, none⟩ v10).setCell ⟨g, 11, none⟩ v11).setCell ⟨g, 12, none⟩ v12) g #[v0, v1, v2, v3, v4, v5, v6, v7, v8, v9, v10, v11, v12] := by
  have h0 : Blk _ g #[v0, c1, c2, c3, c4, c5, c6, c7, c8, c9, c10, c11, c12] := h.put 0 v0
  have h1 : Blk _ g #[v0, v1, c2, c3, c4, c5, c6, c7, c8, c9, c10, c11, c12] := h0.put 1 v1
  have h2 : Blk _ g #[v0, v1, v2, c3, c4, c5, c6, c7, c8, c9, c10, c11, c12] := h1.put 2 v2
  have h3 : Blk _ g #[v0, v1, v2, v3, c4, c5, c6, c7, c8, c9, c10, c11, c12] := h2.put 3 v3
  have h4 : Blk _ g #[v0, v1, v2, v3, v4, c5, c6, c7, c8, c9, c10, c11, c12] := h3.put 4 v4
  have h5 : Blk _ g #[v0, v1, v2, v3, v4, v5, c6, c7, c8, c9, c10, c11, c12] := h4.put 5 v5
  have h6 : Blk _ g #[v0, v1, v2, v3, v4, v5, v6, c7, c8, c9, c10, c11, c12] := h5.put 6 v6
  have h7 : Blk _ g #[v0, v1, v2, v3, v4, v5, v6, v7, c8, c9, c10, c11, c12] := h6.put 7 v7
  have h8 : Blk _ g #[v0, v1, v2, v3, v4, v5, v6, v7, v8, c9, c10, c11, c12] := h7.put 8 v8
  have h9 : Blk _ g #[v0, v1, v2, v3, v4, v5, v6, v7, v8, v9, c10, c11, c12] := h8.put 9 v9
  have h10 : Blk _ g #[v0, v1, v2, v3, v4, v5, v6, v7, v8, v9, v10, c11, c12] := h9.put 10 v10
  have h11 : Blk _ g #[v0, v1, v2, v3, v4, v5, v6, v7, v8, v9, v10, v11, c12] := h10.put 11 v11
  have h12 : Blk _ g #[v0, v1, v2, v3, v4, v5, v6, v7, v8, v9, v10, v11, v12] := h11.put 12 v12
  exact h12
theorem below13 {w0 w : World} {g : Nat} {v0 v1 v2 v3 v4 v5 v6 v7 v8 v9 v10 v11 v12 : Value} (h : Below w0.heap.size w0 w) (hg : w0.heap.size ≤ g) : Below w0.heap.size w0 (((((((((((((w.setCell ⟨g, 0, none⟩ v0).setCell ⟨g, 1, none⟩ v1).setCell ⟨g, 2, none⟩ v2).setCell ⟨g, 3, none⟩ v3).setCell ⟨g, 4, none⟩ v4).setCell ⟨g, 5, none⟩ v5).setCell ⟨g, 6, none⟩ v6).setCell ⟨g, 7, none⟩ v7).setCell ⟨g, 8, none⟩ v8).setCell ⟨g, 9, none⟩ v9).setCell ⟨g, 10, none⟩ v10).setCell ⟨g, 11, none⟩ v11).setCell ⟨g, 12, none⟩ v12) := (((((((((((((h.setCell hg v0).setCell hg v1).setCell hg v2).setCell hg v3).setCell hg v4).setCell hg v5).setCell hg v6).setCell hg v7).setCell hg v8).setCell hg v9).setCell hg v10).setCell hg v11).setCell hg v12)
theorem grown13 {w0 w : World} {g : Nat} {v0 v1 v2 v3 v4 v5 v6 v7 v8 v9 v10 v11 v12 : Value} (h : w0.grownBy w (some g)) : w0.grownBy (((((((((((((w.setCell ⟨g, 0, none⟩ v0).setCell ⟨g, 1, none⟩ v1).setCell ⟨g, 2, none⟩ v2).setCell ⟨g, 3, none⟩ v3).setCell ⟨g, 4, none⟩ v4).setCell ⟨g, 5, none⟩ v5).setCell ⟨g, 6, none⟩ v6).setCell ⟨g, 7, none⟩ v7).setCell ⟨g, 8, none⟩ v8).setCell ⟨g, 9, none⟩ v9).setCell ⟨g, 10, none⟩ v10).setCell ⟨g, 11, none⟩ v11).setCell ⟨g, 12, none⟩ v12) (some g) := (grown_put (grown_put (grown_put (grown_put (grown_put (grown_put (grown_put (grown_put (grown_put (grown_put (grown_put (grown_put (grown_put h 0 v0) 1 v1) 2 v2) 3 v3) 4 v4) 5 v5) 6 v6) 7 v7) 8 v8) 9 v9) 10 v10) 11 v11) 12 v12)
theorem Held.far {w0 w : World} {g : Nat} {c0 c1 c2 c3 c4 c5 c6 c7 c8 c9 c10 c11 c12 : Value} (h : Held w0 g c0 c1 c2 c3 c4 c5 c6 c7 c8 c9 c10 c11 c12 w) {p : Addr} (hne : p.block ≠ g) (hge : w0.heap.size ≤ p.block) (v : Value) : Held w0 g c0 c1 c2 c3 c4 c5 c6 c7 c8 c9 c10 c11 c12 (w.setCell p v) := by
  obtain ⟨⟨h0, h1, h2, h3, h4, h5, h6, h7, h8, h9, h10, h11, h12⟩, hb⟩ := h
  have f : ∀ (i : Nat) (u : Value), w.cell? ⟨g, i, none⟩ = some u → (w.setCell p v).cell? ⟨g, i, none⟩ = some u := fun i u hu => (World.cell?_setCell_far w p ⟨g, i, none⟩ v hne).trans hu
  exact ⟨⟨f 0 _ h0, f 1 _ h1, f 2 _ h2, f 3 _ h3, f 4 _ h4, f 5 _ h5, f 6 _ h6, f 7 _ h7, f 8 _ h8, f 9 _ h9, f 10 _ h10, f 11 _ h11, f 12 _ h12⟩, hb.setCell hge v⟩
theorem Held.far13 {w0 w : World} {g k : Nat} {c0 c1 c2 c3 c4 c5 c6 c7 c8 c9 c10 c11 c12 v0 v1 v2 v3 v4 v5 v6 v7 v8 v9 v10 v11 v12 : Value} (h : Held w0 g c0 c1 c2 c3 c4 c5 c6 c7 c8 c9 c10 c11 c12 w) (hne : k ≠ g) (hge : w0.heap.size ≤ k) : Held w0 g c0 c1 c2 c3 c4 c5 c6 c7 c8 c9 c10 c11 c12 (((((((((((((w.setCell ⟨k, 0, none⟩ v0).setCell ⟨k, 1, none⟩ v1).setCell ⟨k, 2, none⟩ v2).setCell ⟨k, 3, none⟩ v3).setCell ⟨k, 4, none⟩ v4).setCell ⟨k, 5, none⟩ v5).setCell ⟨k, 6, none⟩ v6).setCell ⟨k, 7, none⟩ v7).setCell ⟨k, 8, none⟩ v8).setCell ⟨k, 9, none⟩ v9).setCell ⟨k, 10, none⟩ v10).setCell ⟨k, 11, none⟩ v11).setCell ⟨k, 12, none⟩ v12) :=
  ((((((((((((h.far (p := ⟨k, 0, none⟩) hne hge v0).far (p := ⟨k, 1, none⟩) hne hge v1).far (p := ⟨k, 2, none⟩) hne hge v2).far (p := ⟨k, 3, none⟩) hne hge v3).far (p := ⟨k, 4, none⟩) hne hge v4).far (p := ⟨k, 5, none⟩) hne hge v5).far (p := ⟨k, 6, none⟩) hne hge v6).far (p := ⟨k, 7, none⟩) hne hge v7).far (p := ⟨k, 8, none⟩) hne hge v8).far (p := ⟨k, 9, none⟩) hne hge v9).far (p := ⟨k, 10, none⟩) hne hge v10).far (p := ⟨k, 11, none⟩) hne hge v11).far (p := ⟨k, 12, none⟩) hne hge v12
theorem Blk.grown {w w1 : World} {g k : Nat} {cs : Array Value} (h : Blk w g cs) (hg : w.grownBy w1 (some k)) (hne : g ≠ k) : Blk w1 g cs := blk_grown h hg (fun e => hne (Option.some.inj e))
theorem Blk.far {w : World} {g : Nat} {cs : Array Value} (h : Blk w g cs) {p : Addr} (hne : g ≠ p.block) (v : Value) : Blk (w.setCell p v) g cs := blk_far h hne v
abbrev Held3 (w0 : World) (g : Nat) (c0 c1 c2 : Value) (w : World) : Prop := (w.cell? ⟨g, 0, none⟩ = some c0 ∧ w.cell? ⟨g, 1, none⟩ = some c1 ∧ w.cell? ⟨g, 2, none⟩ = some c2) ∧ Below w0.heap.size w0 w
theorem Held3.go {w0 w w1 : World} {g : Nat} {c0 c1 c2 : Value} (h : Held3 w0 g c0 c1 c2 w) (hb : Below w.heap.size w w1) : Held3 w0 g c0 c1 c2 w1 := ⟨⟨pw_cell_below hb h.1.1, pw_cell_below hb h.1.2.1, pw_cell_below hb h.1.2.2⟩, below_then h.2 h.2.size hb⟩
theorem Held3.drew {w0 w : World} {g : Nat} {c0 c1 c2 : Value} (h : Held3 w0 g c0 c1 c2 w) : Held3 w0 g c0 c1 c2 w.drew := h.go (below_drew (Below.refl _ _))
theorem Held3.far {w0 w : World} {g k i : Nat} {c0 c1 c2 : Value} (h : Held3 w0 g c0 c1 c2 w) (hne : k ≠ g) (hge : w0.heap.size ≤ k) (v : Value) : Held3 w0 g c0 c1 c2 (w.setCell ⟨k, i, none⟩ v) :=
  ⟨⟨(World.cell?_setCell_far w ⟨k, i, none⟩ ⟨g, 0, none⟩ v hne).trans h.1.1, (World.cell?_setCell_far w ⟨k, i, none⟩ ⟨g, 1, none⟩ v hne).trans h.1.2.1, (World.cell?_setCell_far w ⟨k, i, none⟩ ⟨g, 2, none⟩ v hne).trans h.1.2.2⟩, h.2.setCell hge v⟩
theorem Held3.new (w : World) (t : TypeId) (c0 c1 c2 : Value) : Held3 w w.heap.size c0 c1 c2 (w.alloc (.cells #[c0, c1, c2] t)) :=
  ⟨⟨(blk_cell (blk_new w (.cells #[c0, c1, c2] t (0, 0))) 0).trans rfl, (blk_cell (blk_new w (.cells #[c0, c1, c2] t (0, 0))) 1).trans rfl, (blk_cell (blk_new w (.cells #[c0, c1, c2] t (0, 0))) 2).trans rfl⟩, (Below.refl _ w).alloc (Nat.le_refl _) _⟩
theorem q_keep {w w1 : World} {base : Nat} {e : TypeId} {size n : Nat} {v : Value} {xs : List Value} (h : QRow w base e size v n xs) (hk : ∀ k, base ≤ k → k < w.heap.size → w1.heap[k]? = w.heap[k]?) : QRow w1 base e size v n xs := by
  have lt : ∀ {k : Nat} {o : Obj}, w.heap[k]? = some o → k < w.heap.size := fun h => (Array.getElem?_eq_some_iff.1 h).1
  obtain ⟨h1, h2⟩ := h
  refine ⟨h1, ?_⟩
  rcases h2 with ⟨h0, A, hA, hc⟩ | ⟨g, off, cap, cur, hv, hg, hh, r⟩
  · refine .inl ⟨h0, A, hA, fun a ha => ?_⟩
    obtain ⟨b1, cur, b2⟩ := hc a ha
    exact ⟨b1, cur, (hk _ b1 (lt b2)).trans b2⟩
  · exact .inr ⟨g, off, cap, cur, hv, hg, (hk _ hg (lt hh)).trans hh, r⟩
theorem q_below {w w1 : World} {base : Nat} {e : TypeId} {size n : Nat} {v : Value} {xs : List Value} (h : QRow w base e size v n xs) (hb : Below w.heap.size w w1) : QRow w1 base e size v n xs := q_keep h fun k _ hk => hb.block k hk
theorem q_grown {w w1 : World} {base g : Nat} {e : TypeId} {size n : Nat} {v : Value} {xs : List Value} (h : QRow w base e size v n xs) (hg : w.grownBy w1 (some g)) (hlt : g < base) : QRow w1 base e size v n xs := q_keep h fun k h1 h2 => hg.block k h2 (fun e => by have := Option.some.inj e; omega)
theorem end0 {P : Program} {fn : Func} {R : Ending → World → Prop} {a : Act} {w : World} (hr : fn.results = #[]) (hd : a.defers = []) (hR : R (.returned (.tuple #[])) w) : bodyPost P fn R .normal a w :=
  bodyPost_end (results_none hr _ _ _) hd hR
end Go.Proofs.YtopcpbokfngpeaaGreatDoor.H
/- The reader of the draws: what its calls come to, and the texts and hosts that are drawn. Conditions: each theorem's own. -/
set_option linter.unusedVariables false
namespace Go.Proofs.YtopcpbokfngpeaaGreatDoor.H
open Go.RowKit Go.Proofs.YtopcpbokfngpeaaGreatDoorW.PrintWords Go.Proofs.YtopcpbokfngpeaaGreatDoor.Base Go.Proofs.YtopcpbokfngpeaaGreatDoor.Pure Go.Proofs.YtopcpbokfngpeaaGreatDoor.Lh Go.Proofs.YtopcpbokfngpeaaGreatDoor.Lp
def Rd (w0 w : World) (g n : Nat) : Prop := ∃ s p, IsS73 w0 w g s p ∧ RdOk s p n
theorem Rd.below {w0 w w1 : World} {g n : Nat} (h : Rd w0 w g n) (hb : Below w.heap.size w w1) : Rd w0 w1 g n := by
 obtain ⟨s, p, h1, h2⟩ := h
 exact ⟨s, p, h1.below hb, h2⟩
theorem Rd.less {w0 w : World} {g n m : Nat} (h : Rd w0 w g n) (hm : m ≤ n) : Rd w0 w g m := by
 obtain ⟨s, p, h1, h2⟩ := h
 exact ⟨s, p, h1, h2.less hm⟩
theorem Rd.far {w0 w : World} {g n : Nat} (h : Rd w0 w g n) {p : Addr} (hne : p.block ≠ g) (v : Value) : Rd w0 (w.setCell p v) g n := by
 obtain ⟨s, q, h1, h2⟩ := h
 exact ⟨s, q, h1.far (fun e => hne e.symm) v, h2⟩
theorem Rd.lt {w0 w : World} {g n : Nat} (h : Rd w0 w g n) : g < w.heap.size := by
 obtain ⟨s, p, h1, _⟩ := h
 rcases Nat.lt_or_ge g w.heap.size with h | h
 ·exact h
 ·exact absurd rfl (h1.fresh g h)
theorem Rd.ge {w0 w : World} {g n : Nat} (h : Rd w0 w g n) : w0.heap.size ≤ g := by
 obtain ⟨s, p, h1, _⟩ := h
 exact h1.ge
structure Drew (w0 w w1 : World) (g n : Nat) : Prop where
 rd : Rd w0 w1 g n
 b : Below w0.heap.size w0 w1
 k : KeepBut w w1 g none
theorem Drew.refl {w0 w : World} {g n : Nat} (h : Rd w0 w g n) (hb : Below w0.heap.size w0 w) : Drew w0 w w g n := ⟨h, hb, KeepBut.refl w g none⟩
theorem Drew.less {w0 w w1 : World} {g n m : Nat} (h : Drew w0 w w1 g n) (hm : m ≤ n) : Drew w0 w w1 g m := ⟨h.rd.less hm, h.b, h.k⟩
theorem Drew.below {w0 w w1 w2 : World} {g n : Nat} (h : Drew w0 w w1 g n) (hb : Below w1.heap.size w1 w2) : Drew w0 w w2 g n := ⟨h.rd.below hb, below_then h.b h.b.size hb, h.k.trans (KeepBut.of_below hb g none) (.inl rfl)⟩
theorem Drew.alloc {w0 w w1 : World} {g n : Nat} (h : Drew w0 w w1 g n) (o : Obj) : Drew w0 w (w1.alloc o) g n := h.below (below_alloc (Below.refl _ _) o)
theorem Drew.trans {w0 w w1 w2 : World} {g n m : Nat} (h : Drew w0 w w1 g n) (k : Drew w0 w1 w2 g m) : Drew w0 w w2 g m := ⟨k.rd, k.b, h.k.trans k.k (.inl rfl)⟩
theorem Drew.set {w0 w w1 : World} {g n : Nat} (h : Drew w0 w w1 g n) {b i : Nat} (hg : b ≠ g) (hb : w.heap.size ≤ b) (hs : w0.heap.size ≤ w.heap.size) (v : Value) : Drew w0 w (w1.setCell ⟨b, i, none⟩ v) g n :=
 ⟨h.rd.far hg v, h.b.setCell (Nat.le_trans hs hb) v, keep_far h.k hb v⟩
theorem Drew.at {w0 w w1 : World} {g n : Nat} (h : Drew w0 w w1 g n) : Drew w0 w1 w1 g n := Drew.refl h.rd h.b
theorem Blk.drewn {w0 w w1 : World} {g b n : Nat} {cs : Array Value} (h : Blk w b cs) (d : Drew w0 w w1 g n) (hne : b ≠ g) : Blk w1 b cs := d.k.blk h hne (by simp)
theorem q_drewn {w0 w w1 : World} {g n base : Nat} {e : TypeId} {size m : Nat} {v : Value} {xs : List Value} (h : QRow w base e size v m xs) (d : Drew w0 w w1 g n) (hg : g < base) : QRow w1 base e size v m xs :=
 q_keep h fun k h1 h2 => d.k.2 k h2 (by omega) (by simp)
theorem q_mono {w : World} {base base' : Nat} {e : TypeId} {size m : Nat} {v : Value} {xs : List Value} (h : QRow w base e size v m xs) (hb : base' ≤ base) : QRow w base' e size v m xs := by
 obtain ⟨h1, h2⟩ := h
 refine ⟨h1, ?_⟩
 rcases h2 with ⟨h0, A, hA, hc⟩ | ⟨g, off, cap, cur, hv, hg, hh, r⟩
 ·refine .inl ⟨h0, A, hA, fun a ha => ?_⟩
  obtain ⟨b1, cur, b2⟩ := hc a ha
  exact ⟨Nat.le_trans hb b1, cur, b2⟩
 ·exact .inr ⟨g, off, cap, cur, hv, Nat.le_trans hb hg, hh, r⟩
/-! The calls. -/
theorem pick_draw (g n m : Nat) (w0 w w1 : World) (h : Drew w0 w w1 g (n + 1)) (h1 : 1 ≤ m) (h2 : m ≤ 1000000) :
  Calls Tryz.prog 46 #[.pointer (some ⟨g, 0, none⟩), .int .i64 (m : Int)] w1 fun e w' => ∃ r : Nat, e = .returned (.int .i64 (r : Int)) ∧ r < m ∧ Drew w0 w w' g n := by
 obtain ⟨s, p, hI, hok⟩ := h.rd
 obtain ⟨r, hr, r0, r1⟩ := pick_ev s p (m : Int) hok (by omega) (by omega)
 obtain ⟨k, e⟩ := hr.rounds
 obtain ⟨i, rfl⟩ := Int.eq_ofNat_of_zero_le r0
 refine (spec_l1Rd_pick.calls k g s p _ _ _ w0 w1 hI h.b e).mono ?_
 rintro e w' ⟨rfl, hI', hB', hK'⟩
 exact ⟨i, rfl, by omega, ⟨⟨s, p + 1, hI', hok.step⟩, hB', h.k.trans hK' (.inl rfl)⟩⟩
def strOk (L : Nat) : Value → Bool | .string b => decide (b.size ≤ L) | _ => false
def intOk (lo hi : Int) : Value → Bool | .int .i64 x => decide (lo ≤ x ∧ x ≤ hi) | _ => false
def strOf : Value → Bs | .string b => b.data.toList | _ => []
def intIn : Value → Int | .int .i64 x => x | _ => 0
theorem strs_all (L : Nat) : ∀ l : List Value, l.all (strOk L) = true → l = (l.map strOf).map (fun s => Value.string (B s)) ∧ ∀ s ∈ l.map strOf, s.length ≤ L
 | [], _ => ⟨rfl, fun s h => by cases h⟩
 | v :: t, h => by
  rw [List.all_cons, Bool.and_eq_true] at h
  obtain ⟨h1, h2⟩ := h
  obtain ⟨i1, i2⟩ := strs_all L t h2
  cases v
  case string b =>
   refine ⟨?_, fun s hs => ?_⟩
   ·show Value.string b :: t = Value.string (B b.data.toList) :: (t.map strOf).map (fun s => Value.string (B s))
    rw [← i1, ← eq_B]
   ·rcases List.mem_cons.1 hs with rfl | hs
    ·have : b.size ≤ L := of_decide_eq_true h1
     exact this
    ·exact i2 s hs
  all_goals exact (Bool.false_ne_true h1).elim
theorem ints_all (lo hi : Int) : ∀ l : List Value, l.all (intOk lo hi) = true → l = (l.map intIn).map (fun x => Value.int .i64 x) ∧ ∀ x ∈ l.map intIn, lo ≤ x ∧ x ≤ hi
 | [], _ => ⟨rfl, fun s h => by cases h⟩
 | v :: t, h => by
  rw [List.all_cons, Bool.and_eq_true] at h
  obtain ⟨h1, h2⟩ := h
  obtain ⟨i1, i2⟩ := ints_all lo hi t h2
  cases v
  case int k x =>
   cases k
   case i64 =>
    refine ⟨?_, fun s hs => ?_⟩
    ·show Value.int .i64 x :: t = Value.int .i64 x :: (t.map intIn).map (fun x => Value.int .i64 x)
     rw [← i1]
    ·rcases List.mem_cons.1 hs with rfl | hs
     ·exact of_decide_eq_true h1
     ·exact i2 s hs
   all_goals exact (Bool.false_ne_true h1).elim
  all_goals exact (Bool.false_ne_true h1).elim
theorem lit_reads {α : Type} (enc : α → Value) (d : α) (w : World) (cs : Array Value) (t : TypeId) (xs : List α) (h : cs.toList = xs.map enc) (hm : cs.size ≤ 1000) : ReadsOf enc d (w.alloc (.cells cs t)) (some ⟨w.heap.size, 0, none⟩) xs.length xs := by
 have hl : xs.length = cs.size := by rw [← List.length_map (f := enc), ← h, Array.length_toList]
 refine ⟨rfl, by omega, fun _ => ⟨_, rfl, fun j hj => ?_⟩⟩
 rw [add_plain, blk_cell (blk_new w (.cells cs t (0, 0))) j]
 rw [← Array.getElem?_toList, h, List.getElem?_map, List.getD_eq_getElem?_getD, List.getElem?_eq_getElem hj]
 rfl
theorem of_lit (g n L N : Nat) (w0 w w1 : World) (cs : Array Value) (t : TypeId) (h : Drew w0 w w1 g (n + 1)) (hcs : cs.toList.all (strOk L) = true) (hN : cs.size = N) (h0 : 1 ≤ N) (h1 : N ≤ 1000) :
  Calls Tryz.prog 49 #[.pointer (some ⟨g, 0, none⟩), .slice (some ⟨w1.heap.size, 0, none⟩) N N] (w1.alloc (.cells cs t)) fun e w' => ∃ x : Bs, e = .returned (.string (B x)) ∧ x.length ≤ L ∧ Drew w0 w w' g n := by
 obtain ⟨e1, e2⟩ := strs_all L cs.toList hcs
 have hl : (cs.toList.map strOf).length = N := by rw [List.length_map, Array.length_toList, hN]
 generalize cs.toList.map strOf = l at e1 e2 hl
 have hd := h.alloc (.cells cs t)
 obtain ⟨s, p, hI, hok⟩ := hd.rd
 have hl' : (l.map B).length = N := by rw [List.length_map, hl]
 obtain ⟨x, hx, ex⟩ := of_ev s p hok (l.map B) (fun q => by rw [q] at hl'; simp at hl'; omega) (by omega)
 obtain ⟨k, e⟩ := ex.rounds
 have hC := Kd.C_of_reads (h1 := fun _ => rfl) (lit_reads Value.string ByteArray.empty w1 cs t (l.map B) (by rw [e1, List.map_map]; rfl) (by omega))
 have hlt := h.rd.lt
 subst hl'
 refine (spec_l1Rd_of.calls k g s p _ _ _ _ _ w0 _ hI hd.b hC (Nat.le_refl _) (fun ad q _ => by obtain rfl := Option.some.inj q; exact Nat.ne_of_gt hlt) e).mono ?_
 rintro e w' ⟨rfl, hI', hB', hK'⟩
 obtain ⟨y, hy, rfl⟩ := List.mem_map.1 hx
 exact ⟨y, rfl, e2 y hy, ⟨⟨s, p + 1, hI', hok.step⟩, hB', hd.k.trans hK' (.inl rfl)⟩⟩
theorem one_lit (g n N : Nat) (lo hi : Int) (w0 w w1 : World) (cs : Array Value) (t : TypeId) (h : Drew w0 w w1 g (n + 1)) (hcs : cs.toList.all (intOk lo hi) = true) (hN : cs.size = N) (h0 : 1 ≤ N) (h1 : N ≤ 1000) :
  Calls Tryz.prog 47 #[.pointer (some ⟨g, 0, none⟩), .slice (some ⟨w1.heap.size, 0, none⟩) N N] (w1.alloc (.cells cs t)) fun e w' => ∃ x : Int, e = .returned (.int .i64 x) ∧ (lo ≤ x ∧ x ≤ hi) ∧ Drew w0 w w' g n := by
 obtain ⟨e1, e2⟩ := ints_all lo hi cs.toList hcs
 have hl : (cs.toList.map intIn).length = N := by rw [List.length_map, Array.length_toList, hN]
 generalize cs.toList.map intIn = l at e1 e2 hl
 have hd := h.alloc (.cells cs t)
 obtain ⟨s, p, hI, hok⟩ := hd.rd
 obtain ⟨x, hx, ex⟩ := one_ev s p hok l (fun q => by rw [q] at hl; simp at hl; omega) (by omega)
 obtain ⟨k, e⟩ := ex.rounds
 have hC := Kd.C_of_reads (h1 := fun _ => rfl) (lit_reads (Value.int .i64) (0 : Int) w1 cs t l e1 (by omega))
 have hlt := h.rd.lt
 subst hl
 refine (spec_l1Rd_one.calls k g s p _ _ _ _ _ w0 _ hI hd.b hC (Nat.le_refl _) (fun ad q _ => by obtain rfl := Option.some.inj q; exact Nat.ne_of_gt hlt) e).mono ?_
 rintro e w' ⟨rfl, hI', hB', hK'⟩
 exact ⟨x, rfl, e2 x hx, ⟨⟨s, p + 1, hI', hok.step⟩, hB', hd.k.trans hK' (.inl rfl)⟩⟩
end Go.Proofs.YtopcpbokfngpeaaGreatDoor.H
/- impl.strip: the call comes to the text without what cannot be seen at its ends, and without line ends. -/
set_option linter.unusedVariables false
namespace Go.Proofs.YtopcpbokfngpeaaGreatDoor.H
open Go.RowKit Go.Proofs.YtopcpbokfngpeaaGreatDoorW.PrintWords Go.Proofs.YtopcpbokfngpeaaGreatDoor.Base Go.Proofs.YtopcpbokfngpeaaGreatDoor.Pure
theorem BRow.grown {W W1 : World} {N : Nat} {l : Bs} {row : Option Nat} (h : BRow W N l) (hg : W.grownBy W1 row) (hne : some N ≠ row) : BRow W1 N l := fun j hj => by
 obtain ⟨h1, h2⟩ := h j hj
 have hlt : N < W.heap.size := World.block_lt_of_cell? _ _ h1
 exact ⟨(hg.cell_far ⟨N, j, none⟩ hlt hne).trans h1, (hg.frozen_far ⟨N, j, none⟩ hlt hne).trans h2⟩
theorem lend_int (c : UInt8) : lend c = (((c.toNat : Int) == 9) || ((c.toNat : Int) == 10) || ((c.toNat : Int) == 13)) := by
 have h : ∀ n : UInt8, (c == n) = ((c.toNat : Int) == (n.toNat : Int)) := fun n => by
  apply Bool.eq_iff_iff.2
  rw [beq_iff_eq, beq_iff_eq]
  constructor
  ·rintro rfl; rfl
  ·intro q; exact UInt8.toNat_inj.1 (by omega)
 unfold lend
 rw [h 9, h 10, h 13]; rfl
theorem cells_app2 (a : Bs) (c : UInt8) : Lib.byteCells (a ++ [c]) = Lib.byteCells a ++ [.int .u8 ((c.toNat : Nat) : Int)] := by simp [Lib.byteCells]
theorem byteCells_ns (D : Bs) : Lib.byteCells D = nums .u8 (ns D) := by simp [Lib.byteCells, nums, ns]
theorem own_str {P : Program} {w : World} {base : Nat} {e' src dst e : TypeId} {v : Value} {D : Bs} (hs : P.underlying src = some (.slice e)) (he : P.underlying e = some (.int .u8)) (hd : P.underlying dst = some .string)
  (h : w.ownsRow base e' 1 v D.length (Lib.byteCells D)) : (convert src dst v).run P w = .ok (.string (B D)) w := by
 rw [byteCells_ns] at h
 have := own_string hs he hd h
 rw [str_ns] at this; exact this
set_option maxHeartbeats 2000000 in
set_option maxRecDepth 100000 in
theorem strip_walk (l : Bs) (w : World) (hl : l.length ≤ 1000000) : Calls Tryz.prog 90 #[.string (B l)] w fun e w' => e = .returned (.string (B (trimU l))) ∧ Below w.heap.size w w' := by
 go_enter Tryz.func90, Tryz.ntmps90
 go_upto_block 0 with fail
 go_cut [3] (fun v wc => ∃ k : Nat, v = .int .i64 k ∧ k ≤ l.length ∧ Hid (l.drop k = ltrim l) ∧ w = wc)
 case first =>
  go_wp2_with fail
  go_loop [3] (fun s => ∃ k : Nat, k ≤ l.length ∧ s = .int .i64 k ∧ Hid (ltrim (l.drop k) = ltrim l)) (fun s => l.length - (intOf s).toNat)
  case atStart => exact ⟨0, by omega, rfl, Lib.hid rfl⟩
  case round =>
   obtain ⟨k, hk, rfl, HK⟩ := hrel
   by_cases hlt : k < l.length
   ·have hst := ltrim_at l k hlt
    rw [HK.out] at hst
    by_cases hlo : l[k].toNat ≤ 32
    ·have hb : decide ((l[k].toNat : Int) ≤ 32) = true := decide_eq_true (by omega)
     rw [if_pos (show low l[k] = true from decide_eq_true hlo)] at hst
     have HS := Lib.hid hst
     clear hst
     go_wp2
     go_round
     case rel => exact ⟨k + 1, by omega, by go_num, Lib.hid HS.out.symm⟩
     case measure => simp [intOf]; omega
    ·have hb : decide ((l[k].toNat : Int) ≤ 32) = false := decide_eq_false (by omega)
     rw [if_neg (by unfold low; simp; omega)] at hst
     have HS := Lib.hid hst
     clear hst
     go_wp2
     go_meet
     case rel => exact ⟨k, rfl, hk, Lib.hid HS.out.symm, rfl⟩
   ·obtain rfl : k = l.length := by omega
    have HS : Hid (l.drop l.length = ltrim l) := Lib.hid (by rw [← HK.out, List.drop_length]; rfl)
    clear HK
    go_wp2
    go_meet
    case rel => exact ⟨_, rfl, hk, HS, rfl⟩
 case rest =>
  obtain ⟨k, rfl, hk, HK, rfl⟩ := hcut
  go_upto_block 2 with fail
  go_cut [4] (fun v wc => ∃ e : Nat, v = .int .i64 e ∧ k ≤ e ∧ e ≤ l.length ∧ Hid ((l.take e).drop k = rtrim (ltrim l)) ∧ w = wc)
  case first =>
   go_wp2_with fail
   go_loop [4] (fun s => ∃ e : Nat, k ≤ e ∧ e ≤ l.length ∧ s = .int .i64 e ∧ Hid (rtrim ((l.take e).drop k) = rtrim (ltrim l))) (fun s => (intOf s).toNat - k)
   case atStart => exact ⟨l.length, hk, Nat.le_refl _, rfl, Lib.hid (by rw [List.take_of_length_le (Nat.le_refl _), HK.out])⟩
   case round =>
    obtain ⟨e, he, hel, rfl, HE⟩ := hrel
    by_cases hlt : k < e
    ·obtain ⟨j, rfl⟩ : ∃ j, e = j + 1 := ⟨e - 1, by omega⟩
     have hjl : j < l.length := by omega
     have hst : (l.take (j + 1)).drop k = (l.take j).drop k ++ [l[j]] := by
      rw [List.take_succ_eq_append_getElem hjl, List.drop_append_of_le_length (by simp; omega)]
     have hsn := rtrim_snoc ((l.take j).drop k) l[j]
     rw [← hst, HE.out, hst] at hsn
     have hw1 : IntKind.i64.wrap (((j + 1 : Nat) : Int) - 1) = (j : Int) := by rw [i64wrap, w64 (by omega) (by omega)]; omega
     have hw2 : (((j + 1 : Nat) : Int) - 1) = (j : Int) := by omega
     by_cases hlo : l[j].toNat ≤ 32
     ·have hb : decide ((l[j].toNat : Int) ≤ 32) = true := decide_eq_true (by omega)
      rw [if_pos (show low l[j] = true from decide_eq_true hlo)] at hsn
      have HS := Lib.hid hsn
      clear hsn hst
      go_wp2
      go_round
      case rel => exact ⟨j, by omega, by omega, by go_num, Lib.hid HS.out.symm⟩
      case measure => simp [intOf]; omega
     ·have hb : decide ((l[j].toNat : Int) ≤ 32) = false := decide_eq_false (by omega)
      rw [if_neg (show ¬ low l[j] = true by unfold low; simp; omega)] at hsn
      rw [hst] at HE
      have HS : Hid ((l.take (j + 1)).drop k = rtrim (ltrim l)) := Lib.hid (by rw [hst, hsn])
      clear hsn hst HE
      go_wp2
      go_meet
      case rel => exact ⟨j + 1, by go_num, he, hel, HS, rfl⟩
    ·obtain rfl : e = k := by omega
     have HS : Hid ((l.take e).drop e = rtrim (ltrim l)) := Lib.hid (by rw [← HE.out, List.drop_eq_nil_of_le (by simp; omega)]; rfl)
     go_wp2
     go_meet
     case rel => exact ⟨_, rfl, he, hel, HS, rfl⟩
  case rest =>
   obtain ⟨e, rfl, hke, hel, HE, rfl⟩ := hcut
   have hx : (B l).extract k e = B (rtrim (ltrim l)) := by rw [B_extract, ← HE.out, List.drop_take]
   have HT : Hid (trimU l = noEnds (rtrim (ltrim l))) := Lib.hid rfl
   have hlen : (rtrim (ltrim l)).length ≤ 1000000 := by have h1 := rtrim_len (ltrim l); have h2 := ltrim_len l; omega
   generalize rtrim (ltrim l) = x at hx HT hlen
   have hke2 : (k : Int) ≤ (e : Int) := by omega
   have hel2 : (e : Int) ≤ (l.length : Int) := by omega
   clear HE HK
   have hconv := fun W => Lib.run_convert_string_bytes (P := Tryz.prog) W 9 22 5 (B x) Tryz.underlying9 Tryz.underlying22 Tryz.underlying5
   obtain ⟨i0, hi, hz0, hz1, hz2⟩ := info_parts infoByte
   have hrow0 := BRow.start w 5 x
   have hbel0 : Below w.heap.size w (Lib.bytesWorld w 5 (B x)) := bytes_below (Below.refl _ _) (Nat.le_refl _) _ _
   have hsz0 : w.heap.size < (Lib.bytesWorld w 5 (B x)).heap.size := by simp [Lib.bytesWorld, World.alloc, World.freeze]
   go_wp2
   generalize Lib.bytesWorld w 5 (B x) = w1 at hrow0 hbel0 hsz0 ⊢
   clear hconv
   go_loopw [5, 39] (fun v i wr => ∃ k : Nat, k ≤ x.length ∧ i = .int .i64 k ∧ wr.ownsRow w1.heap.size 5 1 v (noEnds (x.take k)).length (Lib.byteCells (noEnds (x.take k))) ∧ BRow wr w.heap.size x ∧ Below w.heap.size w wr ∧ w1.heap.size ≤ wr.heap.size) (fun _ i _ => x.length - (intOf i).toNat)
   case atStart => exact ⟨0, by omega, rfl, World.ownsRow_nil _ _ _ _, hrow0, hbel0, Nat.le_refl _⟩
   case round =>
    obtain ⟨q, hq, rfl, hown, hrow, hb, hsz⟩ := hrel
    by_cases hlt : q < x.length
    ·have hc := (hrow q hlt).1
     have hst := noEnds_take x q hlt
     have hnl := noEnds_len (x.take q)
     have hql : (x.take q).length ≤ 1000000 := by simp; omega
     have hle := lend_int x[q]
     cases t1 : ((x[q].toNat : Int) == 9) <;> cases t2 : ((x[q].toNat : Int) == 10) <;> cases t3 : ((x[q].toNat : Int) == 13)
     case false.false.false =>
      rw [t1, t2, t3] at hle
      rw [hle, if_neg (by simp)] at hst
      have n1 : ((x[q].toNat : Int) != 9) = true := by unfold bne; rw [t1]; rfl
      have n2 : ((x[q].toNat : Int) != 10) = true := by unfold bne; rw [t2]; rfl
      have n3 : ((x[q].toNat : Int) != 13) = true := by unfold bne; rw [t3]; rfl
      have HS := Lib.hid hst
      clear hst hle
      go_wp2_with (at_builtin; refine wpList_append_own _ rfl _ _ 22 rfl w1.heap.size 5 i0 (.int .u8 0) 1 1 Tryz.underlying22 hi hz0 hz1 hz2 rfl (by decide) _ _ _ rfl (hown.alloc _) ⟨wr.heap.size, 0, none⟩ 1 1 [.int .u8 ((x[q].toNat : Nat) : Int)] rfl rfl ?c1 ?c2 ?c3 ?c4 ?c5 ?_)
      case c1 =>
       intro j u hj
       match j, hj with
       | 0, hj => simp at hj; subst hj; simp [Addr.add]
      case c2 => intro u hu; simp at hu; subst hu; rfl
      case c3 => unfold maxLen; omega
      case c4 => omega
      case c5 => simp; omega
      intro v' w6 hown' hgrow _
      go_wp2
      go_roundw
      case rel =>
       refine ⟨q + 1, by omega, by go_num, ?_, ?_, ?_, ?_⟩
       ·rw [HS.out, cells_app2]; simpa using hown'
       ·exact (hrow.below (below_alloc (Below.refl _ _) _)).grown hgrow (fun e => by have := (hown.lt _ e.symm).1; omega)
       ·exact (hb.alloc hb.size _).grown hgrow (by have := hb.size; simp; omega) (fun j hj => by have := (hown.lt j hj).1; omega)
       ·have := hgrow.size; simp at this; omega
      case measure => simp [intOf]; omega
     all_goals
      rw [t1, t2, t3] at hle
      rw [hle, if_pos (by rfl), List.append_nil] at hst
      have n1 : ((x[q].toNat : Int) != 9) = !((x[q].toNat : Int) == 9) := rfl
      have n2 : ((x[q].toNat : Int) != 10) = !((x[q].toNat : Int) == 10) := rfl
      have n3 : ((x[q].toNat : Int) != 13) = !((x[q].toNat : Int) == 13) := rfl
      simp only [t1, t2, t3, Bool.not_true, Bool.not_false] at n1 n2 n3
      have HS := Lib.hid hst
      clear hst hle
      go_wp2
      go_roundw
      case rel => exact ⟨q + 1, by omega, by go_num, by rw [HS.out]; exact hown, hrow, hb, hsz⟩
      case measure => simp [intOf]; omega
    ·obtain rfl : q = x.length := by omega
     rw [List.take_of_length_le (Nat.le_refl _), ← HT.out] at hown
     have hcv := own_str (P := Tryz.prog) (src := 22) (dst := 9) Tryz.underlying22 Tryz.underlying5 Tryz.underlying9 hown
     have HB := Lib.hid hb
     clear hb hown hrow
     go_wp2
     go_ret
     exact ⟨rfl, HB.out⟩
end Go.Proofs.YtopcpbokfngpeaaGreatDoor.H
/- spec.l3Own, spec.l3Trim: what the calls come to. No condition. -/
set_option linter.unusedVariables false
namespace Go.Proofs.YtopcpbokfngpeaaGreatDoor.H
open Go.RowKit Go.Proofs.YtopcpbokfngpeaaGreatDoorW.PrintWords Go.Proofs.YtopcpbokfngpeaaGreatDoor.Base Go.Proofs.YtopcpbokfngpeaaGreatDoor.Pure
theorem specOwn_walk (s : Bs) (w : World) : Calls Tryz.prog 41 #[.string (B s)] w fun e w' => e = .returned (.int .i64 (ownP s)) ∧ w' = w := by
 by_cases c1 : s = [104, 116, 116, 112]
 ·subst c1
  go_enter Tryz.func41, Tryz.ntmps41
  go_wp2
  go_ret
  exact ⟨rfl, rfl⟩
 ·have c1b := str_ne c1
  by_cases c2 : s = [104, 116, 116, 112, 115]
  ·subst c2
   go_enter Tryz.func41, Tryz.ntmps41
   go_wp2
   go_ret
   exact ⟨rfl, rfl⟩
  ·have c2b := str_ne c2
   have e : ownP s = -1 := by unfold ownP; rw [if_neg c1, if_neg c2]
   rw [e]; clear e c1 c2
   go_enter Tryz.func41, Tryz.ntmps41
   go_wp2
   go_ret
   exact ⟨rfl, rfl⟩
theorem own_empty (w : World) (e : TypeId) : (w.alloc (.cells #[] e)).ownsRow w.heap.size e 1 (.slice (some ⟨w.heap.size, 0, none⟩) 0 0) 0 [] := ⟨rfl, .inr ⟨w.heap.size, 0, #[], rfl, Nat.le_refl _, blk_new w _, Nat.le_refl _, by unfold maxLen; omega, rfl, rfl⟩⟩
def vLen : Value → Nat | .string b => b.size | _ => 0
theorem B_take (l : Bs) (j : Nat) : (B l).extract 0 j = B (l.take j) := by rw [B_extract]; rfl
set_option maxHeartbeats 4000000 in
set_option maxRecDepth 100000 in
theorem specTrim_walk (l : Bs) (w : World) (hl : l.length ≤ 1000000) : Calls Tryz.prog 70 #[.string (B l)] w fun e w' => e = .returned (.string (B (trimU l))) ∧ Below w.heap.size w w' := by
 go_enter Tryz.func70, Tryz.ntmps70
 go_upto_block 0 with fail
 go_cut [0] (fun v wc => v = .string (B (ltrim l)) ∧ w = wc)
 case first =>
  go_wp2_with fail
  go_loop [0] (fun v => ∃ y : Bs, y.length ≤ 1000000 ∧ v = .string (B y) ∧ Hid (ltrim y = ltrim l)) vLen
  case atStart => exact ⟨l, hl, rfl, Lib.hid rfl⟩
  case round =>
   obtain ⟨y, hy, rfl, HY⟩ := hrel
   cases y with
   | nil =>
    have HZ : Hid (([] : Bs) = ltrim l) := Lib.hid HY.out
    go_wp2
    go_meet
    case rel => exact ⟨by rw [← HZ.out], rfl⟩
   | cons c t =>
    have hst := ltrim_cons t c
    rw [HY.out] at hst
    have hex : (B (c :: t)).extract 1 (t.length + 1) = B t := by rw [B_extract, List.take_of_length_le (by simp)]; rfl
    by_cases hc : c.toNat ≤ 32
    ·have hb : decide ((c.toNat : Int) ≤ 32) = true := decide_eq_true (by omega)
     rw [if_pos (show low c = true from decide_eq_true hc)] at hst
     have HS := Lib.hid hst
     clear hst
     go_wp2
     go_round
     case rel => exact ⟨t, by simp at hy; omega, rfl, Lib.hid HS.out.symm⟩
     case measure => simp [vLen]
    ·have hb : decide ((c.toNat : Int) ≤ 32) = false := decide_eq_false (by omega)
     rw [if_neg (by unfold low; simp; omega)] at hst
     have HS := Lib.hid hst
     clear hst
     go_wp2
     go_meet
     case rel => exact ⟨by rw [HS.out], rfl⟩
 case rest =>
  obtain ⟨rfl, rfl⟩ := hcut
  go_upto_block 2 with fail
  go_cut [0] (fun v wc => v = .string (B (rtrim (ltrim l))) ∧ w = wc)
  case first =>
   go_wp2_with fail
   go_loop [0] (fun v => ∃ y : Bs, y.length ≤ 1000000 ∧ v = .string (B y) ∧ Hid (rtrim y = rtrim (ltrim l))) vLen
   case atStart => exact ⟨ltrim l, by have := ltrim_len l; omega, rfl, Lib.hid rfl⟩
   case round =>
    obtain ⟨y, hy, rfl, HY⟩ := hrel
    by_cases h0 : y.length = 0
    ·obtain rfl : y = [] := List.eq_nil_of_length_eq_zero h0
     have HZ : Hid (([] : Bs) = rtrim (ltrim l)) := Lib.hid HY.out
     go_wp2
     go_meet
     case rel => exact ⟨by rw [← HZ.out], rfl⟩
    ·obtain ⟨j, hj⟩ : ∃ j, y.length = j + 1 := ⟨y.length - 1, by omega⟩
     have hlt : j < y.length := by omega
     have hsn := rtrim_at y j hlt
     rw [List.take_of_length_le (by omega), HY.out] at hsn
     have hj1 : (y.length : Int) = (j : Int) + 1 := by omega
     have hex := B_take y j
     by_cases hc : y[j].toNat ≤ 32
     ·have hb : decide ((y[j].toNat : Int) ≤ 32) = true := decide_eq_true (by omega)
      rw [if_pos (show low y[j] = true from decide_eq_true hc)] at hsn
      have HS := Lib.hid hsn
      clear hsn
      go_wp2
      go_round
      case rel => exact ⟨y.take j, by simp; omega, rfl, Lib.hid HS.out.symm⟩
      case measure => simp [vLen]; omega
     ·have hb : decide ((y[j].toNat : Int) ≤ 32) = false := decide_eq_false (by omega)
      rw [if_neg (by unfold low; simp; omega)] at hsn
      have HS := Lib.hid hsn
      clear hsn
      go_wp2
      go_meet
      case rel => exact ⟨by rw [HS.out], rfl⟩
  case rest =>
   obtain ⟨rfl, rfl⟩ := hcut
   have HT : Hid (trimU l = noEnds (rtrim (ltrim l))) := Lib.hid rfl
   have hlen : (rtrim (ltrim l)).length ≤ 1000000 := by have h1 := rtrim_len (ltrim l); have h2 := ltrim_len l; omega
   generalize rtrim (ltrim l) = x at HT hlen ⊢
   obtain ⟨i0, hi, hz0, hz1, hz2⟩ := info_parts infoByte
   go_wp2
   go_loopw [3, 4] (fun v i wr => ∃ k : Nat, k ≤ x.length ∧ i = .int .i64 k ∧ wr.ownsRow w.heap.size 5 1 v (noEnds (x.take k)).length (Lib.byteCells (noEnds (x.take k))) ∧ Below w.heap.size w wr) (fun _ i _ => x.length - (intOf i).toNat)
   case atStart => exact ⟨0, by omega, rfl, own_empty w 5, (Below.refl _ w).alloc (Nat.le_refl _) _⟩
   case round =>
    obtain ⟨q, hq, rfl, hown, hb⟩ := hrel
    by_cases hlt : q < x.length
    ·have hst := noEnds_take x q hlt
     have hnl := noEnds_len (x.take q)
     have hql : (x.take q).length ≤ 1000000 := by simp; omega
     have hle := lend_int x[q]
     cases t1 : ((x[q].toNat : Int) == 9) <;> cases t2 : ((x[q].toNat : Int) == 10) <;> cases t3 : ((x[q].toNat : Int) == 13)
     case false.false.false =>
      rw [t1, t2, t3] at hle
      rw [hle, if_neg (by simp)] at hst
      have n1 : ((x[q].toNat : Int) != 9) = true := by unfold bne; rw [t1]; rfl
      have n2 : ((x[q].toNat : Int) != 10) = true := by unfold bne; rw [t2]; rfl
      have n3 : ((x[q].toNat : Int) != 13) = true := by unfold bne; rw [t3]; rfl
      have HS := Lib.hid hst
      clear hst hle
      go_wp2_with (at_builtin; refine wpList_append_own _ rfl _ _ 22 rfl w.heap.size 5 i0 (.int .u8 0) 1 1 Tryz.underlying22 hi hz0 hz1 hz2 rfl (by decide) _ _ _ rfl (hown.alloc _) ⟨wr.heap.size, 0, none⟩ 1 1 [.int .u8 ((x[q].toNat : Nat) : Int)] rfl rfl ?c1 ?c2 ?c3 ?c4 ?c5 ?_)
      case c1 =>
       intro j u hj
       match j, hj with
       | 0, hj => simp at hj; subst hj; simp [Addr.add]
      case c2 => intro u hu; simp at hu; subst hu; rfl
      case c3 => unfold maxLen; omega
      case c4 => omega
      case c5 => have := hb.size; simp; omega
      intro v' w6 hown' hgrow _
      go_wp2
      go_roundw
      case rel =>
       refine ⟨q + 1, by omega, by go_num, ?_, ?_⟩
       ·rw [HS.out, cells_app2]; simpa using hown'
       ·exact (hb.alloc hb.size _).grown hgrow (by have := hb.size; simp; omega) (fun j hj => by have := (hown.lt j hj).1; omega)
      case measure => simp [intOf]; omega
     all_goals
      rw [t1, t2, t3] at hle
      rw [hle, if_pos (by rfl), List.append_nil] at hst
      have n1 : ((x[q].toNat : Int) != 9) = !((x[q].toNat : Int) == 9) := rfl
      have n2 : ((x[q].toNat : Int) != 10) = !((x[q].toNat : Int) == 10) := rfl
      have n3 : ((x[q].toNat : Int) != 13) = !((x[q].toNat : Int) == 13) := rfl
      simp only [t1, t2, t3, Bool.not_true, Bool.not_false] at n1 n2 n3
      have HS := Lib.hid hst
      clear hst hle
      go_wp2
      go_roundw
      case rel => exact ⟨q + 1, by omega, by go_num, by rw [HS.out]; exact hown, hb⟩
      case measure => simp [intOf]; omega
    ·obtain rfl : q = x.length := by omega
     rw [List.take_of_length_le (Nat.le_refl _), ← HT.out] at hown
     have hcv := own_str (P := Tryz.prog) (src := 22) (dst := 9) Tryz.underlying22 Tryz.underlying5 Tryz.underlying9 hown
     have HB := Lib.hid hb
     clear hb hown
     go_wp2
     go_ret
     exact ⟨rfl, HB.out⟩
end Go.Proofs.YtopcpbokfngpeaaGreatDoor.H
