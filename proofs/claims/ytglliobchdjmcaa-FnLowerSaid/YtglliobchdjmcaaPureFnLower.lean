/- The pure side of the law FnLower: what the printed functions tell is what the law says, for every input within the law's bounds. -/
import Derived.Test.YtglliobchdjmcaaPFnLowerx2
import Derived.Test.YtglliobchdjmcaaBase
set_option linter.unusedVariables false
set_option linter.unusedSimpArgs false
namespace Go.Proofs.Ytglliobchdjmcaa.Pure
open Go.RowKit Go.Proofs.Ytglliobchdjmcaa.H Go.Proofs.Ytglliobchdjmcaa.PFnLower Go.Proofs.YtglliobchdjmcaaW.PrintWords Go.Proofs.YtglliobchdjmcaaW.PrintLast Go.Proofs.Ytglliobchdjmcaa.Base

theorem impl_Lower_some (l : Bs) (h : l.length ≤ 140737488355328) : impl_Lower.f (B l) = some (B (lower l)) := by
  unfold impl_Lower.f; rw [if_pos (by simpa using h), B_data]
theorem lower_length (l : Bs) : (lower l).length = l.length := by simp [lower]
theorem spec_Lower_l0 (l : Bs) (hl : l.length ≤ 140737488355327) (d : Nat) : ∀ i : Nat, i + d = l.length → Ev (fun k => spec_Lower.l0 k (B l) (ns ((l.take i).map lowB)) i) (B (lower l)) := by
  induction d with
  | zero =>
    intro i hi
    refine ev_1 fun k => ?_
    simp only [spec_Lower.l0]
    rw [if_neg (by rw [B_size]; omega), str_ns, List.take_of_length_le (by omega)]; rfl
  | succ d ih =>
    intro i hi
    have hlt : i < l.length := by omega
    have e := ih (i + 1) (by omega)
    rw [List.take_succ_eq_append_getElem hlt, List.map_append, List.map_singleton, ns_append, ns_one] at e
    refine Ev.step (fun k => by rw [spec_Lower.l0]) ?_
    have hi0 : (0 : Int) ≤ (i : Int) := by omega
    have hi1 : (i : Int) < (l.length : Int) := by omega
    have hln : (ns ((l.take i).map lowB)).length < 140737488355328 := by simp; omega
    have hw : wrap64 ((i : Int) + 1) = ((i + 1 : Nat) : Int) := by rw [w64 (by omega) (by omega)]; rfl
    simp only [B_size, bt_B, Int.toNat_natCast, get_eq hlt, if_pos hi0, if_pos hi1, if_pos hln, hw]
    have h1 := lt256 l[i]
    by_cases c1 : ((l[i].toNat : Nat) : Int) ≥ 65
    · by_cases c2 : ((l[i].toNat : Nat) : Int) ≤ 90
      · have : ((lowB l[i]).toNat : Int) = (((l[i].toNat : Nat) : Int) + 32) % 256 := by
          unfold lowB; rw [if_pos (by omega)]; simp
        simp only [if_pos c1, if_pos c2, ← this]; exact e
      · have : lowB l[i] = l[i] := by unfold lowB; rw [if_neg (by omega)]
        rw [this] at e
        simp only [if_pos c1, if_neg c2]; exact e
    · have : lowB l[i] = l[i] := by unfold lowB; rw [if_neg (by omega)]
      rw [this] at e
      simp only [if_neg c1]; exact e
theorem spec_Lower_ev (l : Bs) (hl : l.length ≤ 140737488355327) : Ev (fun k => spec_Lower.f k (B l)) (B (lower l)) := by
  unfold spec_Lower.f
  have := spec_Lower_l0 l hl l.length 0 (by omega)
  simpa [ns] using this

/-- A reader over these bytes may be asked some more times. -/
def RdOk (s : List Int) (p : Int) (n : Nat) : Prop := (∀ x ∈ s, 0 ≤ x ∧ x ≤ 255) ∧ s.length ≤ 2000 ∧ 0 ≤ p ∧ p + n ≤ 1000000000
theorem xor_nn (a b : Int) (ha : 0 ≤ a) (ha' : a < 4611686018427387904) (hb : 0 ≤ b) (hb' : b < 4611686018427387904) : 0 ≤ Go.bits .xor .i64 a b ∧ Go.bits .xor .i64 a b < 4611686018427387904 := by
  obtain ⟨a, rfl⟩ := Int.eq_ofNat_of_zero_le ha
  obtain ⟨b, rfl⟩ := Int.eq_ofNat_of_zero_le hb
  have hx : a ^^^ b < 2 ^ 62 := Nat.xor_lt_two_pow (by omega) (by omega)
  have h1 : (BitVec.ofInt 64 (a : Int)).toNat = a := by
    rw [BitVec.ofInt_natCast, BitVec.toNat_ofNat]; exact Nat.mod_eq_of_lt (by omega)
  have h2 : (BitVec.ofInt 64 (b : Int)).toNat = b := by
    rw [BitVec.ofInt_natCast, BitVec.toNat_ofNat]; exact Nat.mod_eq_of_lt (by omega)
  have e : Go.bits .xor .i64 (a : Int) (b : Int) = ((a ^^^ b : Nat) : Int) := by
    show IntKind.i64.wrap ((BitVec.ofInt 64 (a : Int) ^^^ BitVec.ofInt 64 (b : Int)).toNat : Int) = _
    rw [BitVec.toNat_xor, h1, h2, i64_w]
    exact w64 (by omega) (by omega)
  rw [e]; omega
theorem tmod_rng (a n : Int) (ha : 0 ≤ a) (hn : 0 < n) : 0 ≤ Int.tmod a n ∧ Int.tmod a n < n := by
  rw [Int.tmod_eq_emod_of_nonneg ha]; exact ⟨Int.emod_nonneg _ (by omega), Int.emod_lt_of_pos _ hn⟩
theorem tdiv_rng (a n : Int) (ha : 0 ≤ a) (hn : 0 < n) : 0 ≤ Int.tdiv a n ∧ Int.tdiv a n ≤ a := by
  rw [Int.tdiv_eq_ediv_of_nonneg ha]; exact ⟨Int.ediv_nonneg ha (by omega), Int.ediv_le_self _ ha⟩
theorem rd_rng {s : List Int} (h : ∀ x ∈ s, 0 ≤ x ∧ x ≤ 255) (i : Int) : 0 ≤ rd s i ∧ rd s i ≤ 255 := by
  unfold rd
  by_cases hi : i.toNat < s.length
  · rw [List.getD_eq_getElem?_getD, List.getElem?_eq_getElem hi]; exact h _ (List.getElem_mem hi)
  · rw [List.getD_eq_getElem?_getD, List.getElem?_eq_none (by omega)]; simp
theorem pick_some (k : Nat) (s : List Int) (p n : Int) {m : Nat} (h : RdOk s p (m + 1)) (hn : 1 ≤ n) (hn' : n ≤ 1000000) : ∃ r, spec_l1Rd_pick.f (k + 1) s p n = some (r, p + 1) ∧ 0 ≤ r ∧ r < n := by
  obtain ⟨hs, hl, hp, hp'⟩ := h
  unfold spec_l1Rd_pick.f
  rw [if_neg (by omega), w64 (n := p + 1) (by omega) (by omega)]
  simp only [spec_l1Rd_pick.j0]
  by_cases hz : s.length = 0
  · rw [if_pos (by simp [hz])]; exact ⟨0, rfl, by omega, by omega⟩
  · rw [if_neg (by simp; exact fun e => hz (by simp [e])), w64 (n := p + 1 - 1) (by omega) (by omega)]
    have e1 : p + 1 - 1 = p := by omega
    rw [e1]
    have hlen : (0 : Int) < s.length := by omega
    by_cases hlt : p < s.length
    · rw [if_pos hlt, if_pos hp, if_neg (by omega)]
      have hr := rd_rng hs p
      rw [w64 (n := rd s p) (by omega) (by omega)]
      obtain ⟨h1, h2⟩ := tmod_rng (rd s p) n hr.1 (by omega)
      exact ⟨_, rfl, h1, h2⟩
    · rw [if_neg hlt, if_neg (by omega)]
      rw [w64 (n := p * 7) (by omega) (by omega), w64 (n := p * 7 + 3) (by omega) (by omega)]
      obtain ⟨a1, a2⟩ := tmod_rng p s.length hp hlen
      obtain ⟨b1, b2⟩ := tmod_rng (p * 7 + 3) s.length (by omega) hlen
      rw [if_pos a1, if_pos a2, if_pos b1, if_pos b2, if_neg (by omega)]
      have ra := rd_rng hs (Int.tmod p s.length)
      have rb := rd_rng hs (Int.tmod (p * 7 + 3) s.length)
      generalize rd s (Int.tmod p s.length) = x at ra ⊢
      generalize rd s (Int.tmod (p * 7 + 3) s.length) = y at rb ⊢
      obtain ⟨d1, d2⟩ := tdiv_rng p s.length hp hlen
      generalize Int.tdiv p s.length = q at d1 d2 ⊢
      rw [w64 (n := x) (by omega) (by omega), w64 (n := y) (by omega) (by omega), w64 (n := x * 131) (by omega) (by omega), w64 (n := y * 1117) (by omega) (by omega), w64 (n := q) (by omega) (by omega), w64 (n := q * 53) (by omega) (by omega), w64 (n := p * 29) (by omega) (by omega),
        w64 (n := x * 131 + y * 1117) (by omega) (by omega), w64 (n := x * 131 + y * 1117 + p * 29) (by omega) (by omega), w64 (n := x * 131 + y * 1117 + p * 29 + q * 53) (by omega) (by omega)]
      have hz0 : 0 ≤ x * 131 + y * 1117 + p * 29 + q * 53 := by omega
      have hz1 : x * 131 + y * 1117 + p * 29 + q * 53 < 4611686018427387904 := by omega
      generalize x * 131 + y * 1117 + p * 29 + q * 53 = z at hz0 hz1 ⊢
      obtain ⟨t1, t2⟩ := tdiv_rng z 64 hz0 (by omega)
      rw [w64 (n := Int.tdiv z 64) (by omega) (by omega)]
      obtain ⟨x1, x2⟩ := xor_nn z (Int.tdiv z 64) hz0 hz1 t1 (by omega)
      obtain ⟨h1, h2⟩ := tmod_rng _ n x1 (by omega)
      exact ⟨_, rfl, h1, h2⟩
theorem RdOk.step {s : List Int} {p : Int} {m : Nat} (h : RdOk s p (m + 1)) : RdOk s (p + 1) m := ⟨h.1, h.2.1, by have := h.2.2.1; omega, by have := h.2.2.2; omega⟩
theorem l1Open_ok (l0 : List Int) (h : ∀ x ∈ l0, (Lit.int .u8 x).wf = true) (m : Nat) (hm : m ≤ 1000000000) : ∃ s, spec_l1Open.f l0 = some (s, 0) ∧ RdOk s 0 m := by
  have h' : ∀ x ∈ l0, 0 ≤ x ∧ x ≤ 255 := by
    intro x hx
    have := h x hx
    simp [Lit.wf, IntKind.min, IntKind.max, IntKind.bits, IntKind.signed] at this
    omega
  unfold spec_l1Open.f
  by_cases hl : (l0.length : Int) > 2000
  · rw [if_pos hl, if_pos (by omega)]
    exact ⟨_, rfl, fun x hx => h' x (List.mem_of_mem_take hx), by simp; omega, by omega, by omega⟩
  · rw [if_neg hl]
    exact ⟨_, rfl, h', by omega, by omega, by omega⟩
theorem pick_ev (s : List Int) (p n : Int) {m : Nat} (h : RdOk s p (m + 1)) (hn : 1 ≤ n) (hn' : n ≤ 1000000) : ∃ r, Ev (fun k => spec_l1Rd_pick.f k s p n) (r, p + 1) ∧ 0 ≤ r ∧ r < n := by
  obtain ⟨r, hr, h0, h1⟩ := pick_some 0 s p n h hn hn'
  exact ⟨r, Ev.of (fun k => spec_l1Rd_pick.mono _ _ _ k) hr, h0, h1⟩

theorem of_some (k : Nat) (s : List Int) (p : Int) {m : Nat} (h : RdOk s p (m + 1)) (l : List ByteArray) (hl : l ≠ []) (hl' : l.length ≤ 1000000) : ∃ x ∈ l, spec_l1Rd_of.f (k + 1) s p l = some (x, p + 1) := by
  have hpos : 0 < l.length := List.length_pos_iff.2 hl
  obtain ⟨r, hr, h0, h1⟩ := pick_some k s p l.length h (by omega) (by omega)
  refine ⟨rdOf ByteArray.empty l r, ?_, ?_⟩
  · unfold rdOf
    rw [List.getD_eq_getElem?_getD, List.getElem?_eq_getElem (show r.toNat < l.length by omega)]
    exact List.getElem_mem _
  · unfold spec_l1Rd_of.f
    rw [hr]
    simp only [Option.bind_some]
    rw [if_pos h0, if_pos h1]
theorem of_ev (s : List Int) (p : Int) {m : Nat} (h : RdOk s p (m + 1)) (l : List ByteArray) (hl : l ≠ []) (hl' : l.length ≤ 1000000) : ∃ x ∈ l, Ev (fun k => spec_l1Rd_of.f k s p l) (x, p + 1) := by
  obtain ⟨x, hx, e⟩ := of_some 0 s p h l hl hl'
  exact ⟨x, hx, Ev.of (fun k => spec_l1Rd_of.mono _ _ _ k) e⟩

theorem RdOk.less {s : List Int} {p : Int} {m n : Nat} (h : RdOk s p n) (hm : m ≤ n) : RdOk s p m := ⟨h.1, h.2.1, h.2.2.1, by have := h.2.2.2; omega⟩
theorem one_ev (s : List Int) (p : Int) {m : Nat} (h : RdOk s p (m + 1)) (l : List Int) (hl : l ≠ []) (hl' : l.length ≤ 1000000) : ∃ x ∈ l, Ev (fun k => spec_l1Rd_one.f k s p l) (x, p + 1) := by
  have hpos : 0 < l.length := List.length_pos_iff.2 hl
  obtain ⟨r, hr, h0, h1⟩ := pick_ev s p l.length h (by omega) (by omega)
  refine ⟨rd l r, ?_, ?_⟩
  · unfold rd
    rw [List.getD_eq_getElem?_getD, List.getElem?_eq_getElem (show r.toNat < l.length by omega)]
    exact List.getElem_mem _
  · unfold spec_l1Rd_one.f
    refine ev_bind hr ?_
    simp only [if_pos h0, if_pos h1]
    exact Ev.now _
theorem mod_byte (x : Int) : ∃ c : UInt8, x % 256 = ((c.toNat : Nat) : Int) := by
  refine ⟨UInt8.ofNat (x % 256).toNat, ?_⟩
  have h0 : 0 ≤ x % 256 := Int.emod_nonneg _ (by decide)
  have h1 : x % 256 < 256 := Int.emod_lt_of_pos _ (by decide)
  simp; omega
theorem bytes_l0 (s : List Int) : ∀ (n : Nat) (b : Bs) (p : Int) (m : Nat), b.length + n ≤ 100000 → RdOk s p (2 * n + m) → ∃ b' : Bs, b'.length = b.length + n ∧ Ev (fun k => spec_l11Bytes.l0 k n (ns b) s p) (B b', p + 2 * n) := by
  intro n
  induction n with
  | zero =>
    intro b p m hb h
    refine ⟨b, rfl, ev_1 fun k => ?_⟩
    simp only [spec_l11Bytes.l0]
    rw [if_neg (by omega), str_ns]; simp
  | succ n ih =>
    intro b p m hb h
    have h' : RdOk s p (2 * n + m + 1 + 1) := h.less (by omega)
    obtain ⟨r, hr, r0, r1⟩ := pick_ev s p 256 h' (by omega) (by omega)
    obtain ⟨x, _, hx⟩ := one_ev s _ h'.step [97, 98, 37, 47, 63, 35, 32, 43, 38, 61, 50, 70, 64, 58, 92, 46, 255, 0, 195, r] (by simp) (by simp)
    obtain ⟨c, hc⟩ := mod_byte x
    obtain ⟨b', hl, e⟩ := ih (b ++ [c]) (p + 1 + 1) m (by simp; omega) h'.step.step
    refine ⟨b', by simp at hl; omega, ?_⟩
    refine Ev.step (fun k => by rw [spec_l11Bytes.l0]) ?_
    simp only [if_pos (show ((n + 1 : Nat) : Int) > 0 by omega)]
    refine ev_bind hr ?_
    refine ev_bind hx ?_
    have hlen : (ns b).length < 140737488355328 := by simp; omega
    have hw : wrap64 (((n + 1 : Nat) : Int) - 1) = (n : Int) := by rw [w64 (by omega) (by omega)]; omega
    simp only [if_pos hlen, hc, hw]
    rw [ns_append, ns_one] at e
    have hp : p + 1 + 1 + 2 * (n : Int) = p + 2 * ((n + 1 : Nat) : Int) := by omega
    rw [hp] at e
    exact e
theorem bytes_ev (s : List Int) (n : Nat) (p : Int) (m : Nat) (hn : n ≤ 100000) (h : RdOk s p (2 * n + m)) : ∃ b : Bs, b.length = n ∧ Ev (fun k => spec_l11Bytes.f k s p n) (B b, p + 2 * n) := by
  obtain ⟨b, hb, e⟩ := bytes_l0 s n [] p m (by simpa using hn) h
  exact ⟨b, by simpa using hb, e⟩
theorem RdOk.skip {s : List Int} {p : Int} {m n : Nat} (h : RdOk s p (n + m)) : RdOk s (p + n) m := ⟨h.1, h.2.1, by have := h.2.2.1; omega, by have := h.2.2.2; omega⟩

theorem lowB_idem (c : UInt8) : lowB (lowB c) = lowB c := by
  unfold lowB
  by_cases h : 65 ≤ c.toNat ∧ c.toNat ≤ 90
  · have h2 : (c + 32).toNat = c.toNat + 32 := by simp; omega
    rw [if_pos h, if_neg (by rw [h2]; omega)]
  · rw [if_neg h, if_neg h]
theorem lower_idem (l : Bs) : lower (lower l) = lower l := by
  unfold lower; rw [List.map_map]; exact List.map_congr_left fun c _ => lowB_idem c
theorem law_l0 (l : Bs) (hl : l.length ≤ 1000000) (d : Nat) : ∀ i : Nat, i + d = l.length → Ev (fun k => laws_FnLower.l0 k (B l) (B (lower l)) i) true := by
  induction d with
  | zero =>
    intro i hi
    refine ev_1 fun k => ?_
    simp only [laws_FnLower.l0]
    rw [if_neg (by rw [B_size, lower_length]; omega)]
  | succ d ih =>
    intro i hi
    have hlt : i < l.length := by omega
    have hlt' : i < (lower l).length := by rw [lower_length]; omega
    have e := ih (i + 1) (by omega)
    refine Ev.step (fun k => by rw [laws_FnLower.l0]) ?_
    have hi0 : (0 : Int) ≤ (i : Int) := by omega
    have hi1 : (i : Int) < (l.length : Int) := by omega
    have hw : wrap64 ((i : Int) + 1) = ((i + 1 : Nat) : Int) := by rw [w64 (by omega) (by omega)]; rfl
    have hg : (lower l)[i] = lowB l[i] := by simp [lower]
    simp only [B_size, bt_B, Int.toNat_natCast, get_eq hlt, get_eq hlt', lower_length, if_pos hi0, if_pos hi1, hw, hg]
    have h1 := lt256 l[i]
    by_cases c : 65 ≤ l[i].toNat ∧ l[i].toNat ≤ 90
    · have hv : ((lowB l[i]).toNat : Int) = ((l[i].toNat : Nat) : Int) + 32 := by unfold lowB; rw [if_pos c]; simp; omega
      simp only [hv]
      simp only [if_pos (show ((l[i].toNat : Nat) : Int) + 32 ≥ 65 by omega), if_neg (show ¬ ((l[i].toNat : Nat) : Int) + 32 ≤ 90 by omega), if_neg (show ¬ ((l[i].toNat : Nat) : Int) + 32 = ((l[i].toNat : Nat) : Int) by omega), if_pos (show ((l[i].toNat : Nat) : Int) + 32 = (((l[i].toNat : Nat) : Int) + 32) % 256 by omega)]
      exact e
    · have hv : lowB l[i] = l[i] := by unfold lowB; rw [if_neg c]
      simp only [hv, if_true]
      by_cases c1 : ((l[i].toNat : Nat) : Int) ≥ 65
      · simp only [if_pos c1, if_neg (show ¬ ((l[i].toNat : Nat) : Int) ≤ 90 by omega)]; exact e
      · simp only [if_neg c1]; exact e
theorem FnLower : laws_FnLower.Pure := by
  intro l0 _ _ hb
  refine Ev.rounds ?_
  unfold laws_FnLower.f
  by_cases hl : (l0.length : Int) > 1048576
  · simp only [if_pos hl]; exact Ev.now _
  simp only [if_neg hl]
  obtain ⟨s, hs, hok⟩ := l1Open_ok l0 hb 99 (by omega)
  have hd : ∃ l : Bs, l.length ≤ 1000000 ∧ Ev (fun k => spec_DrawLower.f k l0) (B l) := by
    unfold spec_DrawLower.f
    obtain ⟨b, hbl, hbe⟩ := bytes_ev s 5 0 80 (by omega) (hok.less (by omega))
    obtain ⟨x, hx, hxe⟩ := of_ev s (0 + 2 * ((5 : Nat) : Int)) (m := 79) ((hok.less (m := 10 + 80) (by omega)).skip) ([(⟨#[65, 98, 67]⟩ : ByteArray), (⟨#[]⟩ : ByteArray), (⟨#[90, 64, 91, 122]⟩ : ByteArray), B b] : List ByteArray) (by simp) (by simp)
    have sx : x.size ≤ 1000000 := by
      simp only [List.mem_cons, List.not_mem_nil, or_false] at hx
      rcases hx with rfl | rfl | rfl | rfl
      · decide
      · decide
      · decide
      · simp; omega
    obtain ⟨l, rfl, hl⟩ := exBn x _ sx
    refine ⟨l, hl, ?_⟩
    simp only [hs, Option.bind_some]
    refine ev_bind hbe ?_
    refine ev_bind hxe ?_
    exact Ev.now _
  obtain ⟨l, hl, hd⟩ := hd
  refine ev_bind hd ?_
  simp only [impl_Lower_some l (by omega), Option.bind_some]
  refine ev_bind (spec_Lower_ev l (by omega)) ?_
  simp only [if_true, B_size, lower_length, impl_Lower_some (lower l) (by rw [lower_length]; omega), Option.bind_some, lower_idem]
  refine Ev.step (fun k => by rw [laws_FnLower.j0]) ?_
  simp only [bne_self_eq_false, Bool.false_eq_true, if_false]
  exact law_l0 l hl l.length 0 (by omega)

end Go.Proofs.Ytglliobchdjmcaa.Pure
